/- A part of the proof: a verified generator of conditions, and what each function of the program does. -/
import Derived.Test.YtkafionfghoggaaM9
set_option maxRecDepth 100000
set_option linter.unusedSimpArgs false
set_option linter.unusedVariables false

set_option maxRecDepth 100000
set_option linter.unusedSimpArgs false
set_option linter.unusedVariables false
namespace Go.Vc.T
open Go Go.Vc Go.Proofs
def Es {α : Type} (c : α → List AV) (xs : List α) : List (List AV) := xs.map c
def gx {α : Type} [Inhabited α] (xs : List α) (j : Int) : α := xs.getD j.toNat default
def eB (b : Bool) : List AV := [.val (.bool b)]
def eI (b : Int) : List AV := [.val (.int .i64 b)]
def eL (x : List (List Int)) : List AV := [.lst true 1 (Ls x)]
section
variable {α : Type} {c : α → List AV}
@[simp] theorem Es_length (xs : List α) : (Es c xs).length = xs.length := by simp [Es]
@[simp] theorem Es_nil : Es c [] = [] := rfl
theorem Es_append (xs ys : List α) : Es c (xs ++ ys) = Es c xs ++ Es c ys := by simp [Es]
theorem Es_set' (xs : List α) (i : Nat) (x : α) : Es c (xs.set i x) = (Es c xs).set i (c x) := by simp [Es, List.map_set]
theorem at_E [Inhabited α] {xs : List α} {j : Int} (h : 0 ≤ j ∧ j < (xs.length : Int)) : (Es c xs)[j.toNat]? = some (c (gx xs j)) := by
 have h2 : j.toNat < xs.length := by omega
 simp [Es, gx, List.getD_eq_getElem?_getD, h2]
end
@[simp] theorem Ls_nil' : Ls [] = [] := rfl
theorem Ls_append (xs ys : List (List Int)) : Ls (xs ++ ys) = Ls xs ++ Ls ys := by simp [Ls]
theorem at_I {xs : List Int} {j : Int} (h : 0 ≤ j ∧ j < (xs.length : Int)) : (Is xs)[j.toNat]? = some [.val (.int .i64 (ix xs j))] := by
 have h2 : j.toNat < xs.length := by omega
 simp [Is, ix, List.getD_eq_getElem?_getD, h2]
theorem at_L {xs : List (List Int)} {j : Int} (h : 0 ≤ j ∧ j < (xs.length : Int)) : (Ls xs)[j.toNat]? = some [.lst true 1 (Is (rx xs j))] := by
 have h2 : j.toNat < xs.length := by omega
 simp [Ls, rx, List.getD_eq_getElem?_getD, h2]
@[simp] theorem Is_takeA (xs : List Int) : List.take xs.length (Is xs) = Is xs := List.take_of_length_le (by simp)
@[simp] theorem Ls_takeA (xs : List (List Int)) : List.take xs.length (Ls xs) = Ls xs := List.take_of_length_le (by simp)
@[simp] theorem Bs_nil' : Bs [] = [] := rfl
theorem Bs_append (xs ys : List Bool) : Bs (xs ++ ys) = Bs xs ++ Bs ys := by simp [Bs]
theorem IA (xs ys : List Int) : Is (xs ++ ys) = Is xs ++ Is ys := Is_append xs ys
theorem I1 (x : Int) (xs : List Int) : Is (x :: xs) = [.val (.int .i64 x)] :: Is xs := rfl
theorem LA (xs ys : List (List Int)) : Ls (xs ++ ys) = Ls xs ++ Ls ys := Ls_append xs ys
theorem L1 (x : List Int) (xs : List (List Int)) : Ls (x :: xs) = [.lst true 1 (Is x)] :: Ls xs := rfl
theorem BA (xs ys : List Bool) : Bs (xs ++ ys) = Bs xs ++ Bs ys := Bs_append xs ys
theorem B1 (x : Bool) (xs : List Bool) : Bs (x :: xs) = [.val (.bool x)] :: Bs xs := rfl
theorem EA {α : Type} {c : α → List AV} (xs ys : List α) : Es c (xs ++ ys) = Es c xs ++ Es c ys := Es_append xs ys
theorem E1 {α : Type} {c : α → List AV} (x : α) (xs : List α) : Es c (x :: xs) = c x :: Es c xs := rfl
theorem E2 {α : Type} {c : α → List AV} (xs : List α) (i : Nat) (x : α) : Es c (xs.set i x) = (Es c xs).set i (c x) := Es_set' xs i x
theorem rlLL_c {α : Type} {m : List (Nat × Nat)} {c : α → List AV} (h : ∀ x, rlL m (c x) = c x) : ∀ xs : List α, rlLL m (xs.map c) = xs.map c := by
 intro xs
 induction xs with
 | nil => rfl
 | cons a r ih => simp only [List.map_cons, rlLL, h, ih]
@[simp] theorem rlLL_Ls (m : List (Nat × Nat)) (xs : List (List Int)) : rlLL m (Ls xs) = Ls xs := rlLL_c (fun _ => rfl) xs
@[simp] theorem rlLL_append (m : List (Nat × Nat)) (xs ys : List (List AV)) : rlLL m (xs ++ ys) = rlLL m xs ++ rlLL m ys := by
 induction xs with
 | nil => rfl
 | cons a r ih => simp only [List.cons_append, rlLL, ih]
end Go.Vc.T

set_option maxRecDepth 100000
set_option linter.unusedSimpArgs false
set_option linter.unusedVariables false
namespace Go.Vc.T
open Go Go.Vc Go.Proofs
def eP_Cat (x : Cat) : List AV := [.rptr (x.cells true)]
def eP_Fn (x : Fn) : List AV := [.rptr (x.cells true)]
def eP_SF (x : SF) : List AV := [.rptr (x.cells true)]
def eP_SM (x : SM) : List AV := [.rptr (x.cells true)]
instance : Inhabited Cat := ⟨⟨0, [], [], [], []⟩⟩
instance : Inhabited Fn := ⟨⟨default, default, [], []⟩⟩
instance : Inhabited SF := ⟨⟨default, [], []⟩⟩
instance : Inhabited SM := ⟨⟨default, default, []⟩⟩
structure Adj where
 l : Fn
 r : Fn
 u : List Int
 k : List Int
def Adj.cells (u : Bool) (f : Adj) : List AV := [.val (.int .i64 f.l.s.n), .lst u 1 (Is f.l.s.fr), .lst u 1 (Is f.l.s.to), .lst u 1 (Is f.l.s.id), .lst u 1 (Ls f.l.s.cs), .val (.int .i64 f.l.t.n), .lst u 1 (Is f.l.t.fr), .lst u 1 (Is f.l.t.to), .lst u 1 (Is f.l.t.id), .lst u 1 (Ls f.l.t.cs), .lst u 1 (Is f.l.ob), .lst u 1 (Is f.l.ar), .val (.int .i64 f.r.s.n), .lst u 1 (Is f.r.s.fr), .lst u 1 (Is f.r.s.to), .lst u 1 (Is f.r.s.id), .lst u 1 (Ls f.r.s.cs), .val (.int .i64 f.r.t.n), .lst u 1 (Is f.r.t.fr), .lst u 1 (Is f.r.t.to), .lst u 1 (Is f.r.t.id), .lst u 1 (Ls f.r.t.cs), .lst u 1 (Is f.r.ob), .lst u 1 (Is f.r.ar), .lst u 1 (Is f.u), .lst u 1 (Is f.k)]
structure Ends where
 a : Int
 b : Int
def Ends.cells (u : Bool) (f : Ends) : List AV := [.val (.int .i64 f.a), .val (.int .i64 f.b)]
structure Mnd where
 f : Fn
 u : List Int
 j : List Int
def Mnd.cells (u : Bool) (f : Mnd) : List AV := [.val (.int .i64 f.f.s.n), .lst u 1 (Is f.f.s.fr), .lst u 1 (Is f.f.s.to), .lst u 1 (Is f.f.s.id), .lst u 1 (Ls f.f.s.cs), .val (.int .i64 f.f.t.n), .lst u 1 (Is f.f.t.fr), .lst u 1 (Is f.f.t.to), .lst u 1 (Is f.f.t.id), .lst u 1 (Ls f.f.t.cs), .lst u 1 (Is f.f.ob), .lst u 1 (Is f.f.ar), .lst u 1 (Is f.u), .lst u 1 (Is f.j)]
structure Prf where
 s : Cat
 t : Cat
 sz : List (List Int)
 bf : List (List (List Int))
 bh : List (List (List Int))
def Prf.cells (u : Bool) (f : Prf) : List AV := [.val (.int .i64 f.s.n), .lst u 1 (Is f.s.fr), .lst u 1 (Is f.s.to), .lst u 1 (Is f.s.id), .lst u 1 (Ls f.s.cs), .val (.int .i64 f.t.n), .lst u 1 (Is f.t.fr), .lst u 1 (Is f.t.to), .lst u 1 (Is f.t.id), .lst u 1 (Ls f.t.cs), .lst u 1 (Ls f.sz), .lst u 1 (Es eL f.bf), .lst u 1 (Es eL f.bh)]
structure Tra where
 s : Fn
 t : Fn
 p : List Int
def Tra.cells (u : Bool) (f : Tra) : List AV := [.val (.int .i64 f.s.s.n), .lst u 1 (Is f.s.s.fr), .lst u 1 (Is f.s.s.to), .lst u 1 (Is f.s.s.id), .lst u 1 (Ls f.s.s.cs), .val (.int .i64 f.s.t.n), .lst u 1 (Is f.s.t.fr), .lst u 1 (Is f.s.t.to), .lst u 1 (Is f.s.t.id), .lst u 1 (Ls f.s.t.cs), .lst u 1 (Is f.s.ob), .lst u 1 (Is f.s.ar), .val (.int .i64 f.t.s.n), .lst u 1 (Is f.t.s.fr), .lst u 1 (Is f.t.s.to), .lst u 1 (Is f.t.s.id), .lst u 1 (Ls f.t.s.cs), .val (.int .i64 f.t.t.n), .lst u 1 (Is f.t.t.fr), .lst u 1 (Is f.t.t.to), .lst u 1 (Is f.t.t.id), .lst u 1 (Ls f.t.t.cs), .lst u 1 (Is f.t.ob), .lst u 1 (Is f.t.ar), .lst u 1 (Is f.p)]
structure XAlgebra where
 x_ : Int
 h_ : Int
def XAlgebra.cells (u : Bool) (f : XAlgebra) : List AV := [.val (.int .i64 f.x_), .val (.int .i64 f.h_)]
end Go.Vc.T

set_option maxRecDepth 100000
set_option linter.unusedSimpArgs false
set_option linter.unusedVariables false
namespace Go.Vc.T
open Go Go.Vc Go.Proofs
@[simp] theorem ef_247 : elm Try.prog 247 = some 147 := by kernel_rfl
@[simp] theorem ff_27_0 : fld Try.prog 27 0 = some (0, 5, true) := by kernel_rfl
@[simp] theorem ff_27_1 : fld Try.prog 27 1 = some (5, 5, true) := by kernel_rfl
@[simp] theorem ff_27_2 : fld Try.prog 27 2 = some (10, 1, false) := by kernel_rfl
@[simp] theorem ff_27_3 : fld Try.prog 27 3 = some (11, 1, false) := by kernel_rfl
@[simp] theorem ff_35_0 : fld Try.prog 35 0 = some (0, 5, true) := by kernel_rfl
@[simp] theorem ff_35_1 : fld Try.prog 35 1 = some (5, 5, true) := by kernel_rfl
@[simp] theorem ff_35_2 : fld Try.prog 35 2 = some (10, 1, false) := by kernel_rfl
@[simp] theorem ff_35_3 : fld Try.prog 35 3 = some (11, 1, false) := by kernel_rfl
@[simp] theorem tf_27 : tyi Try.prog 27 = some ⟨true, 12, 256, [.int .i64 0, .slice none 0 0, .slice none 0 0, .slice none 0 0, .slice none 0 0, .int .i64 0, .slice none 0 0, .slice none 0 0, .slice none 0 0, .slice none 0 0, .slice none 0 0, .slice none 0 0]⟩ := by kernel_rfl
@[simp] theorem tf_35 : tyi Try.prog 35 = some ⟨true, 12, 256, [.int .i64 0, .slice none 0 0, .slice none 0 0, .slice none 0 0, .slice none 0 0, .int .i64 0, .slice none 0 0, .slice none 0 0, .slice none 0 0, .slice none 0 0, .slice none 0 0, .slice none 0 0]⟩ := by kernel_rfl
@[simp] theorem tf_94 : tyi Try.prog 94 = some ⟨true, 7, 152, [.int .i64 0, .slice none 0 0, .slice none 0 0, .slice none 0 0, .slice none 0 0, .slice none 0 0, .slice none 0 0]⟩ := by kernel_rfl
@[simp] theorem tf_96 : tyi Try.prog 96 = some ⟨true, 15, 328, [.int .i64 0, .slice none 0 0, .slice none 0 0, .slice none 0 0, .slice none 0 0, .slice none 0 0, .slice none 0 0, .int .i64 0, .slice none 0 0, .slice none 0 0, .slice none 0 0, .slice none 0 0, .slice none 0 0, .slice none 0 0, .slice none 0 0]⟩ := by kernel_rfl
@[simp] theorem tf_147 : tyi Try.prog 147 = some ⟨false, 1, 8, [.pointer none]⟩ := by kernel_rfl
end Go.Vc.T

set_option maxRecDepth 100000
set_option linter.unusedSimpArgs false
set_option linter.unusedVariables false
namespace Go.Vc.T
open Go Go.Vc Go.Proofs
theorem toCat (u : Bool) (c : Cat) (hc : c.ok) : Contract Try.prog 103 [.agg (c.cells u)] (.agg (c.cells true)) := c18 c u hc
theorem cszCat (u : Bool) (c : Cat) (l : Int) (h1 : 0 ≤ l) (h2 : l ≤ 1048576) : Contract Try.prog 98 [.agg (c.cells u), .val (.int .i64 l)] (.val (.int .i64 (szCat l c))) := c13 u c l h1 h2
theorem szCat_leF {l : Int} {f : Cat} (h : l ≤ 1048576) : szCat l f ≤ 1048576 := szCat_le h
theorem mu_len {ms : List Mu} (h : ∀ u ∈ ms, u.fs.length = u.es.length) : ∀ j, j < ms.length → (ms.getD j .none).fs.length = (ms.getD j .none).es.length := fun j hj => by rw [List.getD_eq_getElem?_getD, List.getElem?_eq_getElem hj]; exact h _ (List.getElem_mem hj)
theorem markCat (f : Cat) (k : Int) (hf : f.ok) (h2 : 0 ≤ k) (h3 : k + f.size ≤ 576460752303423488) : MContract Try.prog 115 [.agg [.val (.int .i64 f.n), .own 0 0 f.fr.length, .own 1 0 f.to.length, .own 2 0 f.id.length, .own 3 0 f.cs.length], .val (.int .i64 k)] (f.mu k) (.val (.int .i64 (k + f.size))) := by
 have q := m31 f k hf h2 (by omega)
 rwa [show k + f.fr.length + f.to.length + f.id.length + sumL f.cs = k + f.size by simp [Cat.size, Int.add_assoc]] at q
def Fn.mu (f : Fn) (k : Int) : List Mu := [⟨1, Is f.s.fr, Is (f.mark k).s.fr⟩, ⟨1, Is f.s.to, Is (f.mark k).s.to⟩, ⟨1, Is f.s.id, Is (f.mark k).s.id⟩, ⟨1, Ls f.s.cs, Ls (f.mark k).s.cs⟩, ⟨1, Is f.t.fr, Is (f.mark k).t.fr⟩, ⟨1, Is f.t.to, Is (f.mark k).t.to⟩, ⟨1, Is f.t.id, Is (f.mark k).t.id⟩, ⟨1, Ls f.t.cs, Ls (f.mark k).t.cs⟩, ⟨1, Is f.ob, Is (f.mark k).ob⟩, ⟨1, Is f.ar, Is (f.mark k).ar⟩]
theorem Fn.ok_size {f : Fn} (h : f.ok) : f.size ≤ 2199031644160 := by
 obtain ⟨hs, ht, hob, har⟩ := h
 have s_s := Cat.ok_size hs
 have s_t := Cat.ok_size ht
 simp only [Fn.size]
 omega
theorem eqFn (u v : Bool) (f : Fn) : Contract Try.prog 71 [.agg (f.cells u), .agg (f.cells v)] (.val (.bool true)) := by
 refine contract_intro (rs := [.val (.bool true)]) Try.func71 rfl rfl rfl rfl (by simp [Try.f71]) fun F hN hP => ?_
 refine w_sr mo (by rw [hN]; decide) fun K hK => ?_
 simp [Fn.cells]
 refine hK _ ?_
 clear hK K
 refine w_seq ?_
 refine w_sr mo (by rw [hN]; decide) fun K hK => ?_
 simp
 refine callA_intro (c26 u v f.s) (.cons (.aggL Cat.pur) (.cons (.aggL Cat.pur) .nil)) ?_
 simp [unk, unA, unE, flat]
 refine hK _ ?_
 clear hK K
 refine w_cond rfl (fun h => by simp at h) fun _ => ?_
 refine w_skip ?_
 refine w_seq ?_
 refine w_sr mo (by rw [hN]; decide) fun K hK => ?_
 simp
 refine callA_intro (c26 u v f.t) (.cons (.aggL Cat.pur) (.cons (.aggL Cat.pur) .nil)) ?_
 simp [unk, unA, unE, flat]
 refine hK _ ?_
 clear hK K
 refine w_cond rfl (fun h => by simp at h) fun _ => ?_
 refine w_skip ?_
 refine w_seq ?_
 refine w_sr mo (by rw [hN]; decide) fun K hK => ?_
 simp
 refine callA_intro (c29 u v f.ob f.ob) (.cons .lst (.cons .lst .nil)) ?_
 simp [unk, unA, unE, flat]
 refine hK _ ?_
 clear hK K
 refine w_cond rfl (fun h => by simp at h) fun _ => ?_
 refine w_skip ?_
 refine w_seq ?_
 refine w_sr mo (by rw [hN]; decide) fun K hK => ?_
 simp
 refine callA_intro (c29 u v f.ar f.ar) (.cons .lst (.cons .lst .nil)) ?_
 simp [unk, unA, unE, flat]
 refine hK _ ?_
 clear hK K
 refine w_cond rfl (fun h => by simp at h) fun _ => ?_
 refine w_skip ?_
 refine w_sr mo (by rw [hN]; decide) fun K hK => ?_
 simp
 refine hK _ ?_
 clear hK K
 refine w_ret (ret_val rfl rfl)
theorem toFn (u : Bool) (f : Fn) (hf : f.ok) : Contract Try.prog 69 [.agg (f.cells u)] (.agg (f.cells true)) := by
 obtain ⟨hs, ht, hob, har⟩ := hf
 refine contract_introC Try.func69 rfl rfl tf_35 rfl rfl (by simp [Try.f69]) fun F hN hP => ?_
 refine w_sr mo (by rw [hN]; decide) fun K hK => ?_
 simp [Fn.cells]
 refine hK _ ?_
 clear hK K
 refine w_sr mo (by rw [hN]; decide) fun K hK => ?_
 simp
 refine hK _ ?_
 clear hK K
 refine w_sr mo (by rw [hN]; decide) fun K hK => ?_
 simp
 refine callA_intro (toCat u f.s hs) (.cons (.aggL Cat.pur) .nil) ?_
 simp [unk, unA, unE, flat, unC, Cat.cells]
 refine hK _ ?_
 clear hK K
 refine w_sr mo (by rw [hN]; decide) fun K hK => ?_
 simp
 refine callA_intro (toCat u f.t ht) (.cons (.aggL Cat.pur) .nil) ?_
 simp [unk, unA, unE, flat, unC, Cat.cells]
 refine hK _ ?_
 clear hK K
 refine w_sr mo (by rw [hN]; decide) fun K hK => ?_
 simp
 refine callA_intro (c19 u f.ob hob) (.cons .lst .nil) ?_
 simp [unk, unA, unE, flat]
 refine hK _ ?_
 clear hK K
 refine w_sr mo (by rw [hN]; decide) fun K hK => ?_
 simp
 refine callA_intro (c19 u f.ar har) (.cons .lst .nil) ?_
 simp [unk, unA, unE, flat]
 refine hK _ ?_
 clear hK K
 refine w_sr mo (by rw [hN]; decide) fun K hK => ?_
 simp
 refine hK _ ?_
 clear hK K
 refine w_ret ⟨_, _, _, _, _, rfl, rfl, by simp, by simp, ?_⟩
 exact ⟨.agg rfl .nil, [.val (.int .i64 f.s.n), .lst true 1 (Is f.s.fr), .lst true 1 (Is f.s.to), .lst true 1 (Is f.s.id), .lst true 1 (Ls f.s.cs), .val (.int .i64 f.t.n), .lst true 1 (Is f.t.fr), .lst true 1 (Is f.t.to), .lst true 1 (Is f.t.id), .lst true 1 (Ls f.t.cs), .lst true 1 (Is f.ob), .lst true 1 (Is f.ar)], [4, 5, 6, 7, 9, 10, 11, 12, 13, 14], by simp, by simp, UpL.refl _⟩
def szFn (l : Int) (f : Fn) : Int := nn (szCat l f.s) fun a0 => nn (szCat a0 f.t) fun a1 => nn (less a1 f.ob.length) fun a2 => nn (less a2 f.ar.length) fun a3 => a3
theorem szFn_le {l : Int} {f : Fn} (h : l ≤ 1048576) : szFn l f ≤ 1048576 := nn_le (fun x0 h0 _ => nn_le (fun x1 h1 _ => nn_le (fun x2 h2 _ => nn_le (fun x3 h3 _ => by rw [← h3]; exact less_le (by rw [← h2]; exact less_le (by rw [← h1]; exact szCat_leF (by rw [← h0]; exact szCat_leF h)))) (by decide)) (by decide)) (by decide)) (by decide)
theorem szFn_ok {l : Int} {f : Fn} (hl : l ≤ 1048576) (h : 0 ≤ szFn l f) : f.ok := by
 unfold szFn at h
 obtain ⟨p0, q0, _⟩ := nn_ok h
 have b0 := szCat_leF (f := f.s) hl
 obtain ⟨p1, q1, _⟩ := nn_ok q0
 have b1 := szCat_leF (f := f.t) b0
 obtain ⟨p2, q2, _⟩ := nn_ok q1
 obtain ⟨e2, _⟩ := less_ok p2
 have b2 := less_le (n := f.ob.length) b1
 obtain ⟨p3, q3, _⟩ := nn_ok q2
 obtain ⟨e3, _⟩ := less_ok p3
 have b3 := less_le (n := f.ar.length) b2
 exact ⟨szCat_ok hl p0, szCat_ok b0 p1, by omega, by omega⟩
theorem cszFn (u : Bool) (f : Fn) (l : Int) (h1 : 0 ≤ l) (h2 : l ≤ 1048576) : Contract Try.prog 67 [.agg (f.cells u), .val (.int .i64 l)] (.val (.int .i64 (szFn l f))) := by
 refine contract_intro (rs := [.val (.int .i64 (szFn l f))]) Try.func67 rfl rfl rfl rfl (by simp [Try.f67]) fun F hN hP => ?_
 refine w_sr mo (by rw [hN]; decide) fun K hK => ?_
 simp [Fn.cells]
 refine hK _ ?_
 clear hK K
 refine w_sr mo (by rw [hN]; decide) fun K hK => ?_
 simp
 refine callA_intro (cszCat u f.s (l) h1 (h2)) (.cons (.aggL Cat.pur) (.cons .val .nil)) ?_
 simp [unk, unA, unE, flat]
 refine hK _ ?_
 clear hK K
 refine w_seq ?_
 refine w_sr mo (by rw [hN]; decide) fun K hK => ?_
 simp
 refine hK _ ?_
 clear hK K
 refine w_cond rfl (fun g1 => ?_) fun g1 => ?_
 · simp at g1
   refine w_sr mo (by rw [hN]; decide) fun K hK => ?_
   simp
   refine hK _ ?_
   clear hK K
   refine w_ret (ret_val rfl ?_)
   simp only [szFn, nn]
   rw [if_pos g1]
 simp at g1
 refine w_skip ?_
 refine w_sr mo (by rw [hN]; decide) fun K hK => ?_
 simp
 refine callA_intro (cszCat u f.t (szCat (l) f.s) g1 (szCat_leF (h2))) (.cons (.aggL Cat.pur) (.cons .val .nil)) ?_
 simp [unk, unA, unE, flat]
 refine hK _ ?_
 clear hK K
 refine w_seq ?_
 refine w_sr mo (by rw [hN]; decide) fun K hK => ?_
 simp
 refine hK _ ?_
 clear hK K
 refine w_cond rfl (fun g2 => ?_) fun g2 => ?_
 · simp at g2
   refine w_sr mo (by rw [hN]; decide) fun K hK => ?_
   simp
   refine hK _ ?_
   clear hK K
   refine w_ret (ret_val rfl ?_)
   simp only [szFn, nn]
   rw [if_neg (Int.not_lt.2 g1), if_pos g2]
 simp at g2
 refine w_skip ?_
 refine w_sr mo (by rw [hN]; decide) fun K hK => ?_
 simp
 refine callA_intro (c14 u f.ob (szCat (szCat (l) f.s) f.t) g2 (szCat_leF (szCat_leF (h2)))) (.cons .lst (.cons .val .nil)) ?_
 simp [unk, unA, unE, flat]
 refine hK _ ?_
 clear hK K
 refine w_seq ?_
 refine w_sr mo (by rw [hN]; decide) fun K hK => ?_
 simp
 refine hK _ ?_
 clear hK K
 refine w_cond rfl (fun g3 => ?_) fun g3 => ?_
 · simp at g3
   refine w_sr mo (by rw [hN]; decide) fun K hK => ?_
   simp
   refine hK _ ?_
   clear hK K
   refine w_ret (ret_val rfl ?_)
   simp only [szFn, nn]
   rw [if_neg (Int.not_lt.2 g1), if_neg (Int.not_lt.2 g2), if_pos g3]
 simp at g3
 refine w_skip ?_
 refine w_sr mo (by rw [hN]; decide) fun K hK => ?_
 simp
 refine callA_intro (c14 u f.ar (less (szCat (szCat (l) f.s) f.t) f.ob.length) g3 (less_le (szCat_leF (szCat_leF (h2))))) (.cons .lst (.cons .val .nil)) ?_
 simp [unk, unA, unE, flat]
 refine hK _ ?_
 clear hK K
 refine w_seq ?_
 refine w_sr mo (by rw [hN]; decide) fun K hK => ?_
 simp
 refine hK _ ?_
 clear hK K
 refine w_cond rfl (fun g4 => ?_) fun g4 => ?_
 · simp at g4
   refine w_sr mo (by rw [hN]; decide) fun K hK => ?_
   simp
   refine hK _ ?_
   clear hK K
   refine w_ret (ret_val rfl ?_)
   simp only [szFn, nn]
   rw [if_neg (Int.not_lt.2 g1), if_neg (Int.not_lt.2 g2), if_neg (Int.not_lt.2 g3), if_pos g4]
 simp at g4
 refine w_skip ?_
 refine w_sr mo (by rw [hN]; decide) fun K hK => ?_
 simp
 refine hK _ ?_
 clear hK K
 refine w_ret (ret_val rfl ?_)
 simp only [szFn, nn]
 rw [if_neg (Int.not_lt.2 g1), if_neg (Int.not_lt.2 g2), if_neg (Int.not_lt.2 g3), if_neg (Int.not_lt.2 g4)]
theorem markFn (f : Fn) (k : Int) (hf : f.ok) (h2 : 0 ≤ k) (h3 : k + f.size ≤ 576460752303423488) :
   MContract Try.prog 72 [.agg [.val (.int .i64 f.s.n), .own 0 0 f.s.fr.length, .own 1 0 f.s.to.length, .own 2 0 f.s.id.length, .own 3 0 f.s.cs.length, .val (.int .i64 f.t.n), .own 4 0 f.t.fr.length, .own 5 0 f.t.to.length, .own 6 0 f.t.id.length, .own 7 0 f.t.cs.length, .own 8 0 f.ob.length, .own 9 0 f.ar.length], .val (.int .i64 k)] (f.mu k) (.val (.int .i64 (k + f.size))) := by
 obtain ⟨hs, ht, hob, har⟩ := hf
 have hz : f.size = f.s.size + f.t.size + f.ob.length + f.ar.length := rfl
 refine mcontract_intro (ts := [4]) (rv := .int .i64 (k + f.size)) Try.func72 rfl rfl ?_ rfl (by simp [Try.f72]) ?_ fun F hN hP => ?_
 · have : (-9223372036854775808 ≤ k + f.size) ∧ k + f.size ≤ 9223372036854775807 := by omega
   simp [resV, this]
 · exact mu_len (by simp [Fn.mu, Fn.mark, Cat.mark])
 refine w_sr mo (by rw [hN]; decide) fun K hK => ?_
 simp [ments, Fn.mu]
 refine hK _ ?_
 clear hK K
 refine w_srM mo (by rw [hN]; decide) fun K hK => ?_
 simp
 refine callA_roots (m := [0, 1, 2, 3]) (markCat f.s (k) hs (by omega) (by omega)) (by decide) (.cons rfl (.cons rfl (.cons rfl (.cons rfl .nil)))) (.cons (.aggL (.cons .val (.cons (.own (j := 0) (by decide)) (.cons (.own (j := 1) (by decide)) (.cons (.own (j := 2) (by decide)) (.cons (.own (j := 3) (by decide)) .nil)))))) (.cons .val .nil)) rfl (by simp) ?_
 simp [rsets, Cat.mu]
 refine hK _ ?_
 clear hK K
 refine w_srM mo (by rw [hN]; decide) fun K hK => ?_
 simp
 refine callA_roots (m := [4, 5, 6, 7]) (markCat f.t (k + f.s.size) ht (by omega) (by omega)) (by decide) (.cons rfl (.cons rfl (.cons rfl (.cons rfl .nil)))) (.cons (.aggL (.cons .val (.cons (.own (j := 0) (by decide)) (.cons (.own (j := 1) (by decide)) (.cons (.own (j := 2) (by decide)) (.cons (.own (j := 3) (by decide)) .nil)))))) (.cons .val .nil)) rfl (by simp) ?_
 simp [rsets, Cat.mu]
 refine hK _ ?_
 clear hK K
 refine w_srM mo (by rw [hN]; decide) fun K hK => ?_
 simp
 refine callA_root (m32 f.ob (k + f.s.size + f.t.size) hob (by omega) (by omega)) rfl (by simp) ?_
 simp
 refine hK _ ?_
 clear hK K
 refine w_srM mo (by rw [hN]; decide) fun K hK => ?_
 simp
 refine callA_root (m32 f.ar (k + f.s.size + f.t.size + f.ob.length) har (by omega) (by omega)) rfl (by simp) ?_
 simp
 refine hK _ ?_
 clear hK K
 refine w_sr mo (by rw [hN]; decide) fun K hK => ?_
 simp
 refine hK _ ?_
 clear hK K
 refine w_ret (mret ?_ ?_)
 · simp [hz, Int.add_assoc]
 exact (.cons rfl (.cons rfl (.cons rfl (.cons rfl (.cons rfl (.cons rfl (.cons rfl (.cons rfl (.cons rfl (.cons rfl .nil))))))))))
end Go.Vc.T

set_option maxRecDepth 100000
set_option linter.unusedSimpArgs false
set_option linter.unusedVariables false
namespace Go.Vc.T
open Go Go.Vc Go.Proofs
noncomputable def s_i_within (xs : List Int) (n : Int) : Option (Bool) :=
 ass (B64 (n - 1)) <| some ((xs.all (inR n)))
theorem w_i_within (xs : List Int) (n : Int) (r : Bool) (h : s_i_within xs n = some r) : Contract Try.prog 190 [.lst true 1 (Is xs), .val (.int .i64 n)] (.val (.bool r)) := by
 unfold s_i_within at h
 replace h := ass_some h
 obtain ⟨hn, h⟩ := h
 cases h
 exact c22 true xs n hn
noncomputable def s_s_l01Map (n : Int) (xs : List Int) : Option (Bool) :=
 some ((xs.all (inR n)))
theorem w_s_l01Map (n : Int) (xs : List Int) (r : Bool) (h : s_s_l01Map n xs = some r) : Contract Try.prog 219 [.val (.int .i64 n), .lst true 1 (Is xs)] (.val (.bool r)) := by
 unfold s_s_l01Map at h
 cases h
 exact c57 true xs n
noncomputable def s_s_l01Own (xs : List Int) : Option (List Int) :=
 ass (xs.length ≤ 1048576) <| some (xs)
theorem w_s_l01Own (xs : List Int) (r : List Int) (h : s_s_l01Own xs = some r) : Contract Try.prog 133 [.lst true 1 (Is xs)] (.lst true 1 (Is r)) := by
 unfold s_s_l01Own at h
 replace h := ass_some h
 obtain ⟨hx, h⟩ := h
 cases h
 exact c58 true xs hx
noncomputable def s_i_clone (xs : List Int) : Option (List Int) :=
 ass (xs.length ≤ 1048576) <| some (xs)
theorem w_i_clone (xs : List Int) (r : List Int) (h : s_i_clone xs = some r) : Contract Try.prog 111 [.lst true 1 (Is xs)] (.lst true 1 (Is r)) := by
 unfold s_i_clone at h
 replace h := ass_some h
 obtain ⟨hx, h⟩ := h
 cases h
 exact c47 true xs hx
noncomputable def s_s_l01Own2 (xs : List (List Int)) : Option (List (List Int)) :=
 ass (xs.length ≤ 1048576) <| ass (∀ x ∈ xs, x.length ≤ 1048576) <| some (xs)
theorem w_s_l01Own2 (xs : List (List Int)) (r : List (List Int)) (h : s_s_l01Own2 xs = some r) : Contract Try.prog 212 [.lst true 1 (Ls xs)] (.lst true 1 (Ls r)) := by
 unfold s_s_l01Own2 at h
 replace h := ass_some h
 obtain ⟨hx, h⟩ := h
 replace h := ass_some h
 obtain ⟨hx', h⟩ := h
 cases h
 exact c59 true xs hx hx'
noncomputable def s_i_clones (xs : List (List Int)) : Option (List (List Int)) :=
 ass (xs.length ≤ 1048576) <| ass (∀ x ∈ xs, x.length ≤ 1048576) <| some (xs)
theorem w_i_clones (xs : List (List Int)) (r : List (List Int)) (h : s_i_clones xs = some r) : Contract Try.prog 216 [.lst true 1 (Ls xs)] (.lst true 1 (Ls r)) := by
 unfold s_i_clones at h
 replace h := ass_some h
 obtain ⟨hx, h⟩ := h
 replace h := ass_some h
 obtain ⟨hx', h⟩ := h
 cases h
 exact c48 true xs hx hx'
noncomputable def s_i_Category_arrows (c : Cat) : Option (Int) :=
 some (c.fr.length)
theorem w_i_Category_arrows (c : Cat) (r : Int) (h : s_i_Category_arrows c = some r) : Contract Try.prog 191 [.rptr (c.cells true)] (.val (.int .i64 r)) := by
 unfold s_i_Category_arrows at h
 cases h
 have q := c61 true c []
 simp only [List.append_nil] at q
 exact q
noncomputable def s_s_l02Own (c : Cat) : Option (Cat) :=
 ass (c.ok) <| some (c)
theorem w_s_l02Own (c : Cat) (r : Cat) (h : s_s_l02Own c = some r) : Contract Try.prog 210 [.agg (c.cells true)] (.agg (r.cells true)) := by
 unfold s_s_l02Own at h
 replace h := ass_some h
 obtain ⟨hc, h⟩ := h
 cases h
 exact c41 true c hc
noncomputable def s_i_Category_copy (c : Cat) : Option (Cat) :=
 ass (c.ok) <| some (c)
theorem w_i_Category_copy (c : Cat) (r : Cat) (h : s_i_Category_copy c = some r) : Contract Try.prog 205 [.rptr (c.cells true)] (.agg (r.cells true)) := by
 unfold s_i_Category_copy at h
 replace h := ass_some h
 obtain ⟨hc, h⟩ := h
 cases h
 have q := c23 true c [] hc
 simp only [List.append_nil] at q
 exact q
noncomputable def s_i_Category_then (c : Cat) (f : Int) (g : Int) : Option (Int) :=
 ass (0 ≤ f) <| ass (f < c.cs.length) <| ass (0 ≤ g) <| ass (g < (rx c.cs f).length) <| some ((ix (rx c.cs f) g))
theorem w_i_Category_then (c : Cat) (f : Int) (g : Int) (r : Int) (h : s_i_Category_then c f g = some r) : Contract Try.prog 150 [.rptr (c.cells true), .val (.int .i64 f), .val (.int .i64 g)] (.val (.int .i64 r)) := by
 unfold s_i_Category_then at h
 replace h := ass_some h
 obtain ⟨h1, h⟩ := h
 replace h := ass_some h
 obtain ⟨h2, h⟩ := h
 replace h := ass_some h
 obtain ⟨h3, h⟩ := h
 replace h := ass_some h
 obtain ⟨h4, h⟩ := h
 cases h
 have q := c69 true c [] f g h1 h2 h3 h4
 simp only [List.append_nil] at q
 exact q
noncomputable def s_s_l02Is (c : Cat) : Option (Bool) :=
 some ((bo c.Is))
theorem w_s_l02Is (c : Cat) (r : Bool) (h : s_s_l02Is c = some r) : Contract Try.prog 193 [.agg (c.cells true)] (.val (.bool r)) := by
 unfold s_s_l02Is at h
 cases h
 exact c55 true c
noncomputable def s_i_Category_isCategory (c : Cat) : Option (Bool) :=
 some ((bo c.Is))
theorem w_i_Category_isCategory (c : Cat) (r : Bool) (h : s_i_Category_isCategory c = some r) : Contract Try.prog 245 [.rptr (c.cells true)] (.val (.bool r)) := by
 unfold s_i_Category_isCategory at h
 cases h
 have q := c60 true c []
 simp only [List.append_nil] at q
 exact q
noncomputable def s_s_l02Same (c : Cat) (d : Cat) : Option (Bool) :=
 some ((bo (c = d)))
theorem w_s_l02Same (c : Cat) (d : Cat) (r : Bool) (h : s_s_l02Same c d = some r) : Contract Try.prog 119 [.agg (c.cells true), .agg (d.cells true)] (.val (.bool r)) := by
 unfold s_s_l02Same at h
 cases h
 exact n53 true true c d
noncomputable def s_s_l19IsMap (m : SM) : Option (Bool) :=
 some ((bo m.Is))
theorem w_s_l19IsMap (m : SM) (r : Bool) (h : s_s_l19IsMap m = some r) : Contract Try.prog 155 [.agg (m.cells true)] (.val (.bool r)) := by
 unfold s_s_l19IsMap at h
 cases h
 exact n19 true m
noncomputable def s_s_l19Own (f : SF) : Option (SF) :=
 ass (f.ok) <| some (f)
theorem w_s_l19Own (f : SF) (r : SF) (h : s_s_l19Own f = some r) : Contract Try.prog 211 [.agg (f.cells true)] (.agg (r.cells true)) := by
 unfold s_s_l19Own at h
 replace h := ass_some h
 obtain ⟨hf, h⟩ := h
 cases h
 exact n56 true f hf
noncomputable def s_i_SetFunctor_copy (f : SF) : Option (SF) :=
 ass (f.ok) <| some (f)
theorem w_i_SetFunctor_copy (f : SF) (r : SF) (h : s_i_SetFunctor_copy f = some r) : Contract Try.prog 215 [.rptr (f.cells true)] (.agg (r.cells true)) := by
 unfold s_i_SetFunctor_copy at h
 replace h := ass_some h
 obtain ⟨hf, h⟩ := h
 cases h
 have q := n63 true f [] hf
 simp only [List.append_nil] at q
 exact q
noncomputable def s_i_then (f : List Int) (g : List Int) : Option (List Int) :=
 ass (f.length ≤ 1048576) <| ass (∀ y ∈ f, 0 ≤ y ∧ y < (g.length : Int)) <| some ((thenL f g))
theorem w_i_then (f : List Int) (g : List Int) (r : List Int) (h : s_i_then f g = some r) : Contract Try.prog 201 [.lst true 1 (Is f), .lst true 1 (Is g)] (.lst true 1 (Is r)) := by
 unfold s_i_then at h
 replace h := ass_some h
 obtain ⟨hx, h⟩ := h
 replace h := ass_some h
 obtain ⟨hg, h⟩ := h
 cases h
 exact n65 true true f g hx hg
noncomputable def s_i_sameCategory (c : Cat) (d : Cat) : Option (Bool) :=
 ass (c.cs.length ≤ 1048576) <| some ((bo (c = d)))
theorem w_i_sameCategory (c : Cat) (d : Cat) (r : Bool) (h : s_i_sameCategory c d = some r) : Contract Try.prog 122 [.rptr (c.cells true), .rptr (d.cells true)] (.val (.bool r)) := by
 unfold s_i_sameCategory at h
 replace h := ass_some h
 obtain ⟨hl, h⟩ := h
 cases h
 have q := n61 true true c d [] [] hl
 simp only [List.append_nil] at q
 exact q
noncomputable def s_i_SetMap_isNatural (m : SM) : Option (Bool) :=
 some ((bo m.Is))
theorem w_i_SetMap_isNatural (m : SM) (r : Bool) (h : s_i_SetMap_isNatural m = some r) : Contract Try.prog 158 [.rptr (m.cells true)] (.val (.bool r)) := by
 unfold s_i_SetMap_isNatural at h
 cases h
 exact n37 true m
end Go.Vc.T

set_option maxRecDepth 100000
set_option linter.unusedSimpArgs false
set_option linter.unusedVariables false
namespace Go.Vc.T
open Go Go.Vc Go.Proofs
@[simp] theorem ass_true {α : Type} {k : Option α} : ass True k = k := ass_pos trivial
theorem bo_pos {p : Prop} (h : p) : bo p = true := by simp [bo, h]
theorem bo_neg {p : Prop} (h : ¬ p) : bo p = false := by simp [bo, h]
theorem loop_go {σ ε : Type} {body : σ → Option (Ctl σ ε)} (g : Nat → σ) (m : Nat) : ∀ (k : Nat), m ≤ k → (∀ i, i < m → body (g i) = some (.next (g (i + 1)))) → loopF body k (g 0) = loopF body (k - m) (g m) := by
 induction m with
 | zero => intro k _ _; rfl
 | succ m ih =>
   intro k hk h
   rw [ih k (by omega) fun i hi => h i (by omega)]
   obtain ⟨j, hj⟩ : ∃ j, k - m = j + 1 := ⟨k - m - 1, by omega⟩
   rw [hj, show k - (m + 1) = j by omega]
   simp only [loopF, h m (by omega)]
theorem loop_run {σ ε : Type} {body : σ → Option (Ctl σ ε)} (g : Nat → σ) (n : Nat) {e : ε} {s0 : σ} (h0 : s0 = g 0) (hn : n < 4611686018427387904) (h : ∀ i, i < n → body (g i) = some (.next (g (i + 1)))) (he : body (g n) = some (.ret e)) : loopF body fuel s0 = some e := by
 subst h0
 rw [loop_go g n fuel (by unfold fuel; omega) h]
 obtain ⟨j, hj⟩ : ∃ j, fuel - n = j + 1 := ⟨fuel - n - 1, by unfold fuel; omega⟩
 rw [hj]
 simp only [loopF, he]
theorem loop_chk {ε : Type} {body : Int → Option (Ctl Int ε)} (n : Nat) (p : Nat → Prop) {eb eg : ε} (hn : n < 4611686018427387904) (h1 : ∀ i : Nat, i < n → p i → body (i : Int) = some (.next ((i : Int) + 1))) (h2 : ∀ i : Nat, i < n → ¬ p i → body (i : Int) = some (.ret eb)) (h3 : body (n : Int) = some (.ret eg)) :
   loopF body fuel 0 = some (@ite _ (∀ i : Nat, i < n → p i) (Classical.propDecidable _) eg eb) := by
 by_cases hall : ∀ i : Nat, i < n → p i
 · rw [if_pos hall]
   exact loop_run (fun i : Nat => (i : Int)) n rfl hn (fun i hi => h1 i hi (hall i hi)) h3
 rw [if_neg hall]
 have hex : ∃ i, i < n ∧ ¬ p i := Classical.byContradiction fun hx => hall fun i hi => Classical.byContradiction fun hp => hx ⟨i, hi, hp⟩
 obtain ⟨m, ⟨hm, hp⟩, hmin⟩ : ∃ m, (m < n ∧ ¬ p m) ∧ ∀ k, k < m → ¬ (k < n ∧ ¬ p k) := by
   obtain ⟨i, hi⟩ := hex
   induction i using Nat.strongRecOn with
   | _ i ih =>
     by_cases h : ∃ k, k < i ∧ k < n ∧ ¬ p k
     · obtain ⟨k, h1, h2⟩ := h; exact ih k h1 h2
     exact ⟨i, hi, fun k hk hh => h ⟨k, hk, hh⟩⟩
 exact loop_run (fun i : Nat => (i : Int)) m rfl (by omega) (fun i hi => h1 i (by omega) (Classical.byContradiction fun hh => hmin i hi ⟨by omega, hh⟩)) (h2 m hm hp)
theorem loop_acc {α ε : Type} {body : α × Int → Option (Ctl (α × Int) ε)} (g : Nat → α) (n : Nat) {e : ε} {a0 : α} (h0 : a0 = g 0) (hn : n < 4611686018427387904) (h : ∀ i : Nat, i < n → body (g i, (i : Int)) = some (.next (g (i + 1), (i : Int) + 1))) (he : body (g n, (n : Int)) = some (.ret e)) : loopF body fuel (a0, 0) = some e := by
 subst h0
 exact loop_run (fun i : Nat => (g i, (i : Int))) n rfl hn h he
theorem all_inR {xs : List Int} {n : Int} : xs.all (inR n) = true ↔ ∀ j : Nat, j < xs.length → 0 ≤ ix xs j ∧ ix xs j < n := by
 rw [List.all_eq_true]
 constructor
 · intro h j hj
   have := h _ (List.getElem_mem hj)
   rw [at_ix _ _ hj] at this
   simp only [inR, Bool.and_eq_true, decide_eq_true_eq] at this
   omega
 intro h x hx
 obtain ⟨i, hi, rfl⟩ := List.getElem_of_mem hx
 rw [at_ix _ _ hi]
 have := h i hi
 simp only [inR, Bool.and_eq_true, decide_eq_true_eq]
 omega
theorem chk_bind {ε β : Type} {body : Int → Option (Ctl Int ε)} {K : ε → Option β} {r : β} (n : Nat) (p : Nat → Prop) {eb eg : ε} (hn : n < 4611686018427387904) (h1 : ∀ i : Nat, i < n → p i → body (i : Int) = some (.next ((i : Int) + 1))) (h2 : ∀ i : Nat, i < n → ¬ p i → body (i : Int) = some (.ret eb)) (h3 : body (n : Int) = some (.ret eg))
   (hb : (¬ ∀ i : Nat, i < n → p i) → K eb = some r) (hg : (∀ i : Nat, i < n → p i) → K eg = some r) : (loopF body fuel 0).bind K = some r := by
 rw [loop_chk n p hn h1 h2 h3]
 by_cases h : ∀ i : Nat, i < n → p i
 · rw [if_pos h]; exact hg h
 rw [if_neg h]; exact hb h
theorem acc_bind {α ε β : Type} {body : α × Int → Option (Ctl (α × Int) ε)} {K : ε → Option β} {r : Option β} {a0 : α} (n : Nat) (g : Nat → α) {e : ε} (h0 : a0 = g 0) (hn : n < 4611686018427387904) (h : ∀ i : Nat, i < n → body (g i, (i : Int)) = some (.next (g (i + 1), (i : Int) + 1))) (he : body (g n, (n : Int)) = some (.ret e)) (hk : K e = r) : (loopF body fuel (a0, 0)).bind K = r := by
 rw [loop_acc g n h0 hn h he]; exact hk
end Go.Vc.T

set_option maxRecDepth 100000
set_option linter.unusedSimpArgs false
set_option linter.unusedVariables false
namespace Go.Vc.T
open Go Go.Vc Go.Proofs
noncomputable def s_s_l06Is (f_ : Fn) : Option Bool :=
 (
   (s_s_l02Is f_.s).bind fun v2 =>
   if ¬ (v2 = true) then
     some true
   else
     (s_s_l02Is f_.t).bind fun v4 =>
     if ¬ (v4 = true) then
       some true
     else
       if ¬ ((f_.ob.length : Int) = f_.s.n) then
         some true
       else
         some ((f_.ar.length : Int) != (f_.s.fr.length : Int)) : Option (Bool)).bind fun b1 =>
 if b1 = true then
   some false
 else
   (
     (s_s_l01Map f_.t.n f_.ob).bind fun v9 =>
     if ¬ (v9 = true) then
       some true
     else
       (s_s_l01Map (f_.t.fr.length : Int) f_.ar).bind fun v11 =>
       some (!v11) : Option (Bool)).bind fun b8 =>
   if b8 = true then
     some false
   else
     (loopF (σ := Int) (ε := Unit ⊕ Bool) (fun s27 =>
       if s27 < (f_.s.fr.length : Int) then
         (
           ass (0 ≤ s27 ∧ s27 < (f_.ar.length : Int)) <|
           ass (0 ≤ ix f_.ar s27 ∧ ix f_.ar s27 < (f_.t.fr.length : Int)) <|
           ass (0 ≤ s27 ∧ s27 < (f_.s.fr.length : Int)) <|
           ass (0 ≤ ix f_.s.fr s27 ∧ ix f_.s.fr s27 < (f_.ob.length : Int)) <|
           if ¬ ((ix f_.t.fr (ix f_.ar s27)) = (ix f_.ob (ix f_.s.fr s27))) then
             some true
           else
             ass (0 ≤ s27 ∧ s27 < (f_.ar.length : Int)) <|
             ass (0 ≤ ix f_.ar s27 ∧ ix f_.ar s27 < (f_.t.to.length : Int)) <|
             ass (0 ≤ s27 ∧ s27 < (f_.s.to.length : Int)) <|
             ass (0 ≤ ix f_.s.to s27 ∧ ix f_.s.to s27 < (f_.ob.length : Int)) <|
             some ((ix f_.t.to (ix f_.ar s27)) != (ix f_.ob (ix f_.s.to s27))) : Option (Bool)).bind fun b29 =>
         if b29 = true then
           some (Ctl.ret (Sum.inr false))
         else
           ass (B64 (s27 + 1)) <|
           some (Ctl.next (s27 + 1))
       else
         some (Ctl.ret (Sum.inl ()))) fuel 0).bind fun e13 =>
     match e13 with
     | .inl b13 =>
       (loopF (σ := Int) (ε := Unit ⊕ Bool) (fun s49 =>
         if s49 < f_.s.n then
           ass (0 ≤ s49 ∧ s49 < (f_.s.id.length : Int)) <|
           ass (0 ≤ ix f_.s.id s49 ∧ ix f_.s.id s49 < (f_.ar.length : Int)) <|
           ass (0 ≤ s49 ∧ s49 < (f_.ob.length : Int)) <|
           ass (0 ≤ ix f_.ob s49 ∧ ix f_.ob s49 < (f_.t.id.length : Int)) <|
           if ¬ ((ix f_.ar (ix f_.s.id s49)) = (ix f_.t.id (ix f_.ob s49))) then
             some (Ctl.ret (Sum.inr false))
           else
             ass (B64 (s49 + 1)) <|
             some (Ctl.next (s49 + 1))
         else
           some (Ctl.ret (Sum.inl ()))) fuel 0).bind fun e41 =>
       match e41 with
       | .inl b41 =>
         (loopF (σ := Int) (ε := Unit ⊕ Bool) (fun s90 =>
           if s90 < (f_.s.fr.length : Int) then
             (
               (loopF (σ := Int) (ε := Bool ⊕ Unit) (fun s107 =>
                 if s107 < (f_.s.fr.length : Int) then
                   (
                     ass (0 ≤ s90 ∧ s90 < (f_.s.to.length : Int)) <|
                     ass (0 ≤ s107 ∧ s107 < (f_.s.fr.length : Int)) <|
                     if (ix f_.s.to s90) = (ix f_.s.fr s107) then
                       ass (0 ≤ s90 ∧ s90 < (f_.s.cs.length : Int)) <|
                       ass (0 ≤ s107 ∧ s107 < ((rx f_.s.cs s90).length : Int)) <|
                       ass (0 ≤ ix (rx f_.s.cs s90) s107 ∧ ix (rx f_.s.cs s90) s107 < (f_.ar.length : Int)) <|
                       ass (0 ≤ s90 ∧ s90 < (f_.ar.length : Int)) <|
                       ass (0 ≤ ix f_.ar s90 ∧ ix f_.ar s90 < (f_.t.cs.length : Int)) <|
                       ass (0 ≤ s107 ∧ s107 < (f_.ar.length : Int)) <|
                       ass (0 ≤ ix f_.ar s107 ∧ ix f_.ar s107 < ((rx f_.t.cs (ix f_.ar s90)).length : Int)) <|
                       some ((ix f_.ar (ix (rx f_.s.cs s90) s107)) != (ix (rx f_.t.cs (ix f_.ar s90)) (ix f_.ar s107)))
                     else
                       some false : Option (Bool)).bind fun b109 =>
                   if b109 = true then
                     some (Ctl.ret (Sum.inl false))
                   else
                     ass (B64 (s107 + 1)) <|
                     some (Ctl.next (s107 + 1))
                 else
                   some (Ctl.ret (Sum.inr ()))) fuel 0).bind fun e107 =>
               match e107 with
               | .inl p107 =>
                 some (Sum.inr p107)
               | .inr p107 =>
                 some (Sum.inl p107) : Option (Unit ⊕ Bool)).bind fun e92 =>
             match e92 with
             | .inl b92 =>
               ass (B64 (s90 + 1)) <|
               some (Ctl.next (s90 + 1))
             | .inr p92 =>
               some (Ctl.ret (Sum.inr p92))
           else
             some (Ctl.ret (Sum.inl ()))) fuel 0).bind fun e57 =>
         match e57 with
         | .inl b57 =>
           some true
         | .inr p57 =>
           some p57
       | .inr p41 =>
         some p41
     | .inr p13 =>
       some p13
set_option maxHeartbeats 4000000 in
theorem w_s_l06Is (f_ : Fn) (r : Bool) (h : s_s_l06Is f_ = some r) : Contract Try.prog 154 [.agg (f_.cells true)] (.val (.bool r)) := by
 refine contract_introG (rvs := [.tmp 2]) (rs := [.val (.bool r)]) Try.func154 rfl rfl rfl rfl (by simp [Try.f154]) fun F hN hP => ?_
 unfold s_s_l06Is at h
 refine w_seq ?_
 refine w_run mo (by rw [hN]; decide) fun K hK => ?_
 simp [-guardE_b, -Is_at, -Is_at', -Ls_at, -Ls_at', eL, eI, allInts, eP_Cat, eP_Fn, Cat.cells, Fn.cells]
 repeat (with_reducible refine And.intro ?_ ?_; · first | assumption | omega | (simp; done) | (simp; omega) | simp_all)
 refine hK _ ?_
 clear hK K
 refine tn ?_
 refine w_weak (st' := ⟨[(1, .adr 0 0 0)], [(0, .mix 12 [(Fn.cells true f_)])], 1⟩) (Wk.r1 [(0, 0)] (by simp [hP, hhOk, back, Cat.cells, Fn.cells, IA, I1, LA, L1, BA, B1, EA, E1, E2, eB, eI, eL])) ?_
 refine w_seq ?_
 refine w_runS mo (by rw [hN]; decide) fun K hK => ?_
 simp [-guardE_b, -Is_at, -Is_at', -Ls_at, -Ls_at', eL, eI, allInts, eP_Cat, eP_Fn, Cat.cells, Fn.cells]
 repeat (with_reducible refine And.intro ?_ ?_; · first | assumption | omega | (simp; done) | (simp; omega) | simp_all)
 refine hK _ ?_
 clear hK K
 refine tn ?_
 refine w_weak (st' := ⟨[(1, .adr 0 0 0), (3, .adr 1 0 0), (4, .adr 2 0 0)], [(0, .mix 12 [(Fn.cells true f_)]), (1, .mix 5 [(Cat.cells true f_.s)]), (2, .mix 5 [(Cat.cells true f_.t)])], 3⟩) (Wk.r1 [(0, 0), (1, 1), (2, 2)] (by simp [hP, hhOk, back, Cat.cells, Fn.cells, IA, I1, LA, L1, BA, B1, EA, E1, E2, eB, eI, eL])) ?_
 refine w_seq ?_
 refine w_seq ?_
 replace h := bind_some h
 obtain ⟨e1, h, h1⟩ := h
 refine w_joinT (fun b1 : Bool => ⟨[(1, .adr 0 0 0), (3, .adr 1 0 0), (4, .adr 2 0 0), (37, .val (.bool b1))], [(0, .mix 12 [(Fn.cells true f_)]), (1, .mix 5 [(Cat.cells true f_.s)]), (2, .mix 5 [(Cat.cells true f_.t)])], 3⟩) (fun b1 => b1 = e1) ?_ ?_
 · refine w_run mo (by rw [hN]; decide) fun K hK => ?_
   simp [-guardE_b, -Is_at, -Is_at', -Ls_at, -Ls_at', eL, eI, allInts, eP_Cat, eP_Fn, Cat.cells, Fn.cells]
   repeat (with_reducible refine And.intro ?_ ?_; · first | assumption | omega | (simp; done) | (simp; omega) | simp_all)
   replace h := bind_some h
   obtain ⟨v2, hv2, h⟩ := h
   refine callA_intro (w_s_l02Is _ v2 hv2) (.cons (.aggL (.cons .val (.cons .lst (.cons .lst (.cons .lst (.cons .lst .nil)))))) .nil) ?_
   simp [-guardE_b, -Is_at, -Is_at', -Ls_at, -Ls_at', unk, unA, unE, unT, unC, flat, eL, eI, allInts, eP_Cat, eP_Fn, Cat.cells, Fn.cells]
   repeat (with_reducible refine And.intro ?_ ?_; · first | assumption | omega | (simp; done) | (simp; omega) | simp_all)
   refine guard_intro (fun g => ?_) (fun g => ?_)
   · have g3 : ¬ (¬ (v2 = true)) := by first | simpa using g | (simp at g; exact g) | (simp at g; omega)
     clear g
     replace h := if_r g3 h
     simp [-guardE_b, -Is_at, -Is_at', -Ls_at, -Ls_at', eL, eI, allInts, eP_Cat, eP_Fn, Cat.cells, Fn.cells]
     repeat (with_reducible refine And.intro ?_ ?_; · first | assumption | omega | (simp; done) | (simp; omega) | simp_all)
     replace h := bind_some h
     obtain ⟨v4, hv4, h⟩ := h
     refine callA_intro (w_s_l02Is _ v4 hv4) (.cons (.aggL (.cons .val (.cons .lst (.cons .lst (.cons .lst (.cons .lst .nil)))))) .nil) ?_
     simp [-guardE_b, -Is_at, -Is_at', -Ls_at, -Ls_at', unk, unA, unE, unT, unC, flat, eL, eI, allInts, eP_Cat, eP_Fn, Cat.cells, Fn.cells]
     repeat (with_reducible refine And.intro ?_ ?_; · first | assumption | omega | (simp; done) | (simp; omega) | simp_all)
     refine guard_intro (fun g => ?_) (fun g => ?_)
     · have g5 : ¬ (¬ (v4 = true)) := by first | simpa using g | (simp at g; exact g) | (simp at g; omega)
       clear g
       replace h := if_r g5 h
       simp [-guardE_b, -Is_at, -Is_at', -Ls_at, -Ls_at', eL, eI, allInts, eP_Cat, eP_Fn, Cat.cells, Fn.cells]
       repeat (with_reducible refine And.intro ?_ ?_; · first | assumption | omega | (simp; done) | (simp; omega) | simp_all)
       refine guard_intro (fun g => ?_) (fun g => ?_)
       · have g6 : ¬ (¬ ((f_.ob.length : Int) = f_.s.n)) := by first | simpa using g | (simp at g; exact g) | (simp at g; omega)
         clear g
         replace h := if_r g6 h
         simp [-guardE_b, -Is_at, -Is_at', -Ls_at, -Ls_at', eL, eI, allInts, eP_Cat, eP_Fn, Cat.cells, Fn.cells]
         repeat (with_reducible refine And.intro ?_ ?_; · first | assumption | omega | (simp; done) | (simp; omega) | simp_all)
         refine hK _ ?_
         exact jn (b := (f_.ar.length : Int) != (f_.s.fr.length : Int)) (Option.some.inj h) (Wk.r1 [(0, 0), (1, 1), (2, 2)] (by simp [hP, hhOk, back, Cat.cells, Fn.cells, IA, I1, LA, L1, BA, B1, EA, E1, E2, eB, eI, eL]))
       have g6 : ¬ ((f_.ob.length : Int) = f_.s.n) := by first | simpa using g | (simp at g; exact g) | (simp at g; omega)
       clear g
       replace h := if_l g6 h
       simp [-guardE_b, -Is_at, -Is_at', -Ls_at, -Ls_at', eL, eI, allInts, eP_Cat, eP_Fn, Cat.cells, Fn.cells]
       repeat (with_reducible refine And.intro ?_ ?_; · first | assumption | omega | (simp; done) | (simp; omega) | simp_all)
       refine hK _ ?_
       exact jn (b := true) (Option.some.inj h) (Wk.r1 [(0, 0), (1, 1), (2, 2)] (by simp [hP, hhOk, back, Cat.cells, Fn.cells, IA, I1, LA, L1, BA, B1, EA, E1, E2, eB, eI, eL]))
     have g5 : ¬ (v4 = true) := by first | simpa using g | (simp at g; exact g) | (simp at g; omega)
     clear g
     replace h := if_l g5 h
     simp [-guardE_b, -Is_at, -Is_at', -Ls_at, -Ls_at', eL, eI, allInts, eP_Cat, eP_Fn, Cat.cells, Fn.cells]
     repeat (with_reducible refine And.intro ?_ ?_; · first | assumption | omega | (simp; done) | (simp; omega) | simp_all)
     refine hK _ ?_
     exact jn (b := true) (Option.some.inj h) (Wk.r1 [(0, 0), (1, 1), (2, 2)] (by simp [hP, hhOk, back, Cat.cells, Fn.cells, IA, I1, LA, L1, BA, B1, EA, E1, E2, eB, eI, eL]))
   have g3 : ¬ (v2 = true) := by first | simpa using g | (simp at g; exact g) | (simp at g; omega)
   clear g
   replace h := if_l g3 h
   simp [-guardE_b, -Is_at, -Is_at', -Ls_at, -Ls_at', eL, eI, allInts, eP_Cat, eP_Fn, Cat.cells, Fn.cells]
   repeat (with_reducible refine And.intro ?_ ?_; · first | assumption | omega | (simp; done) | (simp; omega) | simp_all)
   refine hK _ ?_
   exact jn (b := true) (Option.some.inj h) (Wk.r1 [(0, 0), (1, 1), (2, 2)] (by simp [hP, hhOk, back, Cat.cells, Fn.cells, IA, I1, LA, L1, BA, B1, EA, E1, E2, eB, eI, eL]))
 intro b1 hb1
 have h := h1
 rw [← hb1] at h
 clear h1
 try dsimp only at h
 refine w_cond rfl (fun g => ?_) fun g => ?_
 · have g7 : b1 = true := by first | simpa using g | (simp at g; exact g) | (simp at g; omega)
   clear g
   replace h := if_l g7 h
   refine w_seq ?_
   refine w_run mo (by rw [hN]; decide) fun K hK => ?_
   simp [-guardE_b, -Is_at, -Is_at', -Ls_at, -Ls_at', eL, eI, allInts, eP_Cat, eP_Fn, Cat.cells, Fn.cells]
   repeat (with_reducible refine And.intro ?_ ?_; · first | assumption | omega | (simp; done) | (simp; omega) | simp_all)
   refine hK _ ?_
   clear hK K
   refine tn ?_
   refine w_weak (st' := ⟨[(2, .val (.bool false))], [], 0⟩) (Wk.r1 [] (by simp [hP, hhOk, back, Cat.cells, Fn.cells, IA, I1, LA, L1, BA, B1, EA, E1, E2, eB, eI, eL])) ?_
   refine w_ret ?_
   refine tr ?_
   have hr := Option.some.inj h
   rw [← hr]
   refine ⟨_, (.tmp .nil), ?_⟩
   refine ⟨(.one rfl rfl .nil), [.val (.bool false)], [], by simp [Cat.cells, Fn.cells, IA, I1, LA, L1, BA, B1, EA, E1, E2, eB, eI, eL], by simp, (UpL.refl _)⟩
 have g7 : ¬ (b1 = true) := by first | simpa using g | (simp at g; exact g) | (simp at g; omega)
 clear g
 replace h := if_r g7 h
 refine w_skip ?_
 refine tn ?_
 refine w_seq ?_
 refine w_seq ?_
 replace h := bind_some h
 obtain ⟨e8, h, h8⟩ := h
 refine w_joinT (fun b8 : Bool => ⟨[(1, .adr 0 0 0), (3, .adr 1 0 0), (4, .adr 2 0 0), (52, .val (.bool b8))], [(0, .mix 12 [(Fn.cells true f_)]), (1, .mix 5 [(Cat.cells true f_.s)]), (2, .mix 5 [(Cat.cells true f_.t)])], 3⟩) (fun b8 => b8 = e8) ?_ ?_
 · refine w_run mo (by rw [hN]; decide) fun K hK => ?_
   simp [-guardE_b, -Is_at, -Is_at', -Ls_at, -Ls_at', eL, eI, allInts, eP_Cat, eP_Fn, Cat.cells, Fn.cells]
   repeat (with_reducible refine And.intro ?_ ?_; · first | assumption | omega | (simp; done) | (simp; omega) | simp_all)
   replace h := bind_some h
   obtain ⟨v9, hv9, h⟩ := h
   refine callA_intro (w_s_l01Map _ _ v9 hv9) (.cons .val (.cons .lst .nil)) ?_
   simp [-guardE_b, -Is_at, -Is_at', -Ls_at, -Ls_at', unk, unA, unE, unT, unC, flat, eL, eI, allInts, eP_Cat, eP_Fn, Cat.cells, Fn.cells]
   repeat (with_reducible refine And.intro ?_ ?_; · first | assumption | omega | (simp; done) | (simp; omega) | simp_all)
   refine guard_intro (fun g => ?_) (fun g => ?_)
   · have g10 : ¬ (¬ (v9 = true)) := by first | simpa using g | (simp at g; exact g) | (simp at g; omega)
     clear g
     replace h := if_r g10 h
     simp [-guardE_b, -Is_at, -Is_at', -Ls_at, -Ls_at', eL, eI, allInts, eP_Cat, eP_Fn, Cat.cells, Fn.cells]
     repeat (with_reducible refine And.intro ?_ ?_; · first | assumption | omega | (simp; done) | (simp; omega) | simp_all)
     replace h := bind_some h
     obtain ⟨v11, hv11, h⟩ := h
     refine callA_intro (w_s_l01Map _ _ v11 hv11) (.cons .val (.cons .lst .nil)) ?_
     simp [-guardE_b, -Is_at, -Is_at', -Ls_at, -Ls_at', unk, unA, unE, unT, unC, flat, eL, eI, allInts, eP_Cat, eP_Fn, Cat.cells, Fn.cells]
     repeat (with_reducible refine And.intro ?_ ?_; · first | assumption | omega | (simp; done) | (simp; omega) | simp_all)
     refine hK _ ?_
     exact jn (b := !v11) (Option.some.inj h) (Wk.r1 [(0, 0), (1, 1), (2, 2)] (by simp [hP, hhOk, back, Cat.cells, Fn.cells, IA, I1, LA, L1, BA, B1, EA, E1, E2, eB, eI, eL]))
   have g10 : ¬ (v9 = true) := by first | simpa using g | (simp at g; exact g) | (simp at g; omega)
   clear g
   replace h := if_l g10 h
   simp [-guardE_b, -Is_at, -Is_at', -Ls_at, -Ls_at', eL, eI, allInts, eP_Cat, eP_Fn, Cat.cells, Fn.cells]
   repeat (with_reducible refine And.intro ?_ ?_; · first | assumption | omega | (simp; done) | (simp; omega) | simp_all)
   refine hK _ ?_
   exact jn (b := true) (Option.some.inj h) (Wk.r1 [(0, 0), (1, 1), (2, 2)] (by simp [hP, hhOk, back, Cat.cells, Fn.cells, IA, I1, LA, L1, BA, B1, EA, E1, E2, eB, eI, eL]))
 intro b8 hb8
 have h := h8
 rw [← hb8] at h
 clear h8
 try dsimp only at h
 refine w_cond rfl (fun g => ?_) fun g => ?_
 · have g12 : b8 = true := by first | simpa using g | (simp at g; exact g) | (simp at g; omega)
   clear g
   replace h := if_l g12 h
   refine w_seq ?_
   refine w_run mo (by rw [hN]; decide) fun K hK => ?_
   simp [-guardE_b, -Is_at, -Is_at', -Ls_at, -Ls_at', eL, eI, allInts, eP_Cat, eP_Fn, Cat.cells, Fn.cells]
   repeat (with_reducible refine And.intro ?_ ?_; · first | assumption | omega | (simp; done) | (simp; omega) | simp_all)
   refine hK _ ?_
   clear hK K
   refine tn ?_
   refine w_weak (st' := ⟨[(2, .val (.bool false))], [], 0⟩) (Wk.r1 [] (by simp [hP, hhOk, back, Cat.cells, Fn.cells, IA, I1, LA, L1, BA, B1, EA, E1, E2, eB, eI, eL])) ?_
   refine w_ret ?_
   refine tr ?_
   have hr := Option.some.inj h
   rw [← hr]
   refine ⟨_, (.tmp .nil), ?_⟩
   refine ⟨(.one rfl rfl .nil), [.val (.bool false)], [], by simp [Cat.cells, Fn.cells, IA, I1, LA, L1, BA, B1, EA, E1, E2, eB, eI, eL], by simp, (UpL.refl _)⟩
 have g12 : ¬ (b8 = true) := by first | simpa using g | (simp at g; exact g) | (simp at g; omega)
 clear g
 replace h := if_r g12 h
 refine w_skip ?_
 refine tn ?_
 refine w_seq ?_
 refine w_seq ?_
 refine w_run mo (by rw [hN]; decide) fun K hK => ?_
 simp [-guardE_b, -Is_at, -Is_at', -Ls_at, -Ls_at', eL, eI, allInts, eP_Cat, eP_Fn, Cat.cells, Fn.cells]
 repeat (with_reducible refine And.intro ?_ ?_; · first | assumption | omega | (simp; done) | (simp; omega) | simp_all)
 refine hK _ ?_
 clear hK K
 refine tn ?_
 refine w_weak (st' := ⟨[(1, .adr 0 0 0), (3, .adr 1 0 0), (4, .adr 2 0 0), (5, .val (.int .i64 0))], [(0, .mix 12 [(Fn.cells true f_)]), (1, .mix 5 [(Cat.cells true f_.s)]), (2, .mix 5 [(Cat.cells true f_.t)])], 3⟩) (Wk.r1 [(0, 0), (1, 1), (2, 2)] (by simp [hP, hhOk, back, Cat.cells, Fn.cells, IA, I1, LA, L1, BA, B1, EA, E1, E2, eB, eI, eL])) ?_
 replace h := bind_some h
 obtain ⟨e13, h, h13⟩ := h
 refine w_joinT (fun b13 : Unit => ⟨[(1, .adr 0 0 0), (3, .adr 1 0 0), (4, .adr 2 0 0)], [(0, .mix 12 [(Fn.cells true f_)]), (1, .mix 5 [(Cat.cells true f_.s)]), (2, .mix 5 [(Cat.cells true f_.t)])], 3⟩) (fun b13 => Sum.inl b13 = e13) ?_ ?_
 · refine w_block ?_
   refine w_loopF h (fun s27 : Int => ⟨[(1, .adr 0 0 0), (3, .adr 1 0 0), (4, .adr 2 0 0), (5, .val (.int .i64 s27))], [(0, .mix 12 [(Fn.cells true f_)]), (1, .mix 5 [(Cat.cells true f_.s)]), (2, .mix 5 [(Cat.cells true f_.t)])], 3⟩) (Wk.r1 [(0, 0), (1, 1), (2, 2)] (by simp [hP, hhOk, back, Cat.cells, Fn.cells, IA, I1, LA, L1, BA, B1, EA, E1, E2, eB, eI, eL])) ?_
   clear h
   intro k27 s27 c27 h hk27
   refine w_seq ?_
   refine w_seq ?_
   refine w_run mo (by rw [hN]; decide) fun K hK => ?_
   simp [-guardE_b, -Is_at, -Is_at', -Ls_at, -Ls_at', eL, eI, allInts, eP_Cat, eP_Fn, Cat.cells, Fn.cells]
   repeat (with_reducible refine And.intro ?_ ?_; · first | assumption | omega | (simp; done) | (simp; omega) | simp_all)
   refine hK _ ?_
   clear hK K
   refine tn ?_
   refine w_weak (st' := ⟨[(1, .adr 0 0 0), (3, .adr 1 0 0), (4, .adr 2 0 0), (5, .val (.int .i64 s27)), (57, .val (.bool (decide (s27 < (f_.s.fr.length : Int)))))], [(0, .mix 12 [(Fn.cells true f_)]), (1, .mix 5 [(Cat.cells true f_.s)]), (2, .mix 5 [(Cat.cells true f_.t)])], 3⟩) (Wk.r1 [(0, 0), (1, 1), (2, 2)] (by simp [hP, hhOk, back, Cat.cells, Fn.cells, IA, I1, LA, L1, BA, B1, EA, E1, E2, eB, eI, eL])) ?_
   refine w_cond rfl (fun g => ?_) fun g => ?_
   · have g28 : s27 < (f_.s.fr.length : Int) := by first | simpa using g | (simp at g; exact g) | (simp at g; omega)
     clear g
     replace h := if_l g28 h
     refine w_skip ?_
     refine tn ?_
     refine w_seq ?_
     refine w_block ?_
     refine w_seq ?_
     replace h := bind_some h
     obtain ⟨e29, h, h29⟩ := h
     refine w_joinT (fun b29 : Bool => ⟨[(1, .adr 0 0 0), (3, .adr 1 0 0), (4, .adr 2 0 0), (5, .val (.int .i64 s27)), (99, .val (.bool b29))], [(0, .mix 12 [(Fn.cells true f_)]), (1, .mix 5 [(Cat.cells true f_.s)]), (2, .mix 5 [(Cat.cells true f_.t)])], 3⟩) (fun b29 => b29 = e29) ?_ ?_
     · refine w_run mo (by rw [hN]; decide) fun K hK => ?_
       replace h := ass_some h
       obtain ⟨a30, h⟩ := h
       replace h := ass_some h
       obtain ⟨a31, h⟩ := h
       replace h := ass_some h
       obtain ⟨a32, h⟩ := h
       replace h := ass_some h
       obtain ⟨a33, h⟩ := h
       simp [-guardE_b, -Is_at, -Is_at', -Ls_at, -Ls_at', eL, eI, allInts, eP_Cat, eP_Fn, Cat.cells, Fn.cells, at_I a30, at_I a31, at_I a32, at_I a33]
       repeat (with_reducible refine And.intro ?_ ?_; · first | assumption | omega | (simp; done) | (simp; omega) | simp_all)
       refine guard_intro (fun g => ?_) (fun g => ?_)
       · have g34 : ¬ (¬ ((ix f_.t.fr (ix f_.ar s27)) = (ix f_.ob (ix f_.s.fr s27)))) := by first | simpa using g | (simp at g; exact g) | (simp at g; omega)
         clear g
         replace h := if_r g34 h
         replace h := ass_some h
         obtain ⟨a35, h⟩ := h
         replace h := ass_some h
         obtain ⟨a36, h⟩ := h
         replace h := ass_some h
         obtain ⟨a37, h⟩ := h
         replace h := ass_some h
         obtain ⟨a38, h⟩ := h
         simp [-guardE_b, -Is_at, -Is_at', -Ls_at, -Ls_at', eL, eI, allInts, eP_Cat, eP_Fn, Cat.cells, Fn.cells, at_I a35, at_I a36, at_I a37, at_I a38]
         repeat (with_reducible refine And.intro ?_ ?_; · first | assumption | omega | (simp; done) | (simp; omega) | simp_all)
         refine hK _ ?_
         exact jn (b := (ix f_.t.to (ix f_.ar s27)) != (ix f_.ob (ix f_.s.to s27))) (Option.some.inj h) (Wk.r1 [(0, 0), (1, 1), (2, 2)] (by simp [hP, hhOk, back, Cat.cells, Fn.cells, IA, I1, LA, L1, BA, B1, EA, E1, E2, eB, eI, eL]))
       have g34 : ¬ ((ix f_.t.fr (ix f_.ar s27)) = (ix f_.ob (ix f_.s.fr s27))) := by first | simpa using g | (simp at g; exact g) | (simp at g; omega)
       clear g
       replace h := if_l g34 h
       simp [-guardE_b, -Is_at, -Is_at', -Ls_at, -Ls_at', eL, eI, allInts, eP_Cat, eP_Fn, Cat.cells, Fn.cells]
       repeat (with_reducible refine And.intro ?_ ?_; · first | assumption | omega | (simp; done) | (simp; omega) | simp_all)
       refine hK _ ?_
       exact jn (b := true) (Option.some.inj h) (Wk.r1 [(0, 0), (1, 1), (2, 2)] (by simp [hP, hhOk, back, Cat.cells, Fn.cells, IA, I1, LA, L1, BA, B1, EA, E1, E2, eB, eI, eL]))
     intro b29 hb29
     have h := h29
     rw [← hb29] at h
     clear h29
     try dsimp only at h
     refine w_cond rfl (fun g => ?_) fun g => ?_
     · have g39 : b29 = true := by first | simpa using g | (simp at g; exact g) | (simp at g; omega)
       clear g
       replace h := if_l g39 h
       refine w_seq ?_
       refine w_run mo (by rw [hN]; decide) fun K hK => ?_
       simp [-guardE_b, -Is_at, -Is_at', -Ls_at, -Ls_at', eL, eI, allInts, eP_Cat, eP_Fn, Cat.cells, Fn.cells]
       repeat (with_reducible refine And.intro ?_ ?_; · first | assumption | omega | (simp; done) | (simp; omega) | simp_all)
       refine hK _ ?_
       clear hK K
       refine tn ?_
       refine w_weak (st' := ⟨[(2, .val (.bool false))], [], 0⟩) (Wk.r1 [] (by simp [hP, hhOk, back, Cat.cells, Fn.cells, IA, I1, LA, L1, BA, B1, EA, E1, E2, eB, eI, eL])) ?_
       refine w_ret ?_
       refine br ?_
       refine tr ?_
       refine lr ?_
       refine br ?_
       refine tr ?_
       cases h
       have q : _ = e13 := hk27
       have h := h13
       rw [← q] at h
       clear q
       try dsimp only at h
       have hr := Option.some.inj h
       rw [← hr]
       refine ⟨_, (.tmp .nil), ?_⟩
       refine ⟨(.one rfl rfl .nil), [.val (.bool false)], [], by simp [Cat.cells, Fn.cells, IA, I1, LA, L1, BA, B1, EA, E1, E2, eB, eI, eL], by simp, (UpL.refl _)⟩
     have g39 : ¬ (b29 = true) := by first | simpa using g | (simp at g; exact g) | (simp at g; omega)
     clear g
     replace h := if_r g39 h
     refine w_skip ?_
     refine bn ?_
     refine tn ?_
     refine w_run mo (by rw [hN]; decide) fun K hK => ?_
     replace h := ass_some h
     obtain ⟨a40, h⟩ := h
     simp [-guardE_b, -Is_at, -Is_at', -Ls_at, -Ls_at', eL, eI, allInts, eP_Cat, eP_Fn, Cat.cells, Fn.cells, wrap_id a40]
     repeat (with_reducible refine And.intro ?_ ?_; · first | assumption | omega | (simp; done) | (simp; omega) | simp_all)
     refine hK _ ?_
     clear hK K
     cases h
     exact rn (s' := s27 + 1) hk27 (Wk.r1 [(0, 0), (1, 1), (2, 2)] (by simp [hP, hhOk, back, Cat.cells, Fn.cells, IA, I1, LA, L1, BA, B1, EA, E1, E2, eB, eI, eL]))
   have g28 : ¬ (s27 < (f_.s.fr.length : Int)) := by first | simpa using g | (simp at g; exact g) | (simp at g; omega)
   clear g
   replace h := if_r g28 h
   refine w_exit ?_
   refine tx ?_
   refine lx ?_
   refine bh ?_
   cases h
   exact jn (b := ()) hk27 (Wk.r1 [(0, 0), (1, 1), (2, 2)] (by simp [hP, hhOk, back, Cat.cells, Fn.cells, IA, I1, LA, L1, BA, B1, EA, E1, E2, eB, eI, eL]))
 intro b13 hb13
 have h := h13
 rw [← hb13] at h
 clear h13
 try dsimp only at h
 refine w_seq ?_
 refine w_seq ?_
 refine w_run mo (by rw [hN]; decide) fun K hK => ?_
 simp [-guardE_b, -Is_at, -Is_at', -Ls_at, -Ls_at', eL, eI, allInts, eP_Cat, eP_Fn, Cat.cells, Fn.cells]
 repeat (with_reducible refine And.intro ?_ ?_; · first | assumption | omega | (simp; done) | (simp; omega) | simp_all)
 refine hK _ ?_
 clear hK K
 refine tn ?_
 refine w_weak (st' := ⟨[(1, .adr 0 0 0), (3, .adr 1 0 0), (4, .adr 2 0 0), (6, .val (.int .i64 0))], [(0, .mix 12 [(Fn.cells true f_)]), (1, .mix 5 [(Cat.cells true f_.s)]), (2, .mix 5 [(Cat.cells true f_.t)])], 3⟩) (Wk.r1 [(0, 0), (1, 1), (2, 2)] (by simp [hP, hhOk, back, Cat.cells, Fn.cells, IA, I1, LA, L1, BA, B1, EA, E1, E2, eB, eI, eL])) ?_
 replace h := bind_some h
 obtain ⟨e41, h, h41⟩ := h
 refine w_joinT (fun b41 : Unit => ⟨[(1, .adr 0 0 0), (3, .adr 1 0 0), (4, .adr 2 0 0)], [(0, .mix 12 [(Fn.cells true f_)]), (1, .mix 5 [(Cat.cells true f_.s)]), (2, .mix 5 [(Cat.cells true f_.t)])], 3⟩) (fun b41 => Sum.inl b41 = e41) ?_ ?_
 · refine w_block ?_
   refine w_loopF h (fun s49 : Int => ⟨[(1, .adr 0 0 0), (3, .adr 1 0 0), (4, .adr 2 0 0), (6, .val (.int .i64 s49))], [(0, .mix 12 [(Fn.cells true f_)]), (1, .mix 5 [(Cat.cells true f_.s)]), (2, .mix 5 [(Cat.cells true f_.t)])], 3⟩) (Wk.r1 [(0, 0), (1, 1), (2, 2)] (by simp [hP, hhOk, back, Cat.cells, Fn.cells, IA, I1, LA, L1, BA, B1, EA, E1, E2, eB, eI, eL])) ?_
   clear h
   intro k49 s49 c49 h hk49
   refine w_seq ?_
   refine w_seq ?_
   refine w_run mo (by rw [hN]; decide) fun K hK => ?_
   simp [-guardE_b, -Is_at, -Is_at', -Ls_at, -Ls_at', eL, eI, allInts, eP_Cat, eP_Fn, Cat.cells, Fn.cells]
   repeat (with_reducible refine And.intro ?_ ?_; · first | assumption | omega | (simp; done) | (simp; omega) | simp_all)
   refine hK _ ?_
   clear hK K
   refine tn ?_
   refine w_weak (st' := ⟨[(1, .adr 0 0 0), (3, .adr 1 0 0), (4, .adr 2 0 0), (6, .val (.int .i64 s49)), (103, .val (.bool (decide (s49 < f_.s.n))))], [(0, .mix 12 [(Fn.cells true f_)]), (1, .mix 5 [(Cat.cells true f_.s)]), (2, .mix 5 [(Cat.cells true f_.t)])], 3⟩) (Wk.r1 [(0, 0), (1, 1), (2, 2)] (by simp [hP, hhOk, back, Cat.cells, Fn.cells, IA, I1, LA, L1, BA, B1, EA, E1, E2, eB, eI, eL])) ?_
   refine w_cond rfl (fun g => ?_) fun g => ?_
   · have g50 : s49 < f_.s.n := by first | simpa using g | (simp at g; exact g) | (simp at g; omega)
     clear g
     replace h := if_l g50 h
     refine w_skip ?_
     refine tn ?_
     refine w_seq ?_
     refine w_block ?_
     refine w_seq ?_
     refine w_run mo (by rw [hN]; decide) fun K hK => ?_
     replace h := ass_some h
     obtain ⟨a51, h⟩ := h
     replace h := ass_some h
     obtain ⟨a52, h⟩ := h
     replace h := ass_some h
     obtain ⟨a53, h⟩ := h
     replace h := ass_some h
     obtain ⟨a54, h⟩ := h
     simp [-guardE_b, -Is_at, -Is_at', -Ls_at, -Ls_at', eL, eI, allInts, eP_Cat, eP_Fn, Cat.cells, Fn.cells, at_I a51, at_I a52, at_I a53, at_I a54]
     repeat (with_reducible refine And.intro ?_ ?_; · first | assumption | omega | (simp; done) | (simp; omega) | simp_all)
     refine hK _ ?_
     clear hK K
     refine tn ?_
     refine w_weak (st' := ⟨[(1, .adr 0 0 0), (3, .adr 1 0 0), (4, .adr 2 0 0), (6, .val (.int .i64 s49)), (124, .val (.bool ((ix f_.ar (ix f_.s.id s49)) != (ix f_.t.id (ix f_.ob s49)))))], [(0, .mix 12 [(Fn.cells true f_)]), (1, .mix 5 [(Cat.cells true f_.s)]), (2, .mix 5 [(Cat.cells true f_.t)])], 3⟩) (Wk.r1 [(0, 0), (1, 1), (2, 2)] (by simp [hP, hhOk, back, Cat.cells, Fn.cells, IA, I1, LA, L1, BA, B1, EA, E1, E2, eB, eI, eL])) ?_
     refine w_cond rfl (fun g => ?_) fun g => ?_
     · have g55 : ¬ ((ix f_.ar (ix f_.s.id s49)) = (ix f_.t.id (ix f_.ob s49))) := by first | simpa using g | (simp at g; exact g) | (simp at g; omega)
       clear g
       replace h := if_l g55 h
       refine w_seq ?_
       refine w_run mo (by rw [hN]; decide) fun K hK => ?_
       simp [-guardE_b, -Is_at, -Is_at', -Ls_at, -Ls_at', eL, eI, allInts, eP_Cat, eP_Fn, Cat.cells, Fn.cells]
       repeat (with_reducible refine And.intro ?_ ?_; · first | assumption | omega | (simp; done) | (simp; omega) | simp_all)
       refine hK _ ?_
       clear hK K
       refine tn ?_
       refine w_weak (st' := ⟨[(2, .val (.bool false))], [], 0⟩) (Wk.r1 [] (by simp [hP, hhOk, back, Cat.cells, Fn.cells, IA, I1, LA, L1, BA, B1, EA, E1, E2, eB, eI, eL])) ?_
       refine w_ret ?_
       refine br ?_
       refine tr ?_
       refine lr ?_
       refine br ?_
       refine tr ?_
       cases h
       have q : _ = e41 := hk49
       have h := h41
       rw [← q] at h
       clear q
       try dsimp only at h
       have hr := Option.some.inj h
       rw [← hr]
       refine ⟨_, (.tmp .nil), ?_⟩
       refine ⟨(.one rfl rfl .nil), [.val (.bool false)], [], by simp [Cat.cells, Fn.cells, IA, I1, LA, L1, BA, B1, EA, E1, E2, eB, eI, eL], by simp, (UpL.refl _)⟩
     have g55 : ¬ (¬ ((ix f_.ar (ix f_.s.id s49)) = (ix f_.t.id (ix f_.ob s49)))) := by first | simpa using g | (simp at g; exact g) | (simp at g; omega)
     clear g
     replace h := if_r g55 h
     refine w_skip ?_
     refine bn ?_
     refine tn ?_
     refine w_run mo (by rw [hN]; decide) fun K hK => ?_
     replace h := ass_some h
     obtain ⟨a56, h⟩ := h
     simp [-guardE_b, -Is_at, -Is_at', -Ls_at, -Ls_at', eL, eI, allInts, eP_Cat, eP_Fn, Cat.cells, Fn.cells, wrap_id a56]
     repeat (with_reducible refine And.intro ?_ ?_; · first | assumption | omega | (simp; done) | (simp; omega) | simp_all)
     refine hK _ ?_
     clear hK K
     cases h
     exact rn (s' := s49 + 1) hk49 (Wk.r1 [(0, 0), (1, 1), (2, 2)] (by simp [hP, hhOk, back, Cat.cells, Fn.cells, IA, I1, LA, L1, BA, B1, EA, E1, E2, eB, eI, eL]))
   have g50 : ¬ (s49 < f_.s.n) := by first | simpa using g | (simp at g; exact g) | (simp at g; omega)
   clear g
   replace h := if_r g50 h
   refine w_exit ?_
   refine tx ?_
   refine lx ?_
   refine bh ?_
   cases h
   exact jn (b := ()) hk49 (Wk.r1 [(0, 0), (1, 1), (2, 2)] (by simp [hP, hhOk, back, Cat.cells, Fn.cells, IA, I1, LA, L1, BA, B1, EA, E1, E2, eB, eI, eL]))
 intro b41 hb41
 have h := h41
 rw [← hb41] at h
 clear h41
 try dsimp only at h
 refine w_seq ?_
 refine w_seq ?_
 refine w_run mo (by rw [hN]; decide) fun K hK => ?_
 simp [-guardE_b, -Is_at, -Is_at', -Ls_at, -Ls_at', eL, eI, allInts, eP_Cat, eP_Fn, Cat.cells, Fn.cells]
 repeat (with_reducible refine And.intro ?_ ?_; · first | assumption | omega | (simp; done) | (simp; omega) | simp_all)
 refine hK _ ?_
 clear hK K
 refine tn ?_
 refine w_weak (st' := ⟨[(1, .adr 0 0 0), (3, .adr 1 0 0), (4, .adr 2 0 0), (7, .val (.int .i64 0))], [(0, .mix 12 [(Fn.cells true f_)]), (1, .mix 5 [(Cat.cells true f_.s)]), (2, .mix 5 [(Cat.cells true f_.t)])], 3⟩) (Wk.r1 [(0, 0), (1, 1), (2, 2)] (by simp [hP, hhOk, back, Cat.cells, Fn.cells, IA, I1, LA, L1, BA, B1, EA, E1, E2, eB, eI, eL])) ?_
 replace h := bind_some h
 obtain ⟨e57, h, h57⟩ := h
 refine w_joinT (fun b57 : Unit => ⟨[], [], 0⟩) (fun b57 => Sum.inl b57 = e57) ?_ ?_
 · refine w_block ?_
   refine w_loopF h (fun s90 : Int => ⟨[(1, .adr 0 0 0), (3, .adr 1 0 0), (4, .adr 2 0 0), (7, .val (.int .i64 s90))], [(0, .mix 12 [(Fn.cells true f_)]), (1, .mix 5 [(Cat.cells true f_.s)]), (2, .mix 5 [(Cat.cells true f_.t)])], 3⟩) (Wk.r1 [(0, 0), (1, 1), (2, 2)] (by simp [hP, hhOk, back, Cat.cells, Fn.cells, IA, I1, LA, L1, BA, B1, EA, E1, E2, eB, eI, eL])) ?_
   clear h
   intro k90 s90 c90 h hk90
   refine w_seq ?_
   refine w_seq ?_
   refine w_run mo (by rw [hN]; decide) fun K hK => ?_
   simp [-guardE_b, -Is_at, -Is_at', -Ls_at, -Ls_at', eL, eI, allInts, eP_Cat, eP_Fn, Cat.cells, Fn.cells]
   repeat (with_reducible refine And.intro ?_ ?_; · first | assumption | omega | (simp; done) | (simp; omega) | simp_all)
   refine hK _ ?_
   clear hK K
   refine tn ?_
   refine w_weak (st' := ⟨[(1, .adr 0 0 0), (3, .adr 1 0 0), (4, .adr 2 0 0), (7, .val (.int .i64 s90)), (129, .val (.bool (decide (s90 < (f_.s.fr.length : Int)))))], [(0, .mix 12 [(Fn.cells true f_)]), (1, .mix 5 [(Cat.cells true f_.s)]), (2, .mix 5 [(Cat.cells true f_.t)])], 3⟩) (Wk.r1 [(0, 0), (1, 1), (2, 2)] (by simp [hP, hhOk, back, Cat.cells, Fn.cells, IA, I1, LA, L1, BA, B1, EA, E1, E2, eB, eI, eL])) ?_
   refine w_cond rfl (fun g => ?_) fun g => ?_
   · have g91 : s90 < (f_.s.fr.length : Int) := by first | simpa using g | (simp at g; exact g) | (simp at g; omega)
     clear g
     replace h := if_l g91 h
     refine w_skip ?_
     refine tn ?_
     refine w_seq ?_
     replace h := bind_some h
     obtain ⟨e92, h, h92⟩ := h
     refine w_joinT (fun b92 : Unit => ⟨[(1, .adr 0 0 0), (3, .adr 1 0 0), (4, .adr 2 0 0), (7, .val (.int .i64 s90))], [(0, .mix 12 [(Fn.cells true f_)]), (1, .mix 5 [(Cat.cells true f_.s)]), (2, .mix 5 [(Cat.cells true f_.t)])], 3⟩) (fun b92 => Sum.inl b92 = e92) ?_ ?_
     · refine w_block ?_
       refine w_seq ?_
       refine w_run mo (by rw [hN]; decide) fun K hK => ?_
       simp [-guardE_b, -Is_at, -Is_at', -Ls_at, -Ls_at', eL, eI, allInts, eP_Cat, eP_Fn, Cat.cells, Fn.cells]
       repeat (with_reducible refine And.intro ?_ ?_; · first | assumption | omega | (simp; done) | (simp; omega) | simp_all)
       refine hK _ ?_
       clear hK K
       refine tn ?_
       refine w_weak (st' := ⟨[(1, .adr 0 0 0), (3, .adr 1 0 0), (4, .adr 2 0 0), (7, .val (.int .i64 s90)), (8, .val (.int .i64 0))], [(0, .mix 12 [(Fn.cells true f_)]), (1, .mix 5 [(Cat.cells true f_.s)]), (2, .mix 5 [(Cat.cells true f_.t)])], 3⟩) (Wk.r1 [(0, 0), (1, 1), (2, 2)] (by simp [hP, hhOk, back, Cat.cells, Fn.cells, IA, I1, LA, L1, BA, B1, EA, E1, E2, eB, eI, eL])) ?_
       refine w_block ?_
       replace h := bind_some h
       obtain ⟨e107, he107, h107⟩ := h
       refine w_loopF he107 (fun s107 : Int => ⟨[(1, .adr 0 0 0), (3, .adr 1 0 0), (4, .adr 2 0 0), (7, .val (.int .i64 s90)), (8, .val (.int .i64 s107))], [(0, .mix 12 [(Fn.cells true f_)]), (1, .mix 5 [(Cat.cells true f_.s)]), (2, .mix 5 [(Cat.cells true f_.t)])], 3⟩) (Wk.r1 [(0, 0), (1, 1), (2, 2)] (by simp [hP, hhOk, back, Cat.cells, Fn.cells, IA, I1, LA, L1, BA, B1, EA, E1, E2, eB, eI, eL])) ?_
       intro k107 s107 c107 h hk107
       refine w_seq ?_
       refine w_seq ?_
       refine w_run mo (by rw [hN]; decide) fun K hK => ?_
       simp [-guardE_b, -Is_at, -Is_at', -Ls_at, -Ls_at', eL, eI, allInts, eP_Cat, eP_Fn, Cat.cells, Fn.cells]
       repeat (with_reducible refine And.intro ?_ ?_; · first | assumption | omega | (simp; done) | (simp; omega) | simp_all)
       refine hK _ ?_
       clear hK K
       refine tn ?_
       refine w_weak (st' := ⟨[(1, .adr 0 0 0), (3, .adr 1 0 0), (4, .adr 2 0 0), (7, .val (.int .i64 s90)), (8, .val (.int .i64 s107)), (136, .val (.bool (decide (s107 < (f_.s.fr.length : Int)))))], [(0, .mix 12 [(Fn.cells true f_)]), (1, .mix 5 [(Cat.cells true f_.s)]), (2, .mix 5 [(Cat.cells true f_.t)])], 3⟩) (Wk.r1 [(0, 0), (1, 1), (2, 2)] (by simp [hP, hhOk, back, Cat.cells, Fn.cells, IA, I1, LA, L1, BA, B1, EA, E1, E2, eB, eI, eL])) ?_
       refine w_cond rfl (fun g => ?_) fun g => ?_
       · have g108 : s107 < (f_.s.fr.length : Int) := by first | simpa using g | (simp at g; exact g) | (simp at g; omega)
         clear g
         replace h := if_l g108 h
         refine w_skip ?_
         refine tn ?_
         refine w_seq ?_
         refine w_block ?_
         refine w_seq ?_
         replace h := bind_some h
         obtain ⟨e109, h, h109⟩ := h
         refine w_joinT (fun b109 : Bool => ⟨[(1, .adr 0 0 0), (3, .adr 1 0 0), (4, .adr 2 0 0), (7, .val (.int .i64 s90)), (8, .val (.int .i64 s107)), (180, .val (.bool b109))], [(0, .mix 12 [(Fn.cells true f_)]), (1, .mix 5 [(Cat.cells true f_.s)]), (2, .mix 5 [(Cat.cells true f_.t)])], 3⟩) (fun b109 => b109 = e109) ?_ ?_
         · refine w_run mo (by rw [hN]; decide) fun K hK => ?_
           replace h := ass_some h
           obtain ⟨a110, h⟩ := h
           replace h := ass_some h
           obtain ⟨a111, h⟩ := h
           simp [-guardE_b, -Is_at, -Is_at', -Ls_at, -Ls_at', eL, eI, allInts, eP_Cat, eP_Fn, Cat.cells, Fn.cells, at_I a110, at_I a111]
           repeat (with_reducible refine And.intro ?_ ?_; · first | assumption | omega | (simp; done) | (simp; omega) | simp_all)
           refine guard_intro (fun g => ?_) (fun g => ?_)
           · have g112 : (ix f_.s.to s90) = (ix f_.s.fr s107) := by first | simpa using g | (simp at g; exact g) | (simp at g; omega)
             clear g
             replace h := if_l g112 h
             replace h := ass_some h
             obtain ⟨a113, h⟩ := h
             replace h := ass_some h
             obtain ⟨a114, h⟩ := h
             replace h := ass_some h
             obtain ⟨a115, h⟩ := h
             replace h := ass_some h
             obtain ⟨a116, h⟩ := h
             replace h := ass_some h
             obtain ⟨a117, h⟩ := h
             replace h := ass_some h
             obtain ⟨a118, h⟩ := h
             replace h := ass_some h
             obtain ⟨a119, h⟩ := h
             simp [-guardE_b, -Is_at, -Is_at', -Ls_at, -Ls_at', eL, eI, allInts, eP_Cat, eP_Fn, Cat.cells, Fn.cells, at_L a113, at_I a114, at_I a115, at_I a116, at_L a117, at_I a118, at_I a119]
             repeat (with_reducible refine And.intro ?_ ?_; · first | assumption | omega | (simp; done) | (simp; omega) | simp_all)
             refine hK _ ?_
             exact jn (b := (ix f_.ar (ix (rx f_.s.cs s90) s107)) != (ix (rx f_.t.cs (ix f_.ar s90)) (ix f_.ar s107))) (Option.some.inj h) (Wk.r1 [(0, 0), (1, 1), (2, 2)] (by simp [hP, hhOk, back, Cat.cells, Fn.cells, IA, I1, LA, L1, BA, B1, EA, E1, E2, eB, eI, eL]))
           have g112 : ¬ ((ix f_.s.to s90) = (ix f_.s.fr s107)) := by first | simpa using g | (simp at g; exact g) | (simp at g; omega)
           clear g
           replace h := if_r g112 h
           simp [-guardE_b, -Is_at, -Is_at', -Ls_at, -Ls_at', eL, eI, allInts, eP_Cat, eP_Fn, Cat.cells, Fn.cells]
           repeat (with_reducible refine And.intro ?_ ?_; · first | assumption | omega | (simp; done) | (simp; omega) | simp_all)
           refine hK _ ?_
           exact jn (b := false) (Option.some.inj h) (Wk.r1 [(0, 0), (1, 1), (2, 2)] (by simp [hP, hhOk, back, Cat.cells, Fn.cells, IA, I1, LA, L1, BA, B1, EA, E1, E2, eB, eI, eL]))
         intro b109 hb109
         have h := h109
         rw [← hb109] at h
         clear h109
         try dsimp only at h
         refine w_cond rfl (fun g => ?_) fun g => ?_
         · have g120 : b109 = true := by first | simpa using g | (simp at g; exact g) | (simp at g; omega)
           clear g
           replace h := if_l g120 h
           refine w_seq ?_
           refine w_run mo (by rw [hN]; decide) fun K hK => ?_
           simp [-guardE_b, -Is_at, -Is_at', -Ls_at, -Ls_at', eL, eI, allInts, eP_Cat, eP_Fn, Cat.cells, Fn.cells]
           repeat (with_reducible refine And.intro ?_ ?_; · first | assumption | omega | (simp; done) | (simp; omega) | simp_all)
           refine hK _ ?_
           clear hK K
           refine tn ?_
           refine w_weak (st' := ⟨[(2, .val (.bool false))], [], 0⟩) (Wk.r1 [] (by simp [hP, hhOk, back, Cat.cells, Fn.cells, IA, I1, LA, L1, BA, B1, EA, E1, E2, eB, eI, eL])) ?_
           refine w_ret ?_
           refine br ?_
           refine tr ?_
           refine lr ?_
           refine br ?_
           refine br ?_
           refine tr ?_
           refine lr ?_
           refine br ?_
           refine tr ?_
           cases h
           have q : _ = e107 := hk107
           have h := h107
           rw [← q] at h
           clear q
           try dsimp only at h
           cases h
           have h := h92
           try dsimp only at h
           cases h
           have q : _ = e57 := hk90
           have h := h57
           rw [← q] at h
           clear q
           try dsimp only at h
           have hr := Option.some.inj h
           rw [← hr]
           refine ⟨_, (.tmp .nil), ?_⟩
           refine ⟨(.one rfl rfl .nil), [.val (.bool false)], [], by simp [Cat.cells, Fn.cells, IA, I1, LA, L1, BA, B1, EA, E1, E2, eB, eI, eL], by simp, (UpL.refl _)⟩
         have g120 : ¬ (b109 = true) := by first | simpa using g | (simp at g; exact g) | (simp at g; omega)
         clear g
         replace h := if_r g120 h
         refine w_skip ?_
         refine bn ?_
         refine tn ?_
         refine w_run mo (by rw [hN]; decide) fun K hK => ?_
         replace h := ass_some h
         obtain ⟨a121, h⟩ := h
         simp [-guardE_b, -Is_at, -Is_at', -Ls_at, -Ls_at', eL, eI, allInts, eP_Cat, eP_Fn, Cat.cells, Fn.cells, wrap_id a121]
         repeat (with_reducible refine And.intro ?_ ?_; · first | assumption | omega | (simp; done) | (simp; omega) | simp_all)
         refine hK _ ?_
         clear hK K
         cases h
         exact rn (s' := s107 + 1) hk107 (Wk.r1 [(0, 0), (1, 1), (2, 2)] (by simp [hP, hhOk, back, Cat.cells, Fn.cells, IA, I1, LA, L1, BA, B1, EA, E1, E2, eB, eI, eL]))
       have g108 : ¬ (s107 < (f_.s.fr.length : Int)) := by first | simpa using g | (simp at g; exact g) | (simp at g; omega)
       clear g
       replace h := if_r g108 h
       refine w_exit ?_
       refine tx ?_
       refine lx ?_
       refine bh ?_
       refine bn ?_
       cases h
       have q : _ = e107 := hk107
       have h := h107
       rw [← q] at h
       clear q
       try dsimp only at h
       exact jn (b := ()) (Option.some.inj h) (Wk.r1 [(0, 0), (1, 1), (2, 2)] (by simp [hP, hhOk, back, Cat.cells, Fn.cells, IA, I1, LA, L1, BA, B1, EA, E1, E2, eB, eI, eL]))
     intro b92 hb92
     have h := h92
     rw [← hb92] at h
     clear h92
     try dsimp only at h
     refine w_run mo (by rw [hN]; decide) fun K hK => ?_
     replace h := ass_some h
     obtain ⟨a122, h⟩ := h
     simp [-guardE_b, -Is_at, -Is_at', -Ls_at, -Ls_at', eL, eI, allInts, eP_Cat, eP_Fn, Cat.cells, Fn.cells, wrap_id a122]
     repeat (with_reducible refine And.intro ?_ ?_; · first | assumption | omega | (simp; done) | (simp; omega) | simp_all)
     refine hK _ ?_
     clear hK K
     cases h
     exact rn (s' := s90 + 1) hk90 (Wk.r1 [(0, 0), (1, 1), (2, 2)] (by simp [hP, hhOk, back, Cat.cells, Fn.cells, IA, I1, LA, L1, BA, B1, EA, E1, E2, eB, eI, eL]))
   have g91 : ¬ (s90 < (f_.s.fr.length : Int)) := by first | simpa using g | (simp at g; exact g) | (simp at g; omega)
   clear g
   replace h := if_r g91 h
   refine w_exit ?_
   refine tx ?_
   refine lx ?_
   refine bh ?_
   cases h
   exact jn (b := ()) hk90 (Wk.r1 [] (by simp [hP, hhOk, back, Cat.cells, Fn.cells, IA, I1, LA, L1, BA, B1, EA, E1, E2, eB, eI, eL]))
 intro b57 hb57
 have h := h57
 rw [← hb57] at h
 clear h57
 try dsimp only at h
 refine w_seq ?_
 refine w_run mo (by rw [hN]; decide) fun K hK => ?_
 simp [-guardE_b, -Is_at, -Is_at', -Ls_at, -Ls_at', eL, eI, allInts, eP_Cat, eP_Fn, Cat.cells, Fn.cells]
 repeat (with_reducible refine And.intro ?_ ?_; · first | assumption | omega | (simp; done) | (simp; omega) | simp_all)
 refine hK _ ?_
 clear hK K
 refine tn ?_
 refine w_weak (st' := ⟨[(2, .val (.bool true))], [], 0⟩) (Wk.r1 [] (by simp [hP, hhOk, back, Cat.cells, Fn.cells, IA, I1, LA, L1, BA, B1, EA, E1, E2, eB, eI, eL])) ?_
 refine w_ret ?_
 have hr := Option.some.inj h
 rw [← hr]
 refine ⟨_, (.tmp .nil), ?_⟩
 refine ⟨(.one rfl rfl .nil), [.val (.bool true)], [], by simp [Cat.cells, Fn.cells, IA, I1, LA, L1, BA, B1, EA, E1, E2, eB, eI, eL], by simp, (UpL.refl _)⟩
end Go.Vc.T

set_option maxRecDepth 100000
set_option linter.unusedSimpArgs false
set_option linter.unusedVariables false
namespace Go.Vc.T
open Go Go.Vc Go.Proofs
structure Fn.Is (f : Fn) : Prop where
 s : f.s.Is
 t : f.t.Is
 lo : (f.ob.length : Int) = f.s.n
 la : f.ar.length = f.s.fr.length
 ob : ∀ j : Nat, j < f.ob.length → 0 ≤ ix f.ob j ∧ ix f.ob j < f.t.n
 ar : ∀ j : Nat, j < f.ar.length → 0 ≤ ix f.ar j ∧ ix f.ar j < f.t.fr.length
 ends : ∀ a : Nat, a < f.s.fr.length → ix f.t.fr (ix f.ar a) = ix f.ob (ix f.s.fr a) ∧ ix f.t.to (ix f.ar a) = ix f.ob (ix f.s.to a)
 ids : ∀ x : Nat, x < f.s.id.length → ix f.ar (ix f.s.id x) = ix f.t.id (ix f.ob x)
 comp : ∀ a : Nat, a < f.s.fr.length → ∀ b : Nat, b < f.s.fr.length → ix f.s.to a = ix f.s.fr b → ix f.ar (ix (rx f.s.cs a) b) = ix (rx f.t.cs (ix f.ar a)) (ix f.ar b)
theorem Cat.Sh.frn {c : Cat} (h : c.Sh) {a : Nat} (ha : a < c.fr.length) : (0 ≤ ix c.fr a ∧ ix c.fr a < c.id.length) ∧ (0 ≤ ix c.to a ∧ ix c.to a < c.id.length) := ⟨h.fr' (by omega) (by omega), h.to' (by omega) (by omega)⟩
theorem Cat.Sh.idn {c : Cat} (h : c.Sh) {a : Nat} (ha : a < c.id.length) : 0 ≤ ix c.id a ∧ ix c.id a < c.fr.length := h.id' (by omega) (by omega)
theorem Cat.Sh.cmp {c : Cat} (h : c.Sh) {f g : Int} (h0 : 0 ≤ f) (h1 : f < c.fr.length) (h2 : 0 ≤ g) (h3 : g < c.fr.length) (e : ix c.to f = ix c.fr g) : 0 ≤ ix (rx c.cs f) g ∧ ix (rx c.cs f) g < c.fr.length := by
 have := (h.cell' h0 h1 h2 h3).2 e
 omega
theorem e_l06Is (f : Fn) : s_s_l06Is f = some (bo f.Is) := by
 unfold s_s_l06Is
 by_cases h1 : f.s.Is
 case neg => rw [bo_neg (show ¬ f.Is from fun q => h1 q.s)]; simp [s_s_l02Is, bo, h1]
 by_cases h2 : f.t.Is
 case neg => rw [bo_neg (show ¬ f.Is from fun q => h2 q.t)]; simp [s_s_l02Is, bo, h1, h2]
 by_cases h3 : (f.ob.length : Int) = f.s.n
 case neg => rw [bo_neg (show ¬ f.Is from fun q => h3 q.lo)]; simp [s_s_l02Is, bo, h1, h2, h3]
 by_cases h4 : (f.ar.length : Int) = f.s.fr.length
 case neg => rw [bo_neg (show ¬ f.Is from fun q => h4 (by rw [q.la]))]; simp [s_s_l02Is, bo, h1, h2, h3, h4]
 by_cases h5 : f.ob.all (inR f.t.n) = true
 case neg => rw [bo_neg (show ¬ f.Is from fun q => h5 (all_inR.2 q.ob))]; simp [s_s_l02Is, s_s_l01Map, bo, h1, h2, h3, h4, h5]
 by_cases h6 : f.ar.all (inR f.t.fr.length) = true
 case neg => rw [bo_neg (show ¬ f.Is from fun q => h6 (all_inR.2 q.ar))]; simp [s_s_l02Is, s_s_l01Map, bo, h1, h2, h3, h4, h5, h6]
 have ho := all_inR.1 h5
 have ha := all_inR.1 h6
 have hs := h1.1
 have ht := h2.1
 simp only [s_s_l02Is, s_s_l01Map, bo_pos h1, bo_pos h2, h3, h4, h5, h6, Option.bind_some, if_true, if_false, not_true_eq_false, bne_self_eq_false, Bool.not_true, Bool.false_eq_true]
 refine chk_bind f.s.fr.length (fun a : Nat => ix f.t.fr (ix f.ar a) = ix f.ob (ix f.s.fr a) ∧ ix f.t.to (ix f.ar a) = ix f.ob (ix f.s.to a)) (eb := Sum.inr false) (eg := Sum.inl ()) (by have := hs.m40; omega) (fun a hi hp => ?_) (fun a hi hp => ?_) ?_ (fun hx => ?_) fun q1 => ?_
 · have := hs.frn hi
   have := ha a (by omega)
   have := hs.lt
   have := ht.lt
   have := hs.li
   have := hs.m40
   simp (disch := omega) only [ass_pos, if_pos, B64, hp.1, hp.2, Option.bind_some, not_true_eq_false, if_false, bne_self_eq_false, Bool.false_eq_true]
 · have := hs.frn hi
   have := ha a (by omega)
   have := hs.lt
   have := ht.lt
   have := hs.li
   have := hs.m40
   by_cases hp1 : ix f.t.fr (ix f.ar a) = ix f.ob (ix f.s.fr a)
   · have hp2 : ¬ ix f.t.to (ix f.ar a) = ix f.ob (ix f.s.to a) := fun h => hp ⟨hp1, h⟩
     simp (disch := omega) [ass_pos, B64, hp1, hp2, hi]
   simp (disch := omega) [ass_pos, B64, hp1, hi]
 · simp
 · rw [bo_neg (show ¬ f.Is from fun q => hx q.ends)]
 simp only
 refine chk_bind f.s.id.length (fun x : Nat => ix f.ar (ix f.s.id x) = ix f.t.id (ix f.ob x)) (eb := Sum.inr false) (eg := Sum.inl ()) (by have := hs.n8; have := hs.li; omega) (fun a hi hp => ?_) (fun a hi hp => ?_) ?_ (fun hx => ?_) fun q2 => ?_
 · have := hs.idn hi
   have := ho a (by have := hs.li; omega)
   have := hs.li
   have := ht.li
   have := hs.n8
   simp (disch := omega) [ass_pos, B64, hp]; omega
 · have := hs.idn hi
   have := ho a (by have := hs.li; omega)
   have := hs.li
   have := ht.li
   have := hs.n8
   simp (disch := omega) [ass_pos, B64, hp]; omega
 · simp [hs.li]
 · rw [bo_neg (show ¬ f.Is from fun q => hx q.ids)]
 simp only
 refine chk_bind f.s.fr.length (fun a : Nat => ∀ b : Nat, b < f.s.fr.length → ix f.s.to a = ix f.s.fr b → ix f.ar (ix (rx f.s.cs a) b) = ix (rx f.t.cs (ix f.ar a)) (ix f.ar b)) (eb := Sum.inr false) (eg := Sum.inl ()) (by have := hs.m40; omega) (fun a hi hp => ?_) (fun a hi hp => ?_) ?_ (fun hx => ?_) fun q3 => ?_
 rotate_left 2
 · simp
 · rw [bo_neg (show ¬ f.Is from fun q => hx q.comp)]
 · rw [bo_pos (show f.Is from ⟨h1, h2, h3, by omega, ho, ha, q1, q2, q3⟩)]
 all_goals
   have m40 := hs.m40
   have h7 := hs.lt
   have h8 := ha a (by omega)
   have h9 := hs.lc
   have h10 := ht.lc
   have h11 := hs.row' (j := a) (by omega) (by omega)
   have h12 := ht.row' (j := ix f.ar a) (by omega) (by omega)
   rw [if_pos (by omega)]
 all_goals
   rw [Option.bind_assoc]
   refine chk_bind f.s.fr.length (fun b : Nat => ix f.s.to a = ix f.s.fr b → ix f.ar (ix (rx f.s.cs a) b) = ix (rx f.t.cs (ix f.ar a)) (ix f.ar b)) (eb := Sum.inl false) (eg := Sum.inr ()) (by omega) (fun b hb hq => ?_) (fun b hb hq => ?_) ?_ (fun hn => ?_) fun hn => ?_
 all_goals first
   | exact absurd hp hn
   | exact absurd hn hp
   | (simp (disch := omega) [ass_pos, B64]; done)
   | skip
 all_goals
   have h13 := ha b (by omega)
   by_cases h14 : ix f.s.to a = ix f.s.fr b
   · have h15 := hs.cmp (f := a) (g := b) (by omega) (by omega) (by omega) (by omega) h14
     first
       | (have hq1 := hq h14; simp (disch := omega) [ass_pos, B64, h14, hq1, hb])
       | (have hq1 := fun e => hq (fun _ => e); simp (disch := omega) [ass_pos, B64, h14, hq1, hb]; exact hq1)
   first
     | (simp (disch := omega) [ass_pos, B64, h14, hb]; done)
     | exact absurd (fun e => absurd e h14) hq
end Go.Vc.T

set_option maxRecDepth 100000
set_option linter.unusedSimpArgs false
set_option linter.unusedVariables false
namespace Go.Vc.T
open Go Go.Vc Go.Proofs
def selfF (c : Cat) : Fn := ⟨c, c, iota c.n.toNat, iota c.fr.length⟩
def thenF (f g : Fn) : Fn := ⟨f.s, g.t, thenL f.ob g.ob, thenL f.ar g.ar⟩
theorem Cat.Is.ok {c : Cat} (h : c.Is) : c.ok := h.1.size2.1
theorem Fn.Is.lob {f : Fn} (h : f.Is) : f.ob.length ≤ 8 := by have := h.lo; have := h.s.1.n8; omega
theorem Fn.Is.lar {f : Fn} (h : f.Is) : f.ar.length ≤ 40 := by have := h.la; have := h.s.1.m40; omega
end Go.Vc.T

set_option maxRecDepth 100000
set_option linter.unusedSimpArgs false
set_option linter.unusedVariables false
namespace Go.Vc.T
open Go Go.Vc Go.Proofs
noncomputable def s_i_Functor_fits (f_ : Fn) : Option Bool :=
 (
   if ¬ ((f_.ob.length : Int) = f_.s.n) then
     some true
   else
     (s_i_Category_arrows f_.s).bind fun v3 =>
     if ¬ ((f_.ar.length : Int) = v3) then
       some true
     else
       (s_i_within f_.ob f_.t.n).bind fun v5 =>
       if ¬ (v5 = true) then
         some true
       else
         (s_i_Category_arrows f_.t).bind fun v7 =>
         (s_i_within f_.ar v7).bind fun v8 =>
         some (!v8) : Option (Bool)).bind fun b1 =>
 if b1 = true then
   some false
 else
   (loopF (σ := Int) (ε := Unit ⊕ Bool) (fun s23 =>
     if s23 < (f_.ar.length : Int) then
       ass (0 ≤ s23 ∧ s23 < (f_.ar.length : Int)) <|
       (
         ass (0 ≤ ix f_.ar s23 ∧ ix f_.ar s23 < (f_.t.fr.length : Int)) <|
         ass (0 ≤ s23 ∧ s23 < (f_.s.fr.length : Int)) <|
         ass (0 ≤ ix f_.s.fr s23 ∧ ix f_.s.fr s23 < (f_.ob.length : Int)) <|
         if ¬ ((ix f_.t.fr (ix f_.ar s23)) = (ix f_.ob (ix f_.s.fr s23))) then
           some true
         else
           ass (0 ≤ ix f_.ar s23 ∧ ix f_.ar s23 < (f_.t.to.length : Int)) <|
           ass (0 ≤ s23 ∧ s23 < (f_.s.to.length : Int)) <|
           ass (0 ≤ ix f_.s.to s23 ∧ ix f_.s.to s23 < (f_.ob.length : Int)) <|
           some ((ix f_.t.to (ix f_.ar s23)) != (ix f_.ob (ix f_.s.to s23))) : Option (Bool)).bind fun b26 =>
       if b26 = true then
         some (Ctl.ret (Sum.inr false))
       else
         ass (B64 (s23 + 1)) <|
         some (Ctl.next (s23 + 1))
     else
       some (Ctl.ret (Sum.inl ()))) fuel 0).bind fun e10 =>
   match e10 with
   | .inl b10 =>
     (loopF (σ := Int) (ε := Unit ⊕ Bool) (fun s44 =>
       if s44 < (f_.s.id.length : Int) then
         ass (0 ≤ s44 ∧ s44 < (f_.s.id.length : Int)) <|
         ass (0 ≤ ix f_.s.id s44 ∧ ix f_.s.id s44 < (f_.ar.length : Int)) <|
         ass (0 ≤ s44 ∧ s44 < (f_.ob.length : Int)) <|
         ass (0 ≤ ix f_.ob s44 ∧ ix f_.ob s44 < (f_.t.id.length : Int)) <|
         if ¬ ((ix f_.ar (ix f_.s.id s44)) = (ix f_.t.id (ix f_.ob s44))) then
           some (Ctl.ret (Sum.inr false))
         else
           ass (B64 (s44 + 1)) <|
           some (Ctl.next (s44 + 1))
       else
         some (Ctl.ret (Sum.inl ()))) fuel 0).bind fun e36 =>
     match e36 with
     | .inl b36 =>
       (loopF (σ := Int) (ε := Unit ⊕ Bool) (fun s78 =>
         if s78 < (f_.s.cs.length : Int) then
           (
             ass (0 ≤ s78 ∧ s78 < (f_.s.cs.length : Int)) <|
             (loopF (σ := Int) (ε := Bool ⊕ Unit) (fun s92 =>
               if s92 < ((rx f_.s.cs s78).length : Int) then
                 ass (0 ≤ s92 ∧ s92 < ((rx f_.s.cs s78).length : Int)) <|
                 (
                   if (ix (rx f_.s.cs s78) s92) ≥ 0 then
                     ass (0 ≤ ix (rx f_.s.cs s78) s92 ∧ ix (rx f_.s.cs s78) s92 < (f_.ar.length : Int)) <|
                     ass (0 ≤ s78 ∧ s78 < (f_.ar.length : Int)) <|
                     ass (0 ≤ s92 ∧ s92 < (f_.ar.length : Int)) <|
                     (s_i_Category_then f_.t (ix f_.ar s78) (ix f_.ar s92)).bind fun v100 =>
                     some ((ix f_.ar (ix (rx f_.s.cs s78) s92)) != v100)
                   else
                     some false : Option (Bool)).bind fun b95 =>
                 if b95 = true then
                   some (Ctl.ret (Sum.inl false))
                 else
                   ass (B64 (s92 + 1)) <|
                   some (Ctl.next (s92 + 1))
               else
                 some (Ctl.ret (Sum.inr ()))) fuel 0).bind fun e92 =>
             match e92 with
             | .inl p92 =>
               some (Sum.inr p92)
             | .inr p92 =>
               some (Sum.inl p92) : Option (Unit ⊕ Bool)).bind fun e80 =>
           match e80 with
           | .inl b80 =>
             ass (B64 (s78 + 1)) <|
             some (Ctl.next (s78 + 1))
           | .inr p80 =>
             some (Ctl.ret (Sum.inr p80))
         else
           some (Ctl.ret (Sum.inl ()))) fuel 0).bind fun e52 =>
       match e52 with
       | .inl b52 =>
         some true
       | .inr p52 =>
         some p52
     | .inr p36 =>
       some p36
   | .inr p10 =>
     some p10
set_option maxHeartbeats 4000000 in
theorem w_i_Functor_fits (f_ : Fn) (r : Bool) (h : s_i_Functor_fits f_ = some r) : Contract Try.prog 225 [.rptr (f_.cells true)] (.val (.bool r)) := by
 refine contract_introG (rvs := [.tmp 2]) (rs := [.val (.bool r)]) Try.func225 rfl rfl rfl rfl (by simp [Try.f225]) fun F hN hP => ?_
 unfold s_i_Functor_fits at h
 refine w_seq ?_
 refine w_run mo (by rw [hN]; decide) fun K hK => ?_
 simp [-guardE_b, -Is_at, -Is_at', -Ls_at, -Ls_at', eL, eI, allInts, eP_Cat, eP_Fn, Cat.cells, Fn.cells]
 repeat (with_reducible refine And.intro ?_ ?_; · first | assumption | omega | (simp; done) | (simp; omega) | simp_all)
 refine hK _ ?_
 clear hK K
 refine tn ?_
 refine w_weak (st' := ⟨[(0, .rptr (Fn.cells true f_))], [], 0⟩) (Wk.r1 [] (by simp [hP, hhOk, back, Cat.cells, Fn.cells, IA, I1, LA, L1, BA, B1, EA, E1, E2, eB, eI, eL])) ?_
 refine w_seq ?_
 refine w_run mo (by rw [hN]; decide) fun K hK => ?_
 simp [-guardE_b, -Is_at, -Is_at', -Ls_at, -Ls_at', eL, eI, allInts, eP_Cat, eP_Fn, Cat.cells, Fn.cells]
 repeat (with_reducible refine And.intro ?_ ?_; · first | assumption | omega | (simp; done) | (simp; omega) | simp_all)
 refine hK _ ?_
 clear hK K
 refine tn ?_
 refine w_weak (st' := ⟨[(0, .rptr (Fn.cells true f_)), (3, .rptr (Fn.cells true f_)), (4, .rptr [.val (.int .i64 f_.t.n), .lst true 1 (Is f_.t.fr), .lst true 1 (Is f_.t.to), .lst true 1 (Is f_.t.id), .lst true 1 (Ls f_.t.cs), .lst true 1 (Is f_.ob), .lst true 1 (Is f_.ar)])], [], 0⟩) (Wk.r1 [] (by simp [hP, hhOk, back, Cat.cells, Fn.cells, IA, I1, LA, L1, BA, B1, EA, E1, E2, eB, eI, eL])) ?_
 refine w_seq ?_
 refine w_seq ?_
 replace h := bind_some h
 obtain ⟨e1, h, h1⟩ := h
 refine w_joinT (fun b1 : Bool => ⟨[(0, .rptr (Fn.cells true f_)), (3, .rptr (Fn.cells true f_)), (4, .rptr [.val (.int .i64 f_.t.n), .lst true 1 (Is f_.t.fr), .lst true 1 (Is f_.t.to), .lst true 1 (Is f_.t.id), .lst true 1 (Ls f_.t.cs), .lst true 1 (Is f_.ob), .lst true 1 (Is f_.ar)]), (60, .val (.bool b1))], [], 0⟩) (fun b1 => b1 = e1) ?_ ?_
 · refine w_run mo (by rw [hN]; decide) fun K hK => ?_
   simp [-guardE_b, -Is_at, -Is_at', -Ls_at, -Ls_at', eL, eI, allInts, eP_Cat, eP_Fn, Cat.cells, Fn.cells]
   repeat (with_reducible refine And.intro ?_ ?_; · first | assumption | omega | (simp; done) | (simp; omega) | simp_all)
   refine guard_intro (fun g => ?_) (fun g => ?_)
   · have g2 : ¬ (¬ ((f_.ob.length : Int) = f_.s.n)) := by first | simpa using g | (simp at g; exact g) | (simp at g; omega)
     clear g
     replace h := if_r g2 h
     simp [-guardE_b, -Is_at, -Is_at', -Ls_at, -Ls_at', eL, eI, allInts, eP_Cat, eP_Fn, Cat.cells, Fn.cells]
     repeat (with_reducible refine And.intro ?_ ?_; · first | assumption | omega | (simp; done) | (simp; omega) | simp_all)
     replace h := bind_some h
     obtain ⟨v3, hv3, h⟩ := h
     refine callA_intro (w_i_Category_arrows _ v3 hv3) (.cons (.preT (by simp [Cat.cells, Fn.cells])) .nil) ?_
     simp [-guardE_b, -Is_at, -Is_at', -Ls_at, -Ls_at', unk, unA, unE, unT, unC, flat, eL, eI, allInts, eP_Cat, eP_Fn, Cat.cells, Fn.cells]
     repeat (with_reducible refine And.intro ?_ ?_; · first | assumption | omega | (simp; done) | (simp; omega) | simp_all)
     refine guard_intro (fun g => ?_) (fun g => ?_)
     · have g4 : ¬ (¬ ((f_.ar.length : Int) = v3)) := by first | simpa using g | (simp at g; exact g) | (simp at g; omega)
       clear g
       replace h := if_r g4 h
       simp [-guardE_b, -Is_at, -Is_at', -Ls_at, -Ls_at', eL, eI, allInts, eP_Cat, eP_Fn, Cat.cells, Fn.cells]
       repeat (with_reducible refine And.intro ?_ ?_; · first | assumption | omega | (simp; done) | (simp; omega) | simp_all)
       replace h := bind_some h
       obtain ⟨v5, hv5, h⟩ := h
       refine callA_intro (w_i_within _ _ v5 hv5) (.cons .lst (.cons .val .nil)) ?_
       simp [-guardE_b, -Is_at, -Is_at', -Ls_at, -Ls_at', unk, unA, unE, unT, unC, flat, eL, eI, allInts, eP_Cat, eP_Fn, Cat.cells, Fn.cells]
       repeat (with_reducible refine And.intro ?_ ?_; · first | assumption | omega | (simp; done) | (simp; omega) | simp_all)
       refine guard_intro (fun g => ?_) (fun g => ?_)
       · have g6 : ¬ (¬ (v5 = true)) := by first | simpa using g | (simp at g; exact g) | (simp at g; omega)
         clear g
         replace h := if_r g6 h
         simp [-guardE_b, -Is_at, -Is_at', -Ls_at, -Ls_at', eL, eI, allInts, eP_Cat, eP_Fn, Cat.cells, Fn.cells]
         repeat (with_reducible refine And.intro ?_ ?_; · first | assumption | omega | (simp; done) | (simp; omega) | simp_all)
         replace h := bind_some h
         obtain ⟨v7, hv7, h⟩ := h
         refine callA_intro (w_i_Category_arrows _ v7 hv7) (.cons (.preT (by simp [Cat.cells, Fn.cells])) .nil) ?_
         simp [-guardE_b, -Is_at, -Is_at', -Ls_at, -Ls_at', unk, unA, unE, unT, unC, flat, eL, eI, allInts, eP_Cat, eP_Fn, Cat.cells, Fn.cells]
         repeat (with_reducible refine And.intro ?_ ?_; · first | assumption | omega | (simp; done) | (simp; omega) | simp_all)
         replace h := bind_some h
         obtain ⟨v8, hv8, h⟩ := h
         refine callA_intro (w_i_within _ _ v8 hv8) (.cons .lst (.cons .val .nil)) ?_
         simp [-guardE_b, -Is_at, -Is_at', -Ls_at, -Ls_at', unk, unA, unE, unT, unC, flat, eL, eI, allInts, eP_Cat, eP_Fn, Cat.cells, Fn.cells]
         repeat (with_reducible refine And.intro ?_ ?_; · first | assumption | omega | (simp; done) | (simp; omega) | simp_all)
         refine hK _ ?_
         exact jn (b := !v8) (Option.some.inj h) (Wk.r1 [] (by simp [hP, hhOk, back, Cat.cells, Fn.cells, IA, I1, LA, L1, BA, B1, EA, E1, E2, eB, eI, eL]))
       have g6 : ¬ (v5 = true) := by first | simpa using g | (simp at g; exact g) | (simp at g; omega)
       clear g
       replace h := if_l g6 h
       simp [-guardE_b, -Is_at, -Is_at', -Ls_at, -Ls_at', eL, eI, allInts, eP_Cat, eP_Fn, Cat.cells, Fn.cells]
       repeat (with_reducible refine And.intro ?_ ?_; · first | assumption | omega | (simp; done) | (simp; omega) | simp_all)
       refine hK _ ?_
       exact jn (b := true) (Option.some.inj h) (Wk.r1 [] (by simp [hP, hhOk, back, Cat.cells, Fn.cells, IA, I1, LA, L1, BA, B1, EA, E1, E2, eB, eI, eL]))
     have g4 : ¬ ((f_.ar.length : Int) = v3) := by first | simpa using g | (simp at g; exact g) | (simp at g; omega)
     clear g
     replace h := if_l g4 h
     simp [-guardE_b, -Is_at, -Is_at', -Ls_at, -Ls_at', eL, eI, allInts, eP_Cat, eP_Fn, Cat.cells, Fn.cells]
     repeat (with_reducible refine And.intro ?_ ?_; · first | assumption | omega | (simp; done) | (simp; omega) | simp_all)
     refine hK _ ?_
     exact jn (b := true) (Option.some.inj h) (Wk.r1 [] (by simp [hP, hhOk, back, Cat.cells, Fn.cells, IA, I1, LA, L1, BA, B1, EA, E1, E2, eB, eI, eL]))
   have g2 : ¬ ((f_.ob.length : Int) = f_.s.n) := by first | simpa using g | (simp at g; exact g) | (simp at g; omega)
   clear g
   replace h := if_l g2 h
   simp [-guardE_b, -Is_at, -Is_at', -Ls_at, -Ls_at', eL, eI, allInts, eP_Cat, eP_Fn, Cat.cells, Fn.cells]
   repeat (with_reducible refine And.intro ?_ ?_; · first | assumption | omega | (simp; done) | (simp; omega) | simp_all)
   refine hK _ ?_
   exact jn (b := true) (Option.some.inj h) (Wk.r1 [] (by simp [hP, hhOk, back, Cat.cells, Fn.cells, IA, I1, LA, L1, BA, B1, EA, E1, E2, eB, eI, eL]))
 intro b1 hb1
 have h := h1
 rw [← hb1] at h
 clear h1
 try dsimp only at h
 refine w_cond rfl (fun g => ?_) fun g => ?_
 · have g9 : b1 = true := by first | simpa using g | (simp at g; exact g) | (simp at g; omega)
   clear g
   replace h := if_l g9 h
   refine w_seq ?_
   refine w_run mo (by rw [hN]; decide) fun K hK => ?_
   simp [-guardE_b, -Is_at, -Is_at', -Ls_at, -Ls_at', eL, eI, allInts, eP_Cat, eP_Fn, Cat.cells, Fn.cells]
   repeat (with_reducible refine And.intro ?_ ?_; · first | assumption | omega | (simp; done) | (simp; omega) | simp_all)
   refine hK _ ?_
   clear hK K
   refine tn ?_
   refine w_weak (st' := ⟨[(2, .val (.bool false))], [], 0⟩) (Wk.r1 [] (by simp [hP, hhOk, back, Cat.cells, Fn.cells, IA, I1, LA, L1, BA, B1, EA, E1, E2, eB, eI, eL])) ?_
   refine w_ret ?_
   refine tr ?_
   have hr := Option.some.inj h
   rw [← hr]
   refine ⟨_, (.tmp .nil), ?_⟩
   refine ⟨(.one rfl rfl .nil), [.val (.bool false)], [], by simp [Cat.cells, Fn.cells, IA, I1, LA, L1, BA, B1, EA, E1, E2, eB, eI, eL], by simp, (UpL.refl _)⟩
 have g9 : ¬ (b1 = true) := by first | simpa using g | (simp at g; exact g) | (simp at g; omega)
 clear g
 replace h := if_r g9 h
 refine w_skip ?_
 refine tn ?_
 refine w_seq ?_
 refine w_seq ?_
 refine w_run mo (by rw [hN]; decide) fun K hK => ?_
 simp [-guardE_b, -Is_at, -Is_at', -Ls_at, -Ls_at', eL, eI, allInts, eP_Cat, eP_Fn, Cat.cells, Fn.cells]
 repeat (with_reducible refine And.intro ?_ ?_; · first | assumption | omega | (simp; done) | (simp; omega) | simp_all)
 refine hK _ ?_
 clear hK K
 refine tn ?_
 refine w_weak (st' := ⟨[(0, .rptr (Fn.cells true f_)), (3, .rptr (Fn.cells true f_)), (4, .rptr [.val (.int .i64 f_.t.n), .lst true 1 (Is f_.t.fr), .lst true 1 (Is f_.t.to), .lst true 1 (Is f_.t.id), .lst true 1 (Ls f_.t.cs), .lst true 1 (Is f_.ob), .lst true 1 (Is f_.ar)]), (64, .lst true 1 (Is f_.ar)), (65, .val (.int .i64 (f_.ar.length : Int))), (66, .val (.int .i64 0))], [], 0⟩) (Wk.r1 [] (by simp [hP, hhOk, back, Cat.cells, Fn.cells, IA, I1, LA, L1, BA, B1, EA, E1, E2, eB, eI, eL])) ?_
 replace h := bind_some h
 obtain ⟨e10, h, h10⟩ := h
 refine w_joinT (fun b10 : Unit => ⟨[(0, .rptr (Fn.cells true f_)), (3, .rptr (Fn.cells true f_)), (4, .rptr [.val (.int .i64 f_.t.n), .lst true 1 (Is f_.t.fr), .lst true 1 (Is f_.t.to), .lst true 1 (Is f_.t.id), .lst true 1 (Ls f_.t.cs), .lst true 1 (Is f_.ob), .lst true 1 (Is f_.ar)])], [], 0⟩) (fun b10 => Sum.inl b10 = e10) ?_ ?_
 · refine w_block ?_
   refine w_loopF h (fun s23 : Int => ⟨[(0, .rptr (Fn.cells true f_)), (3, .rptr (Fn.cells true f_)), (4, .rptr [.val (.int .i64 f_.t.n), .lst true 1 (Is f_.t.fr), .lst true 1 (Is f_.t.to), .lst true 1 (Is f_.t.id), .lst true 1 (Ls f_.t.cs), .lst true 1 (Is f_.ob), .lst true 1 (Is f_.ar)]), (64, .lst true 1 (Is f_.ar)), (65, .val (.int .i64 (f_.ar.length : Int))), (66, .val (.int .i64 s23))], [], 0⟩) (Wk.r1 [] (by simp [hP, hhOk, back, Cat.cells, Fn.cells, IA, I1, LA, L1, BA, B1, EA, E1, E2, eB, eI, eL])) ?_
   clear h
   intro k23 s23 c23 h hk23
   refine w_seq ?_
   refine w_run mo (by rw [hN]; decide) fun K hK => ?_
   simp [-guardE_b, -Is_at, -Is_at', -Ls_at, -Ls_at', eL, eI, allInts, eP_Cat, eP_Fn, Cat.cells, Fn.cells]
   repeat (with_reducible refine And.intro ?_ ?_; · first | assumption | omega | (simp; done) | (simp; omega) | simp_all)
   refine hK _ ?_
   clear hK K
   refine tn ?_
   refine w_weak (st' := ⟨[(0, .rptr (Fn.cells true f_)), (3, .rptr (Fn.cells true f_)), (4, .rptr [.val (.int .i64 f_.t.n), .lst true 1 (Is f_.t.fr), .lst true 1 (Is f_.t.to), .lst true 1 (Is f_.t.id), .lst true 1 (Ls f_.t.cs), .lst true 1 (Is f_.ob), .lst true 1 (Is f_.ar)]), (64, .lst true 1 (Is f_.ar)), (65, .val (.int .i64 (f_.ar.length : Int))), (66, .val (.int .i64 s23)), (67, .val (.bool (decide (s23 < (f_.ar.length : Int)))))], [], 0⟩) (Wk.r1 [] (by simp [hP, hhOk, back, Cat.cells, Fn.cells, IA, I1, LA, L1, BA, B1, EA, E1, E2, eB, eI, eL])) ?_
   refine w_seq ?_
   refine w_cond rfl (fun g => ?_) fun g => ?_
   · have g24 : s23 < (f_.ar.length : Int) := by first | simpa using g | (simp at g; exact g) | (simp at g; omega)
     clear g
     replace h := if_l g24 h
     refine w_skip ?_
     refine tn ?_
     refine w_seq ?_
     refine w_block ?_
     refine w_seq ?_
     refine w_run mo (by rw [hN]; decide) fun K hK => ?_
     replace h := ass_some h
     obtain ⟨a25, h⟩ := h
     simp [-guardE_b, -Is_at, -Is_at', -Ls_at, -Ls_at', eL, eI, allInts, eP_Cat, eP_Fn, Cat.cells, Fn.cells, at_I a25]
     repeat (with_reducible refine And.intro ?_ ?_; · first | assumption | omega | (simp; done) | (simp; omega) | simp_all)
     refine hK _ ?_
     clear hK K
     refine tn ?_
     refine w_weak (st' := ⟨[(0, .rptr (Fn.cells true f_)), (3, .rptr (Fn.cells true f_)), (4, .rptr [.val (.int .i64 f_.t.n), .lst true 1 (Is f_.t.fr), .lst true 1 (Is f_.t.to), .lst true 1 (Is f_.t.id), .lst true 1 (Ls f_.t.cs), .lst true 1 (Is f_.ob), .lst true 1 (Is f_.ar)]), (5, .val (.int .i64 s23)), (6, .val (.int .i64 (ix f_.ar s23))), (64, .lst true 1 (Is f_.ar)), (65, .val (.int .i64 (f_.ar.length : Int))), (66, .val (.int .i64 s23))], [], 0⟩) (Wk.r1 [] (by simp [hP, hhOk, back, Cat.cells, Fn.cells, IA, I1, LA, L1, BA, B1, EA, E1, E2, eB, eI, eL])) ?_
     refine w_seq ?_
     replace h := bind_some h
     obtain ⟨e26, h, h26⟩ := h
     refine w_joinT (fun b26 : Bool => ⟨[(0, .rptr (Fn.cells true f_)), (3, .rptr (Fn.cells true f_)), (4, .rptr [.val (.int .i64 f_.t.n), .lst true 1 (Is f_.t.fr), .lst true 1 (Is f_.t.to), .lst true 1 (Is f_.t.id), .lst true 1 (Ls f_.t.cs), .lst true 1 (Is f_.ob), .lst true 1 (Is f_.ar)]), (64, .lst true 1 (Is f_.ar)), (65, .val (.int .i64 (f_.ar.length : Int))), (66, .val (.int .i64 s23)), (114, .val (.bool b26))], [], 0⟩) (fun b26 => b26 = e26) ?_ ?_
     · refine w_run mo (by rw [hN]; decide) fun K hK => ?_
       replace h := ass_some h
       obtain ⟨a27, h⟩ := h
       replace h := ass_some h
       obtain ⟨a28, h⟩ := h
       replace h := ass_some h
       obtain ⟨a29, h⟩ := h
       simp [-guardE_b, -Is_at, -Is_at', -Ls_at, -Ls_at', eL, eI, allInts, eP_Cat, eP_Fn, Cat.cells, Fn.cells, at_I a27, at_I a28, at_I a29]
       repeat (with_reducible refine And.intro ?_ ?_; · first | assumption | omega | (simp; done) | (simp; omega) | simp_all)
       refine guard_intro (fun g => ?_) (fun g => ?_)
       · have g30 : ¬ (¬ ((ix f_.t.fr (ix f_.ar s23)) = (ix f_.ob (ix f_.s.fr s23)))) := by first | simpa using g | (simp at g; exact g) | (simp at g; omega)
         clear g
         replace h := if_r g30 h
         replace h := ass_some h
         obtain ⟨a31, h⟩ := h
         replace h := ass_some h
         obtain ⟨a32, h⟩ := h
         replace h := ass_some h
         obtain ⟨a33, h⟩ := h
         simp [-guardE_b, -Is_at, -Is_at', -Ls_at, -Ls_at', eL, eI, allInts, eP_Cat, eP_Fn, Cat.cells, Fn.cells, at_I a31, at_I a32, at_I a33]
         repeat (with_reducible refine And.intro ?_ ?_; · first | assumption | omega | (simp; done) | (simp; omega) | simp_all)
         refine hK _ ?_
         exact jn (b := (ix f_.t.to (ix f_.ar s23)) != (ix f_.ob (ix f_.s.to s23))) (Option.some.inj h) (Wk.r1 [] (by simp [hP, hhOk, back, Cat.cells, Fn.cells, IA, I1, LA, L1, BA, B1, EA, E1, E2, eB, eI, eL]))
       have g30 : ¬ ((ix f_.t.fr (ix f_.ar s23)) = (ix f_.ob (ix f_.s.fr s23))) := by first | simpa using g | (simp at g; exact g) | (simp at g; omega)
       clear g
       replace h := if_l g30 h
       simp [-guardE_b, -Is_at, -Is_at', -Ls_at, -Ls_at', eL, eI, allInts, eP_Cat, eP_Fn, Cat.cells, Fn.cells]
       repeat (with_reducible refine And.intro ?_ ?_; · first | assumption | omega | (simp; done) | (simp; omega) | simp_all)
       refine hK _ ?_
       exact jn (b := true) (Option.some.inj h) (Wk.r1 [] (by simp [hP, hhOk, back, Cat.cells, Fn.cells, IA, I1, LA, L1, BA, B1, EA, E1, E2, eB, eI, eL]))
     intro b26 hb26
     have h := h26
     rw [← hb26] at h
     clear h26
     try dsimp only at h
     refine w_cond rfl (fun g => ?_) fun g => ?_
     · have g34 : b26 = true := by first | simpa using g | (simp at g; exact g) | (simp at g; omega)
       clear g
       replace h := if_l g34 h
       refine w_seq ?_
       refine w_run mo (by rw [hN]; decide) fun K hK => ?_
       simp [-guardE_b, -Is_at, -Is_at', -Ls_at, -Ls_at', eL, eI, allInts, eP_Cat, eP_Fn, Cat.cells, Fn.cells]
       repeat (with_reducible refine And.intro ?_ ?_; · first | assumption | omega | (simp; done) | (simp; omega) | simp_all)
       refine hK _ ?_
       clear hK K
       refine tn ?_
       refine w_weak (st' := ⟨[(2, .val (.bool false))], [], 0⟩) (Wk.r1 [] (by simp [hP, hhOk, back, Cat.cells, Fn.cells, IA, I1, LA, L1, BA, B1, EA, E1, E2, eB, eI, eL])) ?_
       refine w_ret ?_
       refine br ?_
       refine tr ?_
       refine lr ?_
       refine br ?_
       refine tr ?_
       cases h
       have q : _ = e10 := hk23
       have h := h10
       rw [← q] at h
       clear q
       try dsimp only at h
       have hr := Option.some.inj h
       rw [← hr]
       refine ⟨_, (.tmp .nil), ?_⟩
       refine ⟨(.one rfl rfl .nil), [.val (.bool false)], [], by simp [Cat.cells, Fn.cells, IA, I1, LA, L1, BA, B1, EA, E1, E2, eB, eI, eL], by simp, (UpL.refl _)⟩
     have g34 : ¬ (b26 = true) := by first | simpa using g | (simp at g; exact g) | (simp at g; omega)
     clear g
     replace h := if_r g34 h
     refine w_skip ?_
     refine bn ?_
     refine tn ?_
     refine w_run mo (by rw [hN]; decide) fun K hK => ?_
     replace h := ass_some h
     obtain ⟨a35, h⟩ := h
     simp [-guardE_b, -Is_at, -Is_at', -Ls_at, -Ls_at', eL, eI, allInts, eP_Cat, eP_Fn, Cat.cells, Fn.cells, wrap_id a35]
     repeat (with_reducible refine And.intro ?_ ?_; · first | assumption | omega | (simp; done) | (simp; omega) | simp_all)
     refine hK _ ?_
     clear hK K
     cases h
     exact rn (s' := s23 + 1) hk23 (Wk.r1 [] (by simp [hP, hhOk, back, Cat.cells, Fn.cells, IA, I1, LA, L1, BA, B1, EA, E1, E2, eB, eI, eL]))
   have g24 : ¬ (s23 < (f_.ar.length : Int)) := by first | simpa using g | (simp at g; exact g) | (simp at g; omega)
   clear g
   replace h := if_r g24 h
   refine w_exit ?_
   refine tx ?_
   refine lx ?_
   refine bh ?_
   cases h
   exact jn (b := ()) hk23 (Wk.r1 [] (by simp [hP, hhOk, back, Cat.cells, Fn.cells, IA, I1, LA, L1, BA, B1, EA, E1, E2, eB, eI, eL]))
 intro b10 hb10
 have h := h10
 rw [← hb10] at h
 clear h10
 try dsimp only at h
 refine w_seq ?_
 refine w_seq ?_
 refine w_run mo (by rw [hN]; decide) fun K hK => ?_
 simp [-guardE_b, -Is_at, -Is_at', -Ls_at, -Ls_at', eL, eI, allInts, eP_Cat, eP_Fn, Cat.cells, Fn.cells]
 repeat (with_reducible refine And.intro ?_ ?_; · first | assumption | omega | (simp; done) | (simp; omega) | simp_all)
 refine hK _ ?_
 clear hK K
 refine tn ?_
 refine w_weak (st' := ⟨[(0, .rptr (Fn.cells true f_)), (3, .rptr (Fn.cells true f_)), (4, .rptr [.val (.int .i64 f_.t.n), .lst true 1 (Is f_.t.fr), .lst true 1 (Is f_.t.to), .lst true 1 (Is f_.t.id), .lst true 1 (Ls f_.t.cs), .lst true 1 (Is f_.ob), .lst true 1 (Is f_.ar)]), (119, .lst true 1 (Is f_.s.id)), (120, .val (.int .i64 (f_.s.id.length : Int))), (121, .val (.int .i64 0))], [], 0⟩) (Wk.r1 [] (by simp [hP, hhOk, back, Cat.cells, Fn.cells, IA, I1, LA, L1, BA, B1, EA, E1, E2, eB, eI, eL])) ?_
 replace h := bind_some h
 obtain ⟨e36, h, h36⟩ := h
 refine w_joinT (fun b36 : Unit => ⟨[(0, .rptr (Fn.cells true f_)), (3, .rptr (Fn.cells true f_)), (4, .rptr [.val (.int .i64 f_.t.n), .lst true 1 (Is f_.t.fr), .lst true 1 (Is f_.t.to), .lst true 1 (Is f_.t.id), .lst true 1 (Ls f_.t.cs), .lst true 1 (Is f_.ob), .lst true 1 (Is f_.ar)])], [], 0⟩) (fun b36 => Sum.inl b36 = e36) ?_ ?_
 · refine w_block ?_
   refine w_loopF h (fun s44 : Int => ⟨[(0, .rptr (Fn.cells true f_)), (3, .rptr (Fn.cells true f_)), (4, .rptr [.val (.int .i64 f_.t.n), .lst true 1 (Is f_.t.fr), .lst true 1 (Is f_.t.to), .lst true 1 (Is f_.t.id), .lst true 1 (Ls f_.t.cs), .lst true 1 (Is f_.ob), .lst true 1 (Is f_.ar)]), (119, .lst true 1 (Is f_.s.id)), (120, .val (.int .i64 (f_.s.id.length : Int))), (121, .val (.int .i64 s44))], [], 0⟩) (Wk.r1 [] (by simp [hP, hhOk, back, Cat.cells, Fn.cells, IA, I1, LA, L1, BA, B1, EA, E1, E2, eB, eI, eL])) ?_
   clear h
   intro k44 s44 c44 h hk44
   refine w_seq ?_
   refine w_run mo (by rw [hN]; decide) fun K hK => ?_
   simp [-guardE_b, -Is_at, -Is_at', -Ls_at, -Ls_at', eL, eI, allInts, eP_Cat, eP_Fn, Cat.cells, Fn.cells]
   repeat (with_reducible refine And.intro ?_ ?_; · first | assumption | omega | (simp; done) | (simp; omega) | simp_all)
   refine hK _ ?_
   clear hK K
   refine tn ?_
   refine w_weak (st' := ⟨[(0, .rptr (Fn.cells true f_)), (3, .rptr (Fn.cells true f_)), (4, .rptr [.val (.int .i64 f_.t.n), .lst true 1 (Is f_.t.fr), .lst true 1 (Is f_.t.to), .lst true 1 (Is f_.t.id), .lst true 1 (Ls f_.t.cs), .lst true 1 (Is f_.ob), .lst true 1 (Is f_.ar)]), (119, .lst true 1 (Is f_.s.id)), (120, .val (.int .i64 (f_.s.id.length : Int))), (121, .val (.int .i64 s44)), (122, .val (.bool (decide (s44 < (f_.s.id.length : Int)))))], [], 0⟩) (Wk.r1 [] (by simp [hP, hhOk, back, Cat.cells, Fn.cells, IA, I1, LA, L1, BA, B1, EA, E1, E2, eB, eI, eL])) ?_
   refine w_seq ?_
   refine w_cond rfl (fun g => ?_) fun g => ?_
   · have g45 : s44 < (f_.s.id.length : Int) := by first | simpa using g | (simp at g; exact g) | (simp at g; omega)
     clear g
     replace h := if_l g45 h
     refine w_skip ?_
     refine tn ?_
     refine w_seq ?_
     refine w_block ?_
     refine w_seq ?_
     refine w_run mo (by rw [hN]; decide) fun K hK => ?_
     replace h := ass_some h
     obtain ⟨a46, h⟩ := h
     simp [-guardE_b, -Is_at, -Is_at', -Ls_at, -Ls_at', eL, eI, allInts, eP_Cat, eP_Fn, Cat.cells, Fn.cells, at_I a46]
     repeat (with_reducible refine And.intro ?_ ?_; · first | assumption | omega | (simp; done) | (simp; omega) | simp_all)
     refine hK _ ?_
     clear hK K
     refine tn ?_
     refine w_weak (st' := ⟨[(0, .rptr (Fn.cells true f_)), (3, .rptr (Fn.cells true f_)), (4, .rptr [.val (.int .i64 f_.t.n), .lst true 1 (Is f_.t.fr), .lst true 1 (Is f_.t.to), .lst true 1 (Is f_.t.id), .lst true 1 (Ls f_.t.cs), .lst true 1 (Is f_.ob), .lst true 1 (Is f_.ar)]), (7, .val (.int .i64 s44)), (8, .val (.int .i64 (ix f_.s.id s44))), (119, .lst true 1 (Is f_.s.id)), (120, .val (.int .i64 (f_.s.id.length : Int))), (121, .val (.int .i64 s44))], [], 0⟩) (Wk.r1 [] (by simp [hP, hhOk, back, Cat.cells, Fn.cells, IA, I1, LA, L1, BA, B1, EA, E1, E2, eB, eI, eL])) ?_
     refine w_seq ?_
     refine w_run mo (by rw [hN]; decide) fun K hK => ?_
     replace h := ass_some h
     obtain ⟨a47, h⟩ := h
     replace h := ass_some h
     obtain ⟨a48, h⟩ := h
     replace h := ass_some h
     obtain ⟨a49, h⟩ := h
     simp [-guardE_b, -Is_at, -Is_at', -Ls_at, -Ls_at', eL, eI, allInts, eP_Cat, eP_Fn, Cat.cells, Fn.cells, at_I a47, at_I a48, at_I a49]
     repeat (with_reducible refine And.intro ?_ ?_; · first | assumption | omega | (simp; done) | (simp; omega) | simp_all)
     refine hK _ ?_
     clear hK K
     refine tn ?_
     refine w_weak (st' := ⟨[(0, .rptr (Fn.cells true f_)), (3, .rptr (Fn.cells true f_)), (4, .rptr [.val (.int .i64 f_.t.n), .lst true 1 (Is f_.t.fr), .lst true 1 (Is f_.t.to), .lst true 1 (Is f_.t.id), .lst true 1 (Ls f_.t.cs), .lst true 1 (Is f_.ob), .lst true 1 (Is f_.ar)]), (119, .lst true 1 (Is f_.s.id)), (120, .val (.int .i64 (f_.s.id.length : Int))), (121, .val (.int .i64 s44)), (146, .val (.bool ((ix f_.ar (ix f_.s.id s44)) != (ix f_.t.id (ix f_.ob s44)))))], [], 0⟩) (Wk.r1 [] (by simp [hP, hhOk, back, Cat.cells, Fn.cells, IA, I1, LA, L1, BA, B1, EA, E1, E2, eB, eI, eL])) ?_
     refine w_cond rfl (fun g => ?_) fun g => ?_
     · have g50 : ¬ ((ix f_.ar (ix f_.s.id s44)) = (ix f_.t.id (ix f_.ob s44))) := by first | simpa using g | (simp at g; exact g) | (simp at g; omega)
       clear g
       replace h := if_l g50 h
       refine w_seq ?_
       refine w_run mo (by rw [hN]; decide) fun K hK => ?_
       simp [-guardE_b, -Is_at, -Is_at', -Ls_at, -Ls_at', eL, eI, allInts, eP_Cat, eP_Fn, Cat.cells, Fn.cells]
       repeat (with_reducible refine And.intro ?_ ?_; · first | assumption | omega | (simp; done) | (simp; omega) | simp_all)
       refine hK _ ?_
       clear hK K
       refine tn ?_
       refine w_weak (st' := ⟨[(2, .val (.bool false))], [], 0⟩) (Wk.r1 [] (by simp [hP, hhOk, back, Cat.cells, Fn.cells, IA, I1, LA, L1, BA, B1, EA, E1, E2, eB, eI, eL])) ?_
       refine w_ret ?_
       refine br ?_
       refine tr ?_
       refine lr ?_
       refine br ?_
       refine tr ?_
       cases h
       have q : _ = e36 := hk44
       have h := h36
       rw [← q] at h
       clear q
       try dsimp only at h
       have hr := Option.some.inj h
       rw [← hr]
       refine ⟨_, (.tmp .nil), ?_⟩
       refine ⟨(.one rfl rfl .nil), [.val (.bool false)], [], by simp [Cat.cells, Fn.cells, IA, I1, LA, L1, BA, B1, EA, E1, E2, eB, eI, eL], by simp, (UpL.refl _)⟩
     have g50 : ¬ (¬ ((ix f_.ar (ix f_.s.id s44)) = (ix f_.t.id (ix f_.ob s44)))) := by first | simpa using g | (simp at g; exact g) | (simp at g; omega)
     clear g
     replace h := if_r g50 h
     refine w_skip ?_
     refine bn ?_
     refine tn ?_
     refine w_run mo (by rw [hN]; decide) fun K hK => ?_
     replace h := ass_some h
     obtain ⟨a51, h⟩ := h
     simp [-guardE_b, -Is_at, -Is_at', -Ls_at, -Ls_at', eL, eI, allInts, eP_Cat, eP_Fn, Cat.cells, Fn.cells, wrap_id a51]
     repeat (with_reducible refine And.intro ?_ ?_; · first | assumption | omega | (simp; done) | (simp; omega) | simp_all)
     refine hK _ ?_
     clear hK K
     cases h
     exact rn (s' := s44 + 1) hk44 (Wk.r1 [] (by simp [hP, hhOk, back, Cat.cells, Fn.cells, IA, I1, LA, L1, BA, B1, EA, E1, E2, eB, eI, eL]))
   have g45 : ¬ (s44 < (f_.s.id.length : Int)) := by first | simpa using g | (simp at g; exact g) | (simp at g; omega)
   clear g
   replace h := if_r g45 h
   refine w_exit ?_
   refine tx ?_
   refine lx ?_
   refine bh ?_
   cases h
   exact jn (b := ()) hk44 (Wk.r1 [] (by simp [hP, hhOk, back, Cat.cells, Fn.cells, IA, I1, LA, L1, BA, B1, EA, E1, E2, eB, eI, eL]))
 intro b36 hb36
 have h := h36
 rw [← hb36] at h
 clear h36
 try dsimp only at h
 refine w_seq ?_
 refine w_seq ?_
 refine w_run mo (by rw [hN]; decide) fun K hK => ?_
 simp [-guardE_b, -Is_at, -Is_at', -Ls_at, -Ls_at', eL, eI, allInts, eP_Cat, eP_Fn, Cat.cells, Fn.cells]
 repeat (with_reducible refine And.intro ?_ ?_; · first | assumption | omega | (simp; done) | (simp; omega) | simp_all)
 refine hK _ ?_
 clear hK K
 refine tn ?_
 refine w_weak (st' := ⟨[(0, .rptr (Fn.cells true f_)), (4, .rptr [.val (.int .i64 f_.t.n), .lst true 1 (Is f_.t.fr), .lst true 1 (Is f_.t.to), .lst true 1 (Is f_.t.id), .lst true 1 (Ls f_.t.cs), .lst true 1 (Is f_.ob), .lst true 1 (Is f_.ar)]), (151, .lst true 1 (Ls f_.s.cs)), (152, .val (.int .i64 (f_.s.cs.length : Int))), (153, .val (.int .i64 0))], [], 0⟩) (Wk.r1 [] (by simp [hP, hhOk, back, Cat.cells, Fn.cells, IA, I1, LA, L1, BA, B1, EA, E1, E2, eB, eI, eL])) ?_
 replace h := bind_some h
 obtain ⟨e52, h, h52⟩ := h
 refine w_joinT (fun b52 : Unit => ⟨[], [], 0⟩) (fun b52 => Sum.inl b52 = e52) ?_ ?_
 · refine w_block ?_
   refine w_loopF h (fun s78 : Int => ⟨[(0, .rptr (Fn.cells true f_)), (4, .rptr [.val (.int .i64 f_.t.n), .lst true 1 (Is f_.t.fr), .lst true 1 (Is f_.t.to), .lst true 1 (Is f_.t.id), .lst true 1 (Ls f_.t.cs), .lst true 1 (Is f_.ob), .lst true 1 (Is f_.ar)]), (151, .lst true 1 (Ls f_.s.cs)), (152, .val (.int .i64 (f_.s.cs.length : Int))), (153, .val (.int .i64 s78))], [], 0⟩) (Wk.r1 [] (by simp [hP, hhOk, back, Cat.cells, Fn.cells, IA, I1, LA, L1, BA, B1, EA, E1, E2, eB, eI, eL])) ?_
   clear h
   intro k78 s78 c78 h hk78
   refine w_seq ?_
   refine w_run mo (by rw [hN]; decide) fun K hK => ?_
   simp [-guardE_b, -Is_at, -Is_at', -Ls_at, -Ls_at', eL, eI, allInts, eP_Cat, eP_Fn, Cat.cells, Fn.cells]
   repeat (with_reducible refine And.intro ?_ ?_; · first | assumption | omega | (simp; done) | (simp; omega) | simp_all)
   refine hK _ ?_
   clear hK K
   refine tn ?_
   refine w_weak (st' := ⟨[(0, .rptr (Fn.cells true f_)), (4, .rptr [.val (.int .i64 f_.t.n), .lst true 1 (Is f_.t.fr), .lst true 1 (Is f_.t.to), .lst true 1 (Is f_.t.id), .lst true 1 (Ls f_.t.cs), .lst true 1 (Is f_.ob), .lst true 1 (Is f_.ar)]), (151, .lst true 1 (Ls f_.s.cs)), (152, .val (.int .i64 (f_.s.cs.length : Int))), (153, .val (.int .i64 s78)), (154, .val (.bool (decide (s78 < (f_.s.cs.length : Int)))))], [], 0⟩) (Wk.r1 [] (by simp [hP, hhOk, back, Cat.cells, Fn.cells, IA, I1, LA, L1, BA, B1, EA, E1, E2, eB, eI, eL])) ?_
   refine w_seq ?_
   refine w_cond rfl (fun g => ?_) fun g => ?_
   · have g79 : s78 < (f_.s.cs.length : Int) := by first | simpa using g | (simp at g; exact g) | (simp at g; omega)
     clear g
     replace h := if_l g79 h
     refine w_skip ?_
     refine tn ?_
     refine w_seq ?_
     replace h := bind_some h
     obtain ⟨e80, h, h80⟩ := h
     refine w_joinT (fun b80 : Unit => ⟨[(0, .rptr (Fn.cells true f_)), (4, .rptr [.val (.int .i64 f_.t.n), .lst true 1 (Is f_.t.fr), .lst true 1 (Is f_.t.to), .lst true 1 (Is f_.t.id), .lst true 1 (Ls f_.t.cs), .lst true 1 (Is f_.ob), .lst true 1 (Is f_.ar)]), (151, .lst true 1 (Ls f_.s.cs)), (152, .val (.int .i64 (f_.s.cs.length : Int))), (153, .val (.int .i64 s78))], [], 0⟩) (fun b80 => Sum.inl b80 = e80) ?_ ?_
     · refine w_block ?_
       refine w_seq ?_
       refine w_run mo (by rw [hN]; decide) fun K hK => ?_
       replace h := ass_some h
       obtain ⟨a81, h⟩ := h
       simp [-guardE_b, -Is_at, -Is_at', -Ls_at, -Ls_at', eL, eI, allInts, eP_Cat, eP_Fn, Cat.cells, Fn.cells, at_L a81]
       repeat (with_reducible refine And.intro ?_ ?_; · first | assumption | omega | (simp; done) | (simp; omega) | simp_all)
       refine hK _ ?_
       clear hK K
       refine tn ?_
       refine w_weak (st' := ⟨[(0, .rptr (Fn.cells true f_)), (4, .rptr [.val (.int .i64 f_.t.n), .lst true 1 (Is f_.t.fr), .lst true 1 (Is f_.t.to), .lst true 1 (Is f_.t.id), .lst true 1 (Ls f_.t.cs), .lst true 1 (Is f_.ob), .lst true 1 (Is f_.ar)]), (9, .val (.int .i64 s78)), (10, .lst true 1 (Is (rx f_.s.cs s78))), (151, .lst true 1 (Ls f_.s.cs)), (152, .val (.int .i64 (f_.s.cs.length : Int))), (153, .val (.int .i64 s78))], [], 0⟩) (Wk.r1 [] (by simp [hP, hhOk, back, Cat.cells, Fn.cells, IA, I1, LA, L1, BA, B1, EA, E1, E2, eB, eI, eL])) ?_
       refine w_seq ?_
       refine w_run mo (by rw [hN]; decide) fun K hK => ?_
       simp [-guardE_b, -Is_at, -Is_at', -Ls_at, -Ls_at', eL, eI, allInts, eP_Cat, eP_Fn, Cat.cells, Fn.cells]
       repeat (with_reducible refine And.intro ?_ ?_; · first | assumption | omega | (simp; done) | (simp; omega) | simp_all)
       refine hK _ ?_
       clear hK K
       refine tn ?_
       refine w_weak (st' := ⟨[(0, .rptr (Fn.cells true f_)), (4, .rptr [.val (.int .i64 f_.t.n), .lst true 1 (Is f_.t.fr), .lst true 1 (Is f_.t.to), .lst true 1 (Is f_.t.id), .lst true 1 (Ls f_.t.cs), .lst true 1 (Is f_.ob), .lst true 1 (Is f_.ar)]), (9, .val (.int .i64 s78)), (151, .lst true 1 (Ls f_.s.cs)), (152, .val (.int .i64 (f_.s.cs.length : Int))), (153, .val (.int .i64 s78)), (158, .lst true 1 (Is (rx f_.s.cs s78))), (159, .val (.int .i64 ((rx f_.s.cs s78).length : Int))), (160, .val (.int .i64 0))], [], 0⟩) (Wk.r1 [] (by simp [hP, hhOk, back, Cat.cells, Fn.cells, IA, I1, LA, L1, BA, B1, EA, E1, E2, eB, eI, eL])) ?_
       refine w_block ?_
       replace h := bind_some h
       obtain ⟨e92, he92, h92⟩ := h
       refine w_loopF he92 (fun s92 : Int => ⟨[(0, .rptr (Fn.cells true f_)), (4, .rptr [.val (.int .i64 f_.t.n), .lst true 1 (Is f_.t.fr), .lst true 1 (Is f_.t.to), .lst true 1 (Is f_.t.id), .lst true 1 (Ls f_.t.cs), .lst true 1 (Is f_.ob), .lst true 1 (Is f_.ar)]), (9, .val (.int .i64 s78)), (151, .lst true 1 (Ls f_.s.cs)), (152, .val (.int .i64 (f_.s.cs.length : Int))), (153, .val (.int .i64 s78)), (158, .lst true 1 (Is (rx f_.s.cs s78))), (159, .val (.int .i64 ((rx f_.s.cs s78).length : Int))), (160, .val (.int .i64 s92))], [], 0⟩) (Wk.r1 [] (by simp [hP, hhOk, back, Cat.cells, Fn.cells, IA, I1, LA, L1, BA, B1, EA, E1, E2, eB, eI, eL])) ?_
       intro k92 s92 c92 h hk92
       refine w_seq ?_
       refine w_run mo (by rw [hN]; decide) fun K hK => ?_
       simp [-guardE_b, -Is_at, -Is_at', -Ls_at, -Ls_at', eL, eI, allInts, eP_Cat, eP_Fn, Cat.cells, Fn.cells]
       repeat (with_reducible refine And.intro ?_ ?_; · first | assumption | omega | (simp; done) | (simp; omega) | simp_all)
       refine hK _ ?_
       clear hK K
       refine tn ?_
       refine w_weak (st' := ⟨[(0, .rptr (Fn.cells true f_)), (4, .rptr [.val (.int .i64 f_.t.n), .lst true 1 (Is f_.t.fr), .lst true 1 (Is f_.t.to), .lst true 1 (Is f_.t.id), .lst true 1 (Ls f_.t.cs), .lst true 1 (Is f_.ob), .lst true 1 (Is f_.ar)]), (9, .val (.int .i64 s78)), (151, .lst true 1 (Ls f_.s.cs)), (152, .val (.int .i64 (f_.s.cs.length : Int))), (153, .val (.int .i64 s78)), (158, .lst true 1 (Is (rx f_.s.cs s78))), (159, .val (.int .i64 ((rx f_.s.cs s78).length : Int))), (160, .val (.int .i64 s92)), (161, .val (.bool (decide (s92 < ((rx f_.s.cs s78).length : Int)))))], [], 0⟩) (Wk.r1 [] (by simp [hP, hhOk, back, Cat.cells, Fn.cells, IA, I1, LA, L1, BA, B1, EA, E1, E2, eB, eI, eL])) ?_
       refine w_seq ?_
       refine w_cond rfl (fun g => ?_) fun g => ?_
       · have g93 : s92 < ((rx f_.s.cs s78).length : Int) := by first | simpa using g | (simp at g; exact g) | (simp at g; omega)
         clear g
         replace h := if_l g93 h
         refine w_skip ?_
         refine tn ?_
         refine w_seq ?_
         refine w_block ?_
         refine w_seq ?_
         refine w_run mo (by rw [hN]; decide) fun K hK => ?_
         replace h := ass_some h
         obtain ⟨a94, h⟩ := h
         simp [-guardE_b, -Is_at, -Is_at', -Ls_at, -Ls_at', eL, eI, allInts, eP_Cat, eP_Fn, Cat.cells, Fn.cells, at_I a94]
         repeat (with_reducible refine And.intro ?_ ?_; · first | assumption | omega | (simp; done) | (simp; omega) | simp_all)
         refine hK _ ?_
         clear hK K
         refine tn ?_
         refine w_weak (st' := ⟨[(0, .rptr (Fn.cells true f_)), (4, .rptr [.val (.int .i64 f_.t.n), .lst true 1 (Is f_.t.fr), .lst true 1 (Is f_.t.to), .lst true 1 (Is f_.t.id), .lst true 1 (Ls f_.t.cs), .lst true 1 (Is f_.ob), .lst true 1 (Is f_.ar)]), (9, .val (.int .i64 s78)), (11, .val (.int .i64 s92)), (12, .val (.int .i64 (ix (rx f_.s.cs s78) s92))), (151, .lst true 1 (Ls f_.s.cs)), (152, .val (.int .i64 (f_.s.cs.length : Int))), (153, .val (.int .i64 s78)), (158, .lst true 1 (Is (rx f_.s.cs s78))), (159, .val (.int .i64 ((rx f_.s.cs s78).length : Int))), (160, .val (.int .i64 s92))], [], 0⟩) (Wk.r1 [] (by simp [hP, hhOk, back, Cat.cells, Fn.cells, IA, I1, LA, L1, BA, B1, EA, E1, E2, eB, eI, eL])) ?_
         refine w_seq ?_
         replace h := bind_some h
         obtain ⟨e95, h, h95⟩ := h
         refine w_joinT (fun b95 : Bool => ⟨[(0, .rptr (Fn.cells true f_)), (4, .rptr [.val (.int .i64 f_.t.n), .lst true 1 (Is f_.t.fr), .lst true 1 (Is f_.t.to), .lst true 1 (Is f_.t.id), .lst true 1 (Ls f_.t.cs), .lst true 1 (Is f_.ob), .lst true 1 (Is f_.ar)]), (9, .val (.int .i64 s78)), (151, .lst true 1 (Ls f_.s.cs)), (152, .val (.int .i64 (f_.s.cs.length : Int))), (153, .val (.int .i64 s78)), (158, .lst true 1 (Is (rx f_.s.cs s78))), (159, .val (.int .i64 ((rx f_.s.cs s78).length : Int))), (160, .val (.int .i64 s92)), (192, .val (.bool b95))], [], 0⟩) (fun b95 => b95 = e95) ?_ ?_
         · refine w_run mo (by rw [hN]; decide) fun K hK => ?_
           simp [-guardE_b, -Is_at, -Is_at', -Ls_at, -Ls_at', eL, eI, allInts, eP_Cat, eP_Fn, Cat.cells, Fn.cells]
           repeat (with_reducible refine And.intro ?_ ?_; · first | assumption | omega | (simp; done) | (simp; omega) | simp_all)
           refine guard_intro (fun g => ?_) (fun g => ?_)
           · have g96 : (ix (rx f_.s.cs s78) s92) ≥ 0 := by first | simpa using g | (simp at g; exact g) | (simp at g; omega)
             clear g
             replace h := if_l g96 h
             replace h := ass_some h
             obtain ⟨a97, h⟩ := h
             replace h := ass_some h
             obtain ⟨a98, h⟩ := h
             replace h := ass_some h
             obtain ⟨a99, h⟩ := h
             simp [-guardE_b, -Is_at, -Is_at', -Ls_at, -Ls_at', eL, eI, allInts, eP_Cat, eP_Fn, Cat.cells, Fn.cells, at_I a97, at_I a98, at_I a99]
             repeat (with_reducible refine And.intro ?_ ?_; · first | assumption | omega | (simp; done) | (simp; omega) | simp_all)
             replace h := bind_some h
             obtain ⟨v100, hv100, h⟩ := h
             refine callA_intro (w_i_Category_then _ _ _ v100 hv100) (.cons (.preT (by simp [Cat.cells, Fn.cells])) (.cons .val (.cons .val .nil))) ?_
             simp [-guardE_b, -Is_at, -Is_at', -Ls_at, -Ls_at', unk, unA, unE, unT, unC, flat, eL, eI, allInts, eP_Cat, eP_Fn, Cat.cells, Fn.cells]
             repeat (with_reducible refine And.intro ?_ ?_; · first | assumption | omega | (simp; done) | (simp; omega) | simp_all)
             refine hK _ ?_
             exact jn (b := (ix f_.ar (ix (rx f_.s.cs s78) s92)) != v100) (Option.some.inj h) (Wk.r1 [] (by simp [hP, hhOk, back, Cat.cells, Fn.cells, IA, I1, LA, L1, BA, B1, EA, E1, E2, eB, eI, eL]))
           have g96 : ¬ ((ix (rx f_.s.cs s78) s92) ≥ 0) := by first | simpa using g | (simp at g; exact g) | (simp at g; omega)
           clear g
           replace h := if_r g96 h
           simp [-guardE_b, -Is_at, -Is_at', -Ls_at, -Ls_at', eL, eI, allInts, eP_Cat, eP_Fn, Cat.cells, Fn.cells]
           repeat (with_reducible refine And.intro ?_ ?_; · first | assumption | omega | (simp; done) | (simp; omega) | simp_all)
           refine hK _ ?_
           exact jn (b := false) (Option.some.inj h) (Wk.r1 [] (by simp [hP, hhOk, back, Cat.cells, Fn.cells, IA, I1, LA, L1, BA, B1, EA, E1, E2, eB, eI, eL]))
         intro b95 hb95
         have h := h95
         rw [← hb95] at h
         clear h95
         try dsimp only at h
         refine w_cond rfl (fun g => ?_) fun g => ?_
         · have g101 : b95 = true := by first | simpa using g | (simp at g; exact g) | (simp at g; omega)
           clear g
           replace h := if_l g101 h
           refine w_seq ?_
           refine w_run mo (by rw [hN]; decide) fun K hK => ?_
           simp [-guardE_b, -Is_at, -Is_at', -Ls_at, -Ls_at', eL, eI, allInts, eP_Cat, eP_Fn, Cat.cells, Fn.cells]
           repeat (with_reducible refine And.intro ?_ ?_; · first | assumption | omega | (simp; done) | (simp; omega) | simp_all)
           refine hK _ ?_
           clear hK K
           refine tn ?_
           refine w_weak (st' := ⟨[(2, .val (.bool false))], [], 0⟩) (Wk.r1 [] (by simp [hP, hhOk, back, Cat.cells, Fn.cells, IA, I1, LA, L1, BA, B1, EA, E1, E2, eB, eI, eL])) ?_
           refine w_ret ?_
           refine br ?_
           refine tr ?_
           refine lr ?_
           refine br ?_
           refine br ?_
           refine tr ?_
           refine lr ?_
           refine br ?_
           refine tr ?_
           cases h
           have q : _ = e92 := hk92
           have h := h92
           rw [← q] at h
           clear q
           try dsimp only at h
           cases h
           have h := h80
           try dsimp only at h
           cases h
           have q : _ = e52 := hk78
           have h := h52
           rw [← q] at h
           clear q
           try dsimp only at h
           have hr := Option.some.inj h
           rw [← hr]
           refine ⟨_, (.tmp .nil), ?_⟩
           refine ⟨(.one rfl rfl .nil), [.val (.bool false)], [], by simp [Cat.cells, Fn.cells, IA, I1, LA, L1, BA, B1, EA, E1, E2, eB, eI, eL], by simp, (UpL.refl _)⟩
         have g101 : ¬ (b95 = true) := by first | simpa using g | (simp at g; exact g) | (simp at g; omega)
         clear g
         replace h := if_r g101 h
         refine w_skip ?_
         refine bn ?_
         refine tn ?_
         refine w_run mo (by rw [hN]; decide) fun K hK => ?_
         replace h := ass_some h
         obtain ⟨a102, h⟩ := h
         simp [-guardE_b, -Is_at, -Is_at', -Ls_at, -Ls_at', eL, eI, allInts, eP_Cat, eP_Fn, Cat.cells, Fn.cells, wrap_id a102]
         repeat (with_reducible refine And.intro ?_ ?_; · first | assumption | omega | (simp; done) | (simp; omega) | simp_all)
         refine hK _ ?_
         clear hK K
         cases h
         exact rn (s' := s92 + 1) hk92 (Wk.r1 [] (by simp [hP, hhOk, back, Cat.cells, Fn.cells, IA, I1, LA, L1, BA, B1, EA, E1, E2, eB, eI, eL]))
       have g93 : ¬ (s92 < ((rx f_.s.cs s78).length : Int)) := by first | simpa using g | (simp at g; exact g) | (simp at g; omega)
       clear g
       replace h := if_r g93 h
       refine w_exit ?_
       refine tx ?_
       refine lx ?_
       refine bh ?_
       refine bn ?_
       cases h
       have q : _ = e92 := hk92
       have h := h92
       rw [← q] at h
       clear q
       try dsimp only at h
       exact jn (b := ()) (Option.some.inj h) (Wk.r1 [] (by simp [hP, hhOk, back, Cat.cells, Fn.cells, IA, I1, LA, L1, BA, B1, EA, E1, E2, eB, eI, eL]))
     intro b80 hb80
     have h := h80
     rw [← hb80] at h
     clear h80
     try dsimp only at h
     refine w_run mo (by rw [hN]; decide) fun K hK => ?_
     replace h := ass_some h
     obtain ⟨a103, h⟩ := h
     simp [-guardE_b, -Is_at, -Is_at', -Ls_at, -Ls_at', eL, eI, allInts, eP_Cat, eP_Fn, Cat.cells, Fn.cells, wrap_id a103]
     repeat (with_reducible refine And.intro ?_ ?_; · first | assumption | omega | (simp; done) | (simp; omega) | simp_all)
     refine hK _ ?_
     clear hK K
     cases h
     exact rn (s' := s78 + 1) hk78 (Wk.r1 [] (by simp [hP, hhOk, back, Cat.cells, Fn.cells, IA, I1, LA, L1, BA, B1, EA, E1, E2, eB, eI, eL]))
   have g79 : ¬ (s78 < (f_.s.cs.length : Int)) := by first | simpa using g | (simp at g; exact g) | (simp at g; omega)
   clear g
   replace h := if_r g79 h
   refine w_exit ?_
   refine tx ?_
   refine lx ?_
   refine bh ?_
   cases h
   exact jn (b := ()) hk78 (Wk.r1 [] (by simp [hP, hhOk, back, Cat.cells, Fn.cells, IA, I1, LA, L1, BA, B1, EA, E1, E2, eB, eI, eL]))
 intro b52 hb52
 have h := h52
 rw [← hb52] at h
 clear h52
 try dsimp only at h
 refine w_seq ?_
 refine w_run mo (by rw [hN]; decide) fun K hK => ?_
 simp [-guardE_b, -Is_at, -Is_at', -Ls_at, -Ls_at', eL, eI, allInts, eP_Cat, eP_Fn, Cat.cells, Fn.cells]
 repeat (with_reducible refine And.intro ?_ ?_; · first | assumption | omega | (simp; done) | (simp; omega) | simp_all)
 refine hK _ ?_
 clear hK K
 refine tn ?_
 refine w_weak (st' := ⟨[(2, .val (.bool true))], [], 0⟩) (Wk.r1 [] (by simp [hP, hhOk, back, Cat.cells, Fn.cells, IA, I1, LA, L1, BA, B1, EA, E1, E2, eB, eI, eL])) ?_
 refine w_ret ?_
 have hr := Option.some.inj h
 rw [← hr]
 refine ⟨_, (.tmp .nil), ?_⟩
 refine ⟨(.one rfl rfl .nil), [.val (.bool true)], [], by simp [Cat.cells, Fn.cells, IA, I1, LA, L1, BA, B1, EA, E1, E2, eB, eI, eL], by simp, (UpL.refl _)⟩
end Go.Vc.T

set_option maxRecDepth 100000
set_option linter.unusedSimpArgs false
set_option linter.unusedVariables false
namespace Go.Vc.T
open Go Go.Vc Go.Proofs
noncomputable def s_i_areCategories (list_ : List Cat) : Option Bool :=
 (loopF (σ := Int) (ε := Unit ⊕ Bool) (fun s7 =>
   if s7 < (list_.length : Int) then
     ass (0 ≤ s7 ∧ s7 < (list_.length : Int)) <|
     (s_i_Category_isCategory (gx list_ s7)).bind fun v10 =>
     if ¬ (v10 = true) then
       some (Ctl.ret (Sum.inr false))
     else
       ass (B64 (s7 + 1)) <|
       some (Ctl.next (s7 + 1))
   else
     some (Ctl.ret (Sum.inl ()))) fuel 0).bind fun e1 =>
 match e1 with
 | .inl b1 =>
   some true
 | .inr p1 =>
   some p1
set_option maxHeartbeats 4000000 in
theorem w_i_areCategories (list_ : List Cat) (r : Bool) (h : s_i_areCategories list_ = some r) : Contract Try.prog 224 [.lst true 1 (Es eP_Cat list_)] (.val (.bool r)) := by
 refine contract_introG (rvs := [.tmp 2]) (rs := [.val (.bool r)]) Try.func224 rfl rfl rfl rfl (by simp [Try.f224]) fun F hN hP => ?_
 unfold s_i_areCategories at h
 refine w_seq ?_
 refine w_run mo (by rw [hN]; decide) fun K hK => ?_
 simp [-guardE_b, -Is_at, -Is_at', -Ls_at, -Ls_at', eL, eI, allInts, eP_Cat, Cat.cells]
 repeat (with_reducible refine And.intro ?_ ?_; · first | assumption | omega | (simp; done) | (simp; omega) | simp_all)
 refine hK _ ?_
 clear hK K
 refine tn ?_
 refine w_weak (st' := ⟨[(0, .lst true 1 (Es eP_Cat list_))], [], 0⟩) (Wk.r1 [] (by simp [hP, hhOk, back, Cat.cells, IA, I1, LA, L1, BA, B1, EA, E1, E2, eB, eI, eL])) ?_
 refine w_seq ?_
 refine w_seq ?_
 refine w_run mo (by rw [hN]; decide) fun K hK => ?_
 simp [-guardE_b, -Is_at, -Is_at', -Ls_at, -Ls_at', eL, eI, allInts, eP_Cat, Cat.cells]
 repeat (with_reducible refine And.intro ?_ ?_; · first | assumption | omega | (simp; done) | (simp; omega) | simp_all)
 refine hK _ ?_
 clear hK K
 refine tn ?_
 refine w_weak (st' := ⟨[(5, .lst true 1 (Es eP_Cat list_)), (6, .val (.int .i64 (list_.length : Int))), (7, .val (.int .i64 0))], [], 0⟩) (Wk.r1 [] (by simp [hP, hhOk, back, Cat.cells, IA, I1, LA, L1, BA, B1, EA, E1, E2, eB, eI, eL])) ?_
 replace h := bind_some h
 obtain ⟨e1, h, h1⟩ := h
 refine w_joinT (fun b1 : Unit => ⟨[], [], 0⟩) (fun b1 => Sum.inl b1 = e1) ?_ ?_
 · refine w_block ?_
   refine w_loopF h (fun s7 : Int => ⟨[(5, .lst true 1 (Es eP_Cat list_)), (6, .val (.int .i64 (list_.length : Int))), (7, .val (.int .i64 s7))], [], 0⟩) (Wk.r1 [] (by simp [hP, hhOk, back, Cat.cells, IA, I1, LA, L1, BA, B1, EA, E1, E2, eB, eI, eL])) ?_
   clear h
   intro k7 s7 c7 h hk7
   refine w_seq ?_
   refine w_run mo (by rw [hN]; decide) fun K hK => ?_
   simp [-guardE_b, -Is_at, -Is_at', -Ls_at, -Ls_at', eL, eI, allInts, eP_Cat, Cat.cells]
   repeat (with_reducible refine And.intro ?_ ?_; · first | assumption | omega | (simp; done) | (simp; omega) | simp_all)
   refine hK _ ?_
   clear hK K
   refine tn ?_
   refine w_weak (st' := ⟨[(5, .lst true 1 (Es eP_Cat list_)), (6, .val (.int .i64 (list_.length : Int))), (7, .val (.int .i64 s7)), (8, .val (.bool (decide (s7 < (list_.length : Int)))))], [], 0⟩) (Wk.r1 [] (by simp [hP, hhOk, back, Cat.cells, IA, I1, LA, L1, BA, B1, EA, E1, E2, eB, eI, eL])) ?_
   refine w_seq ?_
   refine w_cond rfl (fun g => ?_) fun g => ?_
   · have g8 : s7 < (list_.length : Int) := by first | simpa using g | (simp at g; exact g) | (simp at g; omega)
     clear g
     replace h := if_l g8 h
     refine w_skip ?_
     refine tn ?_
     refine w_seq ?_
     refine w_block ?_
     refine w_seq ?_
     refine w_run mo (by rw [hN]; decide) fun K hK => ?_
     replace h := ass_some h
     obtain ⟨a9, h⟩ := h
     simp [-guardE_b, -Is_at, -Is_at', -Ls_at, -Ls_at', eL, eI, allInts, eP_Cat, Cat.cells, at_E (c := eP_Cat) a9]
     repeat (with_reducible refine And.intro ?_ ?_; · first | assumption | omega | (simp; done) | (simp; omega) | simp_all)
     refine hK _ ?_
     clear hK K
     refine tn ?_
     refine w_weak (st' := ⟨[(4, .rptr (Cat.cells true (gx list_ s7))), (5, .lst true 1 (Es eP_Cat list_)), (6, .val (.int .i64 (list_.length : Int))), (7, .val (.int .i64 s7))], [], 0⟩) (Wk.r1 [] (by simp [hP, hhOk, back, Cat.cells, IA, I1, LA, L1, BA, B1, EA, E1, E2, eB, eI, eL])) ?_
     refine w_seq ?_
     refine w_run mo (by rw [hN]; decide) fun K hK => ?_
     simp [-guardE_b, -Is_at, -Is_at', -Ls_at, -Ls_at', eL, eI, allInts, eP_Cat, Cat.cells]
     repeat (with_reducible refine And.intro ?_ ?_; · first | assumption | omega | (simp; done) | (simp; omega) | simp_all)
     replace h := bind_some h
     obtain ⟨v10, hv10, h⟩ := h
     refine callA_intro (w_i_Category_isCategory _ v10 hv10) (.cons (.preT (by simp [Cat.cells])) .nil) ?_
     simp [-guardE_b, -Is_at, -Is_at', -Ls_at, -Ls_at', unk, unA, unE, unT, unC, flat, eL, eI, allInts, eP_Cat, Cat.cells]
     repeat (with_reducible refine And.intro ?_ ?_; · first | assumption | omega | (simp; done) | (simp; omega) | simp_all)
     refine hK _ ?_
     clear hK K
     refine tn ?_
     refine w_weak (st' := ⟨[(5, .lst true 1 (Es eP_Cat list_)), (6, .val (.int .i64 (list_.length : Int))), (7, .val (.int .i64 s7)), (13, .val (.bool (!v10)))], [], 0⟩) (Wk.r1 [] (by simp [hP, hhOk, back, Cat.cells, IA, I1, LA, L1, BA, B1, EA, E1, E2, eB, eI, eL])) ?_
     refine w_cond rfl (fun g => ?_) fun g => ?_
     · have g11 : ¬ (v10 = true) := by first | simpa using g | (simp at g; exact g) | (simp at g; omega)
       clear g
       replace h := if_l g11 h
       refine w_seq ?_
       refine w_run mo (by rw [hN]; decide) fun K hK => ?_
       simp [-guardE_b, -Is_at, -Is_at', -Ls_at, -Ls_at', eL, eI, allInts, eP_Cat, Cat.cells]
       repeat (with_reducible refine And.intro ?_ ?_; · first | assumption | omega | (simp; done) | (simp; omega) | simp_all)
       refine hK _ ?_
       clear hK K
       refine tn ?_
       refine w_weak (st' := ⟨[(2, .val (.bool false))], [], 0⟩) (Wk.r1 [] (by simp [hP, hhOk, back, Cat.cells, IA, I1, LA, L1, BA, B1, EA, E1, E2, eB, eI, eL])) ?_
       refine w_ret ?_
       refine br ?_
       refine tr ?_
       refine lr ?_
       refine br ?_
       refine tr ?_
       cases h
       have q : _ = e1 := hk7
       have h := h1
       rw [← q] at h
       clear q
       try dsimp only at h
       have hr := Option.some.inj h
       rw [← hr]
       refine ⟨_, (.tmp .nil), ?_⟩
       refine ⟨(.one rfl rfl .nil), [.val (.bool false)], [], by simp [Cat.cells, IA, I1, LA, L1, BA, B1, EA, E1, E2, eB, eI, eL], by simp, (UpL.refl _)⟩
     have g11 : ¬ (¬ (v10 = true)) := by first | simpa using g | (simp at g; exact g) | (simp at g; omega)
     clear g
     replace h := if_r g11 h
     refine w_skip ?_
     refine bn ?_
     refine tn ?_
     refine w_run mo (by rw [hN]; decide) fun K hK => ?_
     replace h := ass_some h
     obtain ⟨a12, h⟩ := h
     simp [-guardE_b, -Is_at, -Is_at', -Ls_at, -Ls_at', eL, eI, allInts, eP_Cat, Cat.cells, wrap_id a12]
     repeat (with_reducible refine And.intro ?_ ?_; · first | assumption | omega | (simp; done) | (simp; omega) | simp_all)
     refine hK _ ?_
     clear hK K
     cases h
     exact rn (s' := s7 + 1) hk7 (Wk.r1 [] (by simp [hP, hhOk, back, Cat.cells, IA, I1, LA, L1, BA, B1, EA, E1, E2, eB, eI, eL]))
   have g8 : ¬ (s7 < (list_.length : Int)) := by first | simpa using g | (simp at g; exact g) | (simp at g; omega)
   clear g
   replace h := if_r g8 h
   refine w_exit ?_
   refine tx ?_
   refine lx ?_
   refine bh ?_
   cases h
   exact jn (b := ()) hk7 (Wk.r1 [] (by simp [hP, hhOk, back, Cat.cells, IA, I1, LA, L1, BA, B1, EA, E1, E2, eB, eI, eL]))
 intro b1 hb1
 have h := h1
 rw [← hb1] at h
 clear h1
 try dsimp only at h
 refine w_seq ?_
 refine w_run mo (by rw [hN]; decide) fun K hK => ?_
 simp [-guardE_b, -Is_at, -Is_at', -Ls_at, -Ls_at', eL, eI, allInts, eP_Cat, Cat.cells]
 repeat (with_reducible refine And.intro ?_ ?_; · first | assumption | omega | (simp; done) | (simp; omega) | simp_all)
 refine hK _ ?_
 clear hK K
 refine tn ?_
 refine w_weak (st' := ⟨[(2, .val (.bool true))], [], 0⟩) (Wk.r1 [] (by simp [hP, hhOk, back, Cat.cells, IA, I1, LA, L1, BA, B1, EA, E1, E2, eB, eI, eL])) ?_
 refine w_ret ?_
 have hr := Option.some.inj h
 rw [← hr]
 refine ⟨_, (.tmp .nil), ?_⟩
 refine ⟨(.one rfl rfl .nil), [.val (.bool true)], [], by simp [Cat.cells, IA, I1, LA, L1, BA, B1, EA, E1, E2, eB, eI, eL], by simp, (UpL.refl _)⟩
end Go.Vc.T

set_option maxRecDepth 100000
set_option linter.unusedSimpArgs false
set_option linter.unusedVariables false
namespace Go.Vc.T
open Go Go.Vc Go.Proofs
noncomputable def s_i_Functor_isFunctor (f_ : Fn) : Option Bool :=
 (
   (s_i_areCategories [f_.s, f_.t]).bind fun v2 =>
   if v2 = true then
     (s_i_Functor_fits f_).bind fun v4 =>
     some v4
   else
     some false : Option (Bool)).bind fun b1 =>
 some b1
set_option maxHeartbeats 4000000 in
theorem w_i_Functor_isFunctor (f_ : Fn) (r : Bool) (h : s_i_Functor_isFunctor f_ = some r) : Contract Try.prog 157 [.rptr (f_.cells true)] (.val (.bool r)) := by
 refine contract_introG (rvs := [.tmp 2]) (rs := [.val (.bool r)]) Try.func157 rfl rfl rfl rfl (by simp [Try.f157]) fun F hN hP => ?_
 unfold s_i_Functor_isFunctor at h
 refine w_seq ?_
 refine w_run mo (by rw [hN]; decide) fun K hK => ?_
 simp [-guardE_b, -Is_at, -Is_at', -Ls_at, -Ls_at', eL, eI, allInts, eP_Cat, eP_Fn, Cat.cells, Fn.cells]
 repeat (with_reducible refine And.intro ?_ ?_; · first | assumption | omega | (simp; done) | (simp; omega) | simp_all)
 refine hK _ ?_
 clear hK K
 refine tn ?_
 refine w_weak (st' := ⟨[(0, .rptr (Fn.cells true f_))], [], 0⟩) (Wk.r1 [] (by simp [hP, hhOk, back, Cat.cells, Fn.cells, IA, I1, LA, L1, BA, B1, EA, E1, E2, eB, eI, eL])) ?_
 refine w_seq ?_
 replace h := bind_some h
 obtain ⟨e1, h, h1⟩ := h
 refine w_joinT (fun b1 : Bool => ⟨[(2, .val (.bool b1))], [], 0⟩) (fun b1 => b1 = e1) ?_ ?_
 · refine w_run mo (by rw [hN]; decide) fun K hK => ?_
   simp [-guardE_b, -Is_at, -Is_at', -Ls_at, -Ls_at', eL, eI, allInts, eP_Cat, eP_Fn, Cat.cells, Fn.cells]
   repeat (with_reducible refine And.intro ?_ ?_; · first | assumption | omega | (simp; done) | (simp; omega) | simp_all)
   replace h := bind_some h
   obtain ⟨v2, hv2, h⟩ := h
   refine callA_intro (w_i_areCategories _ v2 hv2) (.cons (.lits (es := _) rfl (.cons rfl (.cons (.preT (by simp [Cat.cells, Fn.cells])) .nil) (.cons rfl (.cons (.preT (by simp [Cat.cells, Fn.cells])) .nil) .nil)) rfl) .nil) ?_
   simp [-guardE_b, -Is_at, -Is_at', -Ls_at, -Ls_at', unk, unA, unE, unT, unC, flat, eL, eI, allInts, eP_Cat, eP_Fn, Cat.cells, Fn.cells]
   repeat (with_reducible refine And.intro ?_ ?_; · first | assumption | omega | (simp; done) | (simp; omega) | simp_all)
   refine guard_intro (fun g => ?_) (fun g => ?_)
   · have g3 : v2 = true := by first | simpa using g | (simp at g; exact g) | (simp at g; omega)
     clear g
     replace h := if_l g3 h
     simp [-guardE_b, -Is_at, -Is_at', -Ls_at, -Ls_at', eL, eI, allInts, eP_Cat, eP_Fn, Cat.cells, Fn.cells]
     repeat (with_reducible refine And.intro ?_ ?_; · first | assumption | omega | (simp; done) | (simp; omega) | simp_all)
     replace h := bind_some h
     obtain ⟨v4, hv4, h⟩ := h
     refine callA_intro (w_i_Functor_fits _ v4 hv4) (.cons (.preT (by simp [Cat.cells, Fn.cells])) .nil) ?_
     simp [-guardE_b, -Is_at, -Is_at', -Ls_at, -Ls_at', unk, unA, unE, unT, unC, flat, eL, eI, allInts, eP_Cat, eP_Fn, Cat.cells, Fn.cells]
     repeat (with_reducible refine And.intro ?_ ?_; · first | assumption | omega | (simp; done) | (simp; omega) | simp_all)
     refine hK _ ?_
     exact jn (b := v4) (Option.some.inj h) (Wk.r1 [] (by simp [hP, hhOk, back, Cat.cells, Fn.cells, IA, I1, LA, L1, BA, B1, EA, E1, E2, eB, eI, eL]))
   have g3 : ¬ (v2 = true) := by first | simpa using g | (simp at g; exact g) | (simp at g; omega)
   clear g
   replace h := if_r g3 h
   simp [-guardE_b, -Is_at, -Is_at', -Ls_at, -Ls_at', eL, eI, allInts, eP_Cat, eP_Fn, Cat.cells, Fn.cells]
   repeat (with_reducible refine And.intro ?_ ?_; · first | assumption | omega | (simp; done) | (simp; omega) | simp_all)
   refine hK _ ?_
   exact jn (b := false) (Option.some.inj h) (Wk.r1 [] (by simp [hP, hhOk, back, Cat.cells, Fn.cells, IA, I1, LA, L1, BA, B1, EA, E1, E2, eB, eI, eL]))
 intro b1 hb1
 have h := h1
 rw [← hb1] at h
 clear h1
 try dsimp only at h
 refine w_ret ?_
 have hr := Option.some.inj h
 rw [← hr]
 refine ⟨_, (.tmp .nil), ?_⟩
 refine ⟨(.one rfl rfl .nil), [.val (.bool b1)], [], by simp [Cat.cells, Fn.cells, IA, I1, LA, L1, BA, B1, EA, E1, E2, eB, eI, eL], by simp, (UpL.refl _)⟩
end Go.Vc.T

set_option maxRecDepth 100000
set_option linter.unusedSimpArgs false
set_option linter.unusedVariables false
namespace Go.Vc.T
open Go Go.Vc Go.Proofs
structure NatT (f g : Fn) (p : List Int) : Prop where
 lp : p.length = f.ob.length
 bd : ∀ j : Nat, j < p.length → 0 ≤ ix p j ∧ ix p j < f.t.fr.length
 ends : ∀ x : Nat, x < p.length → ix f.t.fr (ix p x) = ix f.ob x ∧ ix f.t.to (ix p x) = ix g.ob x
 sq : ∀ a : Nat, a < f.s.fr.length → ix (rx f.t.cs (ix f.ar a)) (ix p (ix f.s.to a)) = ix (rx f.t.cs (ix p (ix f.s.fr a))) (ix g.ar a)
structure Para (f g : Fn) : Prop where
 hf : f.Is
 hg : g.Is
 s : f.s = g.s
 t : f.t = g.t
theorem e_Cthen {c : Cat} {f g : Int} (h0 : 0 ≤ f ∧ f < (c.cs.length : Int)) (h1 : 0 ≤ g ∧ g < ((rx c.cs f).length : Int)) : s_i_Category_then c f g = some (ix (rx c.cs f) g) := by
 unfold s_i_Category_then
 rw [ass_pos h0.1, ass_pos h0.2, ass_pos h1.1, ass_pos h1.2]
structure Tra.Is (t : Tra) : Prop where
 p : Para t.s t.t
 n : NatT t.s t.t t.p
theorem e_fits {f : Fn} (h1 : f.s.Is) (h2 : f.t.Is) : s_i_Functor_fits f = some (bo f.Is) := by
 have hs := h1.1
 have ht := h2.1
 have k0 := hs.n0
 have k1 := hs.n8
 have k2 := hs.m40
 have k3 := hs.li
 have k4 := hs.lt
 have k5 := hs.lc
 have k6 := ht.li
 have k7 := ht.lt
 have k8 := ht.lc
 have k9 := ht.m40
 have k10 := ht.n0
 have k11 := ht.n8
 have b1 : B64 (f.t.n - 1) := ⟨by omega, by omega⟩
 have b2 : B64 ((f.t.fr.length : Int) - 1) := ⟨by omega, by omega⟩
 unfold s_i_Functor_fits
 by_cases h3 : (f.ob.length : Int) = f.s.n
 case neg => rw [bo_neg (show ¬ f.Is from fun q => h3 q.lo)]; simp [h3]
 by_cases h4 : (f.ar.length : Int) = f.s.fr.length
 case neg => rw [bo_neg (show ¬ f.Is from fun q => h4 (by rw [q.la]))]; simp [s_i_Category_arrows, h3, h4]
 by_cases h5 : f.ob.all (inR f.t.n) = true
 case neg => rw [bo_neg (show ¬ f.Is from fun q => h5 (all_inR.2 q.ob))]; simp [s_i_Category_arrows, s_i_within, ass_pos b1, h3, h4, h5]
 by_cases h6 : f.ar.all (inR f.t.fr.length) = true
 case neg => rw [bo_neg (show ¬ f.Is from fun q => h6 (all_inR.2 q.ar))]; simp [s_i_Category_arrows, s_i_within, ass_pos b1, ass_pos b2, h3, h4, h5, h6]
 have ho := all_inR.1 h5
 have ha := all_inR.1 h6
 simp only [s_i_Category_arrows, s_i_within, ass_pos b1, ass_pos b2, h3, h4, h5, h6, Option.bind_some, if_true, if_false, not_true_eq_false, Bool.not_true, Bool.false_eq_true]
 refine chk_bind f.s.fr.length (fun a : Nat => ix f.t.fr (ix f.ar a) = ix f.ob (ix f.s.fr a) ∧ ix f.t.to (ix f.ar a) = ix f.ob (ix f.s.to a)) (eb := Sum.inr false) (eg := Sum.inl ()) (by omega) (fun a hi hp => ?_) (fun a hi hp => ?_) (by simp) (fun hx => ?_) fun q1 => ?_
 · have := hs.frn hi
   have := ha a (by omega)
   simp (disch := omega) [ass_pos, B64, hp.1, hp.2, hi]
 · have := hs.frn hi
   have := ha a (by omega)
   by_cases hp1 : ix f.t.fr (ix f.ar a) = ix f.ob (ix f.s.fr a)
   · have hp2 : ¬ ix f.t.to (ix f.ar a) = ix f.ob (ix f.s.to a) := fun h => hp ⟨hp1, h⟩
     simp (disch := omega) [ass_pos, B64, hp1, hp2, hi]
   simp (disch := omega) [ass_pos, B64, hp1, hi]
 · rw [bo_neg (show ¬ f.Is from fun q => hx q.ends)]
 simp only
 refine chk_bind f.s.id.length (fun x : Nat => ix f.ar (ix f.s.id x) = ix f.t.id (ix f.ob x)) (eb := Sum.inr false) (eg := Sum.inl ()) (by omega) (fun a hi hp => ?_) (fun a hi hp => ?_) (by simp) (fun hx => ?_) fun q2 => ?_
 · have := hs.idn hi
   have := ho a (by omega)
   simp (disch := omega) [ass_pos, B64, hp, hi]
 · have := hs.idn hi
   have := ho a (by omega)
   simp (disch := omega) [ass_pos, B64, hp, hi]
 · rw [bo_neg (show ¬ f.Is from fun q => hx q.ids)]
 simp only
 refine chk_bind f.s.fr.length (fun a : Nat => ∀ b : Nat, b < f.s.fr.length → ix f.s.to a = ix f.s.fr b → ix f.ar (ix (rx f.s.cs a) b) = ix (rx f.t.cs (ix f.ar a)) (ix f.ar b)) (eb := Sum.inr false) (eg := Sum.inl ()) (by omega) (fun a hi hp => ?_) (fun a hi hp => ?_) (by simp; omega) (fun hx => ?_) fun q3 => ?_
 rotate_left 2
 · rw [bo_neg (show ¬ f.Is from fun q => hx q.comp)]
 · rw [bo_pos (show f.Is from ⟨h1, h2, h3, by omega, ho, ha, q1, q2, q3⟩)]
 all_goals
   have h8 := ha a (by omega)
   have h11 := hs.row' (j := a) (by omega) (by omega)
   have h12 := ht.row' (j := ix f.ar a) (by omega) (by omega)
   rw [if_pos (by omega), ass_pos (by omega), Option.bind_assoc]
   refine chk_bind f.s.fr.length (fun b : Nat => ix f.s.to a = ix f.s.fr b → ix f.ar (ix (rx f.s.cs a) b) = ix (rx f.t.cs (ix f.ar a)) (ix f.ar b)) (eb := Sum.inl false) (eg := Sum.inr ()) (by omega) (fun b hb hq => ?_) (fun b hb hq => ?_) ?_ (fun hn => ?_) fun hn => ?_
 all_goals first
   | exact absurd hp hn
   | exact absurd hn hp
   | (simp (disch := omega) [ass_pos, B64, h11]; done)
   | skip
 all_goals
   have h13 := ha b (by omega)
   have h16 := hs.cell' (f := a) (g := b) (by omega) (by omega) (by omega) (by omega)
   by_cases h14 : ix f.s.to a = ix f.s.fr b
   · have h15 := hs.cmp (f := a) (g := b) (by omega) (by omega) (by omega) (by omega) h14
     have h17 : ix (rx f.s.cs a) b ≥ 0 := h15.1
     first
       | (have hq1 := hq h14; simp (disch := omega) [ass_pos, B64, e_Cthen, h14, hq1, hb, h11, h17]; done)
       | (have hq1 := fun e => hq (fun _ => e); simp (disch := omega) [ass_pos, B64, e_Cthen, h14, hq1, hb, h11, h17]; exact hq1)
   have h17 := h16.1 h14
   first
     | (simp (disch := omega) [ass_pos, B64, h14, hb, h11, h17]; done)
     | exact absurd (fun e => absurd e h14) hq
theorem gx_nat {α : Type} [Inhabited α] (xs : List α) {i : Nat} (h : i < xs.length) : gx xs i = xs[i] := by simp [gx, List.getD_eq_getElem?_getD, h]
theorem e_areCats (cs : List Cat) (hl : cs.length ≤ 1048576) : s_i_areCategories cs = some (bo (∀ c ∈ cs, c.Is)) := by
 unfold s_i_areCategories
 refine chk_bind cs.length (fun i : Nat => (gx cs i).Is) (eb := Sum.inr false) (eg := Sum.inl ()) (by omega) (fun a hi hp => ?_) (fun a hi hp => ?_) (by simp) (fun hx => ?_) fun q1 => ?_
 · simp (disch := omega) [ass_pos, B64, s_i_Category_isCategory, bo_pos hp, hi]
 · simp (disch := omega) [ass_pos, B64, s_i_Category_isCategory, bo_neg hp, hi]
 · rw [bo_neg (show ¬ ∀ c ∈ cs, c.Is from fun q => hx fun i hi => q _ (by rw [gx_nat _ hi]; exact List.getElem_mem hi))]
 rw [bo_pos (show ∀ c ∈ cs, c.Is from fun c hc => by obtain ⟨i, hi, rfl⟩ := List.getElem_of_mem hc; have := q1 i hi; rwa [gx_nat _ hi] at this)]
theorem e_isFunctor (f : Fn) : s_i_Functor_isFunctor f = some (bo f.Is) := by
 unfold s_i_Functor_isFunctor
 rw [e_areCats _ (by simp)]
 by_cases h : f.s.Is ∧ f.t.Is
 · rw [bo_pos (show ∀ c ∈ [f.s, f.t], c.Is by simpa using h)]
   simp [e_fits h.1 h.2]
 rw [bo_neg (show ¬ ∀ c ∈ [f.s, f.t], c.Is by simpa using h), bo_neg (show ¬ f.Is from fun q => h ⟨q.s, q.t⟩)]
 simp
end Go.Vc.T

set_option maxRecDepth 100000
set_option linter.unusedSimpArgs false
set_option linter.unusedVariables false
namespace Go.Vc.T
open Go Go.Vc Go.Proofs
structure Adj.Pre (a : Adj) : Prop where
 hl : a.l.Is
 hr : a.r.Is
 e1 : a.l.t = a.r.s
 e2 : a.r.t = a.l.s
 n1 : NatT (selfF a.l.s) (thenF a.l a.r) a.u
 n2 : NatT (thenF a.r a.l) (selfF a.l.t) a.k
structure Adj.Is (a : Adj) : Prop where
 pre : a.Pre
 t1 : ∀ x : Nat, x < a.l.ob.length → ix (rx a.l.t.cs (ix a.l.ar (ix a.u x))) (ix a.k (ix a.l.ob x)) = ix a.l.t.id (ix a.l.ob x)
 t2 : ∀ y : Nat, y < a.r.ob.length → ix (rx a.l.s.cs (ix a.u (ix a.r.ob y))) (ix a.r.ar (ix a.k y)) = ix a.l.s.id (ix a.r.ob y)
end Go.Vc.T

set_option maxRecDepth 100000
set_option linter.unusedSimpArgs false
set_option linter.unusedVariables false
namespace Go.Vc.T
open Go Go.Vc Go.Proofs
structure Adj.Two (a b : Adj) : Prop where
 ha : a.Is
 hb : b.Is
 e : a.l.t = b.l.s
end Go.Vc.T

set_option maxRecDepth 100000
set_option linter.unusedSimpArgs false
set_option linter.unusedVariables false
namespace Go.Vc.T
open Go Go.Vc Go.Proofs
noncomputable def s_i_along (k_ : Fn) (g_ : SF) : Option SF :=
 (s_i_Category_copy k_.s).bind fun v1 =>
 (s_i_then k_.ob g_.sz).bind fun v2 =>
 (loopF (σ := List (List Int) × Int) (ε := List (List Int)) (fun s10 =>
   if s10.2 < (k_.ar.length : Int) then
     ass (0 ≤ s10.2 ∧ s10.2 < (k_.ar.length : Int)) <|
     ass (0 ≤ ix k_.ar s10.2 ∧ ix k_.ar s10.2 < (g_.ac.length : Int)) <|
     (s_i_clone (rx g_.ac (ix k_.ar s10.2))).bind fun v14 =>
     ass ((s10.1 ++ [v14]).length ≤ 1073741824) <|
     ass (B64 (s10.2 + 1)) <|
     some (Ctl.next (s10.1 ++ [v14], s10.2 + 1))
   else
     some (Ctl.ret s10.1)) fuel ([], 0)).bind fun b3 =>
 some (⟨v1, v2, b3⟩ : SF)
set_option maxHeartbeats 4000000 in
theorem w_i_along (k_ : Fn) (g_ : SF) (r : SF) (h : s_i_along k_ g_ = some r) : Contract Try.prog 159 [.rptr (k_.cells true), .rptr (g_.cells true)] (.agg (r.cells true)) := by
 refine contract_introG (rvs := [.cell 4 94]) (rs := [.agg (r.cells true)]) Try.func159 rfl rfl rfl rfl (by simp [Try.f159]) fun F hN hP => ?_
 unfold s_i_along at h
 refine w_seq ?_
 refine w_run mo (by rw [hN]; decide) fun K hK => ?_
 simp [-guardE_b, -Is_at, -Is_at', -Ls_at, -Ls_at', eL, eI, allInts, eP_Cat, eP_Fn, eP_SF, Cat.cells, Fn.cells, SF.cells]
 repeat (with_reducible refine And.intro ?_ ?_; · first | assumption | omega | (simp; done) | (simp; omega) | simp_all)
 refine hK _ ?_
 clear hK K
 refine tn ?_
 refine w_weak (st' := ⟨[(0, .rptr (Fn.cells true k_)), (1, .rptr (SF.cells true g_)), (4, .adr 0 0 0)], [(0, .mix 7 [[.val (.int .i64 0), .val (.slice none 0 0), .val (.slice none 0 0), .val (.slice none 0 0), .val (.slice none 0 0), .val (.slice none 0 0), .val (.slice none 0 0)]])], 1⟩) (Wk.r1 [(0, 0)] (by simp [hP, hhOk, back, Cat.cells, Fn.cells, SF.cells, IA, I1, LA, L1, BA, B1, EA, E1, E2, eB, eI, eL])) ?_
 refine w_seq ?_
 refine w_run mo (by rw [hN]; decide) fun K hK => ?_
 simp [-guardE_b, -Is_at, -Is_at', -Ls_at, -Ls_at', eL, eI, allInts, eP_Cat, eP_Fn, eP_SF, Cat.cells, Fn.cells, SF.cells]
 repeat (with_reducible refine And.intro ?_ ?_; · first | assumption | omega | (simp; done) | (simp; omega) | simp_all)
 replace h := bind_some h
 obtain ⟨v1, hv1, h⟩ := h
 refine callA_intro (w_i_Category_copy _ v1 hv1) (.cons (.preT (by simp [Cat.cells, Fn.cells, SF.cells])) .nil) ?_
 simp [-guardE_b, -Is_at, -Is_at', -Ls_at, -Ls_at', unk, unA, unE, unT, unC, flat, eL, eI, allInts, eP_Cat, eP_Fn, eP_SF, Cat.cells, Fn.cells, SF.cells]
 repeat (with_reducible refine And.intro ?_ ?_; · first | assumption | omega | (simp; done) | (simp; omega) | simp_all)
 replace h := bind_some h
 obtain ⟨v2, hv2, h⟩ := h
 refine callA_intro (w_i_then _ _ v2 hv2) (.cons .lst (.cons .lst .nil)) ?_
 simp [-guardE_b, -Is_at, -Is_at', -Ls_at, -Ls_at', unk, unA, unE, unT, unC, flat, eL, eI, allInts, eP_Cat, eP_Fn, eP_SF, Cat.cells, Fn.cells, SF.cells]
 repeat (with_reducible refine And.intro ?_ ?_; · first | assumption | omega | (simp; done) | (simp; omega) | simp_all)
 refine hK _ ?_
 clear hK K
 refine tn ?_
 refine w_weak (st' := ⟨[(0, .rptr (Fn.cells true k_)), (1, .rptr (SF.cells true g_)), (4, .adr 0 0 0), (5, .adr 1 0 0)], [(0, .mix 7 [[.val (.int .i64 0), .val (.slice none 0 0), .val (.slice none 0 0), .val (.slice none 0 0), .val (.slice none 0 0), .val (.slice none 0 0), .val (.slice none 0 0)]]), (1, .mix 7 [[.val (.int .i64 v1.n), .own 2 0 v1.fr.length, .own 3 0 v1.to.length, .own 4 0 v1.id.length, .own 5 0 v1.cs.length, .own 6 0 v2.length, .val (.slice none 0 0)]]), (2, .row 1 (Is v1.fr)), (3, .row 1 (Is v1.to)), (4, .row 1 (Is v1.id)), (5, .row 1 (Ls v1.cs)), (6, .row 1 (Is v2))], 7⟩) (Wk.r1 [(0, 0), (7, 1), (2, 2), (3, 3), (4, 4), (5, 5), (6, 6)] (by simp [hP, hhOk, back, Cat.cells, Fn.cells, SF.cells, IA, I1, LA, L1, BA, B1, EA, E1, E2, eB, eI, eL])) ?_
 refine w_seq ?_
 refine w_seq ?_
 refine w_run mo (by rw [hN]; decide) fun K hK => ?_
 simp [-guardE_b, -Is_at, -Is_at', -Ls_at, -Ls_at', eL, eI, allInts, eP_Cat, eP_Fn, eP_SF, Cat.cells, Fn.cells, SF.cells]
 repeat (with_reducible refine And.intro ?_ ?_; · first | assumption | omega | (simp; done) | (simp; omega) | simp_all)
 refine hK _ ?_
 clear hK K
 refine tn ?_
 refine w_weak (st' := ⟨[(1, .rptr (SF.cells true g_)), (4, .adr 0 0 0), (5, .adr 1 0 0), (25, .lst true 1 (Is k_.ar)), (26, .val (.int .i64 (k_.ar.length : Int))), (27, .val (.int .i64 0))], [(0, .mix 7 [[.val (.int .i64 0), .val (.slice none 0 0), .val (.slice none 0 0), .val (.slice none 0 0), .val (.slice none 0 0), .val (.slice none 0 0), .val (.slice none 0 0)]]), (1, .mix 7 [[.val (.int .i64 v1.n), .own 2 0 v1.fr.length, .own 3 0 v1.to.length, .own 4 0 v1.id.length, .own 5 0 v1.cs.length, .own 6 0 v2.length, .val (.slice none 0 0)]]), (2, .row 1 (Is v1.fr)), (3, .row 1 (Is v1.to)), (4, .row 1 (Is v1.id)), (5, .row 1 (Ls v1.cs)), (6, .row 1 (Is v2))], 7⟩) (Wk.r1 [(0, 0), (1, 1), (2, 2), (3, 3), (4, 4), (5, 5), (6, 6)] (by simp [hP, hhOk, back, Cat.cells, Fn.cells, SF.cells, IA, I1, LA, L1, BA, B1, EA, E1, E2, eB, eI, eL])) ?_
 replace h := bind_some h
 obtain ⟨e3, h, h3⟩ := h
 refine w_joinT (fun b3 : List (List Int) => ⟨[(4, .adr 0 0 0), (5, .adr 1 0 0)], [(0, .mix 7 [[.val (.int .i64 0), .val (.slice none 0 0), .val (.slice none 0 0), .val (.slice none 0 0), .val (.slice none 0 0), .val (.slice none 0 0), .val (.slice none 0 0)]]), (1, .mix 7 [[.val (.int .i64 v1.n), .own 2 0 v1.fr.length, .own 3 0 v1.to.length, .own 4 0 v1.id.length, .own 5 0 v1.cs.length, .own 6 0 v2.length, .own 7 0 b3.length]]), (2, .row 1 (Is v1.fr)), (3, .row 1 (Is v1.to)), (4, .row 1 (Is v1.id)), (5, .row 1 (Ls v1.cs)), (6, .row 1 (Is v2)), (7, .row 1 (Ls b3))], 8⟩) (fun b3 => b3 = e3) ?_ ?_
 · refine w_block ?_
   refine w_loopF h (fun s10 : List (List Int) × Int => ⟨[(1, .rptr (SF.cells true g_)), (4, .adr 0 0 0), (5, .adr 1 0 0), (25, .lst true 1 (Is k_.ar)), (26, .val (.int .i64 (k_.ar.length : Int))), (27, .val (.int .i64 s10.2))], [(0, .mix 7 [[.val (.int .i64 0), .val (.slice none 0 0), .val (.slice none 0 0), .val (.slice none 0 0), .val (.slice none 0 0), .val (.slice none 0 0), .val (.slice none 0 0)]]), (1, .mix 7 [[.val (.int .i64 v1.n), .own 2 0 v1.fr.length, .own 3 0 v1.to.length, .own 4 0 v1.id.length, .own 5 0 v1.cs.length, .own 6 0 v2.length, .own 7 0 s10.1.length]]), (2, .row 1 (Is v1.fr)), (3, .row 1 (Is v1.to)), (4, .row 1 (Is v1.id)), (5, .row 1 (Ls v1.cs)), (6, .row 1 (Is v2)), (7, .row 1 (Ls s10.1))], 8⟩) (wk_tr ⟨[(1, .rptr (SF.cells true g_)), (4, .adr 0 0 0), (5, .adr 1 0 0), (25, .lst true 1 (Is k_.ar)), (26, .val (.int .i64 (k_.ar.length : Int))), (27, .val (.int .i64 0))], [(0, .mix 7 [[.val (.int .i64 0), .val (.slice none 0 0), .val (.slice none 0 0), .val (.slice none 0 0), .val (.slice none 0 0), .val (.slice none 0 0), .val (.slice none 0 0)]]), (1, .mix 7 [[.val (.int .i64 v1.n), .own 2 0 v1.fr.length, .own 3 0 v1.to.length, .own 4 0 v1.id.length, .own 5 0 v1.cs.length, .own 6 0 v2.length, .own 7 0 0]]), (2, .row 1 (Is v1.fr)), (3, .row 1 (Is v1.to)), (4, .row 1 (Is v1.id)), (5, .row 1 (Ls v1.cs)), (6, .row 1 (Is v2)), (7, .row 1 (Ls []))], 8⟩ (Wk.nils [(7, 1)] (by simp) (by simp) (by simp [nlA]) (by simp [entN, nlL, nlA, Cat.cells, Fn.cells, SF.cells, IA, I1, LA, L1, BA, B1, EA, E1, E2, eB, eI, eL]) (by simp)) (Wk.r1 [(0, 0), (1, 1), (2, 2), (3, 3), (4, 4), (5, 5), (6, 6), (7, 7)] (by simp [hP, hhOk, back, Cat.cells, Fn.cells, SF.cells, IA, I1, LA, L1, BA, B1, EA, E1, E2, eB, eI, eL]))) ?_
   clear h
   intro k10 s10 c10 h hk10
   refine w_seq ?_
   refine w_run mo (by rw [hN]; decide) fun K hK => ?_
   simp [-guardE_b, -Is_at, -Is_at', -Ls_at, -Ls_at', eL, eI, allInts, eP_Cat, eP_Fn, eP_SF, Cat.cells, Fn.cells, SF.cells]
   repeat (with_reducible refine And.intro ?_ ?_; · first | assumption | omega | (simp; done) | (simp; omega) | simp_all)
   refine hK _ ?_
   clear hK K
   refine tn ?_
   refine w_weak (st' := ⟨[(1, .rptr (SF.cells true g_)), (4, .adr 0 0 0), (5, .adr 1 0 0), (25, .lst true 1 (Is k_.ar)), (26, .val (.int .i64 (k_.ar.length : Int))), (27, .val (.int .i64 s10.2)), (28, .val (.bool (decide (s10.2 < (k_.ar.length : Int)))))], [(0, .mix 7 [[.val (.int .i64 0), .val (.slice none 0 0), .val (.slice none 0 0), .val (.slice none 0 0), .val (.slice none 0 0), .val (.slice none 0 0), .val (.slice none 0 0)]]), (1, .mix 7 [[.val (.int .i64 v1.n), .own 2 0 v1.fr.length, .own 3 0 v1.to.length, .own 4 0 v1.id.length, .own 5 0 v1.cs.length, .own 6 0 v2.length, .own 7 0 s10.1.length]]), (2, .row 1 (Is v1.fr)), (3, .row 1 (Is v1.to)), (4, .row 1 (Is v1.id)), (5, .row 1 (Ls v1.cs)), (6, .row 1 (Is v2)), (7, .row 1 (Ls s10.1))], 8⟩) (Wk.r1 [(0, 0), (1, 1), (2, 2), (3, 3), (4, 4), (5, 5), (6, 6), (7, 7)] (by simp [hP, hhOk, back, Cat.cells, Fn.cells, SF.cells, IA, I1, LA, L1, BA, B1, EA, E1, E2, eB, eI, eL])) ?_
   refine w_seq ?_
   refine w_cond rfl (fun g => ?_) fun g => ?_
   · have g11 : s10.2 < (k_.ar.length : Int) := by first | simpa using g | (simp at g; exact g) | (simp at g; omega)
     clear g
     replace h := if_l g11 h
     refine w_skip ?_
     refine tn ?_
     refine w_seq ?_
     refine w_block ?_
     refine w_seq ?_
     refine w_run mo (by rw [hN]; decide) fun K hK => ?_
     replace h := ass_some h
     obtain ⟨a12, h⟩ := h
     simp [-guardE_b, -Is_at, -Is_at', -Ls_at, -Ls_at', eL, eI, allInts, eP_Cat, eP_Fn, eP_SF, Cat.cells, Fn.cells, SF.cells, at_I a12]
     repeat (with_reducible refine And.intro ?_ ?_; · first | assumption | omega | (simp; done) | (simp; omega) | simp_all)
     refine hK _ ?_
     clear hK K
     refine tn ?_
     refine w_weak (st' := ⟨[(1, .rptr (SF.cells true g_)), (4, .adr 0 0 0), (5, .adr 1 0 0), (7, .val (.int .i64 (ix k_.ar s10.2))), (25, .lst true 1 (Is k_.ar)), (26, .val (.int .i64 (k_.ar.length : Int))), (27, .val (.int .i64 s10.2))], [(0, .mix 7 [[.val (.int .i64 0), .val (.slice none 0 0), .val (.slice none 0 0), .val (.slice none 0 0), .val (.slice none 0 0), .val (.slice none 0 0), .val (.slice none 0 0)]]), (1, .mix 7 [[.val (.int .i64 v1.n), .own 2 0 v1.fr.length, .own 3 0 v1.to.length, .own 4 0 v1.id.length, .own 5 0 v1.cs.length, .own 6 0 v2.length, .own 7 0 s10.1.length]]), (2, .row 1 (Is v1.fr)), (3, .row 1 (Is v1.to)), (4, .row 1 (Is v1.id)), (5, .row 1 (Ls v1.cs)), (6, .row 1 (Is v2)), (7, .row 1 (Ls s10.1))], 8⟩) (Wk.r1 [(0, 0), (1, 1), (2, 2), (3, 3), (4, 4), (5, 5), (6, 6), (7, 7)] (by simp [hP, hhOk, back, Cat.cells, Fn.cells, SF.cells, IA, I1, LA, L1, BA, B1, EA, E1, E2, eB, eI, eL])) ?_
     refine w_run mo (by rw [hN]; decide) fun K hK => ?_
     replace h := ass_some h
     obtain ⟨a13, h⟩ := h
     simp [-guardE_b, -Is_at, -Is_at', -Ls_at, -Ls_at', eL, eI, allInts, eP_Cat, eP_Fn, eP_SF, Cat.cells, Fn.cells, SF.cells, at_L a13]
     repeat (with_reducible refine And.intro ?_ ?_; · first | assumption | omega | (simp; done) | (simp; omega) | simp_all)
     replace h := bind_some h
     obtain ⟨v14, hv14, h⟩ := h
     refine callA_intro (w_i_clone _ v14 hv14) (.cons .lst .nil) ?_
     replace h := ass_some h
     obtain ⟨a15, h⟩ := h
     try simp only [List.length_append, List.length_cons, List.length_nil] at a15
     simp [-guardE_b, -Is_at, -Is_at', -Ls_at, -Ls_at', unk, unA, unE, unT, unC, flat, eL, eI, allInts, eP_Cat, eP_Fn, eP_SF, Cat.cells, Fn.cells, SF.cells, a15]
     repeat (with_reducible refine And.intro ?_ ?_; · first | assumption | omega | (simp; done) | (simp; omega) | simp_all)
     refine hK _ ?_
     clear hK K
     refine bn ?_
     refine tn ?_
     refine w_weak (st' := ⟨[(1, .rptr (SF.cells true g_)), (4, .adr 0 0 0), (5, .adr 1 0 0), (25, .lst true 1 (Is k_.ar)), (26, .val (.int .i64 (k_.ar.length : Int))), (27, .val (.int .i64 s10.2))], [(0, .mix 7 [[.val (.int .i64 0), .val (.slice none 0 0), .val (.slice none 0 0), .val (.slice none 0 0), .val (.slice none 0 0), .val (.slice none 0 0), .val (.slice none 0 0)]]), (1, .mix 7 [[.val (.int .i64 v1.n), .own 2 0 v1.fr.length, .own 3 0 v1.to.length, .own 4 0 v1.id.length, .own 5 0 v1.cs.length, .own 6 0 v2.length, .own 7 0 ((s10.1 ++ [v14]).length)]]), (2, .row 1 (Is v1.fr)), (3, .row 1 (Is v1.to)), (4, .row 1 (Is v1.id)), (5, .row 1 (Ls v1.cs)), (6, .row 1 (Is v2)), (7, .row 1 (Ls (s10.1 ++ [v14])))], 8⟩) (Wk.r1 [(0, 0), (1, 1), (2, 2), (3, 3), (4, 4), (5, 5), (6, 6), (10, 7)] (by simp [hP, hhOk, back, Cat.cells, Fn.cells, SF.cells, IA, I1, LA, L1, BA, B1, EA, E1, E2, eB, eI, eL])) ?_
     refine w_run mo (by rw [hN]; decide) fun K hK => ?_
     replace h := ass_some h
     obtain ⟨a16, h⟩ := h
     simp [-guardE_b, -Is_at, -Is_at', -Ls_at, -Ls_at', eL, eI, allInts, eP_Cat, eP_Fn, eP_SF, Cat.cells, Fn.cells, SF.cells, wrap_id a16]
     repeat (with_reducible refine And.intro ?_ ?_; · first | assumption | omega | (simp; done) | (simp; omega) | simp_all)
     refine hK _ ?_
     clear hK K
     cases h
     exact rn (s' := (s10.1 ++ [v14], s10.2 + 1)) hk10 (Wk.r1 [(0, 0), (1, 1), (2, 2), (3, 3), (4, 4), (5, 5), (6, 6), (7, 7)] (by simp [hP, hhOk, back, Cat.cells, Fn.cells, SF.cells, IA, I1, LA, L1, BA, B1, EA, E1, E2, eB, eI, eL]))
   have g11 : ¬ (s10.2 < (k_.ar.length : Int)) := by first | simpa using g | (simp at g; exact g) | (simp at g; omega)
   clear g
   replace h := if_r g11 h
   refine w_exit ?_
   refine tx ?_
   refine lx ?_
   refine bh ?_
   cases h
   exact jn (b := s10.1) hk10 (Wk.r1 [(0, 0), (1, 1), (2, 2), (3, 3), (4, 4), (5, 5), (6, 6), (7, 7)] (by simp [hP, hhOk, back, Cat.cells, Fn.cells, SF.cells, IA, I1, LA, L1, BA, B1, EA, E1, E2, eB, eI, eL]))
 intro b3 hb3
 have h := h3
 rw [← hb3] at h
 clear h3
 try dsimp only at h
 refine w_seq ?_
 refine w_run mo (by rw [hN]; decide) fun K hK => ?_
 simp [-guardE_b, -Is_at, -Is_at', -Ls_at, -Ls_at', eL, eI, allInts, eP_Cat, eP_Fn, eP_SF, Cat.cells, Fn.cells, SF.cells]
 repeat (with_reducible refine And.intro ?_ ?_; · first | assumption | omega | (simp; done) | (simp; omega) | simp_all)
 refine hK _ ?_
 clear hK K
 refine tn ?_
 refine w_weak (st' := ⟨[(4, .adr 0 0 0)], [(0, .mix 7 [[.val (.int .i64 v1.n), .own 1 0 v1.fr.length, .own 2 0 v1.to.length, .own 3 0 v1.id.length, .own 4 0 v1.cs.length, .own 5 0 v2.length, .own 6 0 b3.length]]), (1, .row 1 (Is v1.fr)), (2, .row 1 (Is v1.to)), (3, .row 1 (Is v1.id)), (4, .row 1 (Ls v1.cs)), (5, .row 1 (Is v2)), (6, .row 1 (Ls b3))], 7⟩) (Wk.r1 [(0, 0), (2, 1), (3, 2), (4, 3), (5, 4), (6, 5), (7, 6)] (by simp [hP, hhOk, back, Cat.cells, Fn.cells, SF.cells, IA, I1, LA, L1, BA, B1, EA, E1, E2, eB, eI, eL])) ?_
 refine w_ret ?_
 have hr := Option.some.inj h
 rw [← hr]
 refine ⟨_, (.cell tf_94 rfl rfl rfl (by simp) (by simp) .nil), ?_⟩
 refine ⟨(.agg rfl .nil), [.val (.int .i64 v1.n), .lst true 1 (Is v1.fr), .lst true 1 (Is v1.to), .lst true 1 (Is v1.id), .lst true 1 (Ls v1.cs), .lst true 1 (Is v2), .lst true 1 (Ls b3)], [1, 2, 3, 4, 5, 6], by simp [Cat.cells, Fn.cells, SF.cells, IA, I1, LA, L1, BA, B1, EA, E1, E2, eB, eI, eL], by simp, (UpL.refl _)⟩
end Go.Vc.T

set_option maxRecDepth 100000
set_option linter.unusedSimpArgs false
set_option linter.unusedVariables false
namespace Go.Vc.T
open Go Go.Vc Go.Proofs
noncomputable def s_i_partsAlong (k_ : Fn) (parts_ : List (List Int)) : Option (List (List Int)) :=
 (loopF (σ := List (List Int) × Int) (ε := List (List Int)) (fun s7 =>
   if s7.2 < (k_.ob.length : Int) then
     ass (0 ≤ s7.2 ∧ s7.2 < (k_.ob.length : Int)) <|
     ass (0 ≤ ix k_.ob s7.2 ∧ ix k_.ob s7.2 < (parts_.length : Int)) <|
     ass ((s7.1 ++ [rx parts_ (ix k_.ob s7.2)]).length ≤ 1073741824) <|
     ass (B64 (s7.2 + 1)) <|
     some (Ctl.next (s7.1 ++ [rx parts_ (ix k_.ob s7.2)], s7.2 + 1))
   else
     some (Ctl.ret s7.1)) fuel ([], 0)).bind fun b1 =>
 some b1
set_option maxHeartbeats 4000000 in
theorem w_i_partsAlong (k_ : Fn) (parts_ : List (List Int)) (r : List (List Int)) (h : s_i_partsAlong k_ parts_ = some r) : FContract Try.prog true 160 [.rptr (k_.cells true), .lst true 1 (Ls parts_)] (.lst true 1 (Ls r)) := by
 refine fcontract_intro true (ts := [4]) (rs := [.lst true 1 (Ls r)]) Try.func160 rfl rfl rfl rfl (by simp [Try.f160]) fun F hN hP => ?_
 unfold s_i_partsAlong at h
 refine w_seq ?_
 refine w_runX [] mo (by rw [hN]; decide) fun K hK => ?_
 simp [-guardE_b, -Is_at, -Is_at', -Ls_at, -Ls_at', eL, eI, allInts, eP_Fn, Fn.cells]
 repeat (with_reducible refine And.intro ?_ ?_; · first | assumption | omega | (simp; done) | (simp; omega) | simp_all)
 refine hK _ ?_
 clear hK K
 refine tn ?_
 refine w_weak (st' := ⟨[(0, .rptr (Fn.cells true k_)), (1, .lst true 1 (Ls parts_))], [], 0⟩) (Wk.r1 [] (by simp [hP, hhOk, back, Fn.cells, IA, I1, LA, L1, BA, B1, EA, E1, E2, eB, eI, eL])) ?_
 refine w_seq ?_
 refine w_runX [] mo (by rw [hN]; decide) fun K hK => ?_
 simp [-guardE_b, -Is_at, -Is_at', -Ls_at, -Ls_at', eL, eI, allInts, eP_Fn, Fn.cells]
 repeat (with_reducible refine And.intro ?_ ?_; · first | assumption | omega | (simp; done) | (simp; omega) | simp_all)
 refine hK _ ?_
 clear hK K
 refine tn ?_
 refine w_weak (st' := ⟨[(0, .rptr (Fn.cells true k_)), (1, .lst true 1 (Ls parts_)), (5, .own 0 0 0)], [(0, .mix 1 [])], 1⟩) (Wk.r1 [(0, 0)] (by simp [hP, hhOk, back, Fn.cells, IA, I1, LA, L1, BA, B1, EA, E1, E2, eB, eI, eL])) ?_
 refine w_seq ?_
 refine w_seq ?_
 refine w_runX [] mo (by rw [hN]; decide) fun K hK => ?_
 simp [-guardE_b, -Is_at, -Is_at', -Ls_at, -Ls_at', eL, eI, allInts, eP_Fn, Fn.cells]
 repeat (with_reducible refine And.intro ?_ ?_; · first | assumption | omega | (simp; done) | (simp; omega) | simp_all)
 refine hK _ ?_
 clear hK K
 refine tn ?_
 refine w_weak (st' := ⟨[(1, .lst true 1 (Ls parts_)), (5, .own 0 0 0), (12, .lst true 1 (Is k_.ob)), (13, .val (.int .i64 (k_.ob.length : Int))), (14, .val (.int .i64 0))], [(0, .mix 1 [])], 1⟩) (Wk.r1 [(0, 0)] (by simp [hP, hhOk, back, Fn.cells, IA, I1, LA, L1, BA, B1, EA, E1, E2, eB, eI, eL])) ?_
 replace h := bind_some h
 obtain ⟨e1, h, h1⟩ := h
 refine w_joinT (fun b1 : List (List Int) => ⟨[(5, .own 0 0 b1.length)], [(0, .mix 1 (Ls b1))], 1⟩) (fun b1 => b1 = e1) ?_ ?_
 · refine w_block ?_
   refine w_loopF h (fun s7 : List (List Int) × Int => ⟨[(1, .lst true 1 (Ls parts_)), (5, .own 0 0 s7.1.length), (12, .lst true 1 (Is k_.ob)), (13, .val (.int .i64 (k_.ob.length : Int))), (14, .val (.int .i64 s7.2))], [(0, .mix 1 (Ls s7.1))], 1⟩) (Wk.r1 [(0, 0)] (by simp [hP, hhOk, back, Fn.cells, IA, I1, LA, L1, BA, B1, EA, E1, E2, eB, eI, eL])) ?_
   clear h
   intro k7 s7 c7 h hk7
   refine w_seq ?_
   refine w_runX [] mo (by rw [hN]; decide) fun K hK => ?_
   simp [-guardE_b, -Is_at, -Is_at', -Ls_at, -Ls_at', eL, eI, allInts, eP_Fn, Fn.cells]
   repeat (with_reducible refine And.intro ?_ ?_; · first | assumption | omega | (simp; done) | (simp; omega) | simp_all)
   refine hK _ ?_
   clear hK K
   refine tn ?_
   refine w_weak (st' := ⟨[(1, .lst true 1 (Ls parts_)), (5, .own 0 0 s7.1.length), (12, .lst true 1 (Is k_.ob)), (13, .val (.int .i64 (k_.ob.length : Int))), (14, .val (.int .i64 s7.2)), (15, .val (.bool (decide (s7.2 < (k_.ob.length : Int)))))], [(0, .mix 1 (Ls s7.1))], 1⟩) (Wk.r1 [(0, 0)] (by simp [hP, hhOk, back, Fn.cells, IA, I1, LA, L1, BA, B1, EA, E1, E2, eB, eI, eL])) ?_
   refine w_seq ?_
   refine w_cond rfl (fun g => ?_) fun g => ?_
   · have g8 : s7.2 < (k_.ob.length : Int) := by first | simpa using g | (simp at g; exact g) | (simp at g; omega)
     clear g
     replace h := if_l g8 h
     refine w_skip ?_
     refine tn ?_
     refine w_seq ?_
     refine w_block ?_
     refine w_seq ?_
     refine w_runX [] mo (by rw [hN]; decide) fun K hK => ?_
     replace h := ass_some h
     obtain ⟨a9, h⟩ := h
     simp [-guardE_b, -Is_at, -Is_at', -Ls_at, -Ls_at', eL, eI, allInts, eP_Fn, Fn.cells, at_I a9]
     repeat (with_reducible refine And.intro ?_ ?_; · first | assumption | omega | (simp; done) | (simp; omega) | simp_all)
     refine hK _ ?_
     clear hK K
     refine tn ?_
     refine w_weak (st' := ⟨[(1, .lst true 1 (Ls parts_)), (5, .own 0 0 s7.1.length), (7, .val (.int .i64 (ix k_.ob s7.2))), (12, .lst true 1 (Is k_.ob)), (13, .val (.int .i64 (k_.ob.length : Int))), (14, .val (.int .i64 s7.2))], [(0, .mix 1 (Ls s7.1))], 1⟩) (Wk.r1 [(0, 0)] (by simp [hP, hhOk, back, Fn.cells, IA, I1, LA, L1, BA, B1, EA, E1, E2, eB, eI, eL])) ?_
     refine w_runX [24] mo (by rw [hN]; decide) fun K hK => ?_
     replace h := ass_some h
     obtain ⟨a10, h⟩ := h
     replace h := ass_some h
     obtain ⟨a11, h⟩ := h
     try simp only [List.length_append, List.length_cons, List.length_nil] at a11
     simp [-guardE_b, -Is_at, -Is_at', -Ls_at, -Ls_at', eL, eI, allInts, eP_Fn, Fn.cells, at_L a10, a11]
     repeat (with_reducible refine And.intro ?_ ?_; · first | assumption | omega | (simp; done) | (simp; omega) | simp_all)
     refine hK _ ?_
     clear hK K
     refine bn ?_
     refine tn ?_
     refine w_weak (st' := ⟨[(1, .lst true 1 (Ls parts_)), (5, .own 0 0 ((s7.1 ++ [rx parts_ (ix k_.ob s7.2)]).length)), (12, .lst true 1 (Is k_.ob)), (13, .val (.int .i64 (k_.ob.length : Int))), (14, .val (.int .i64 s7.2))], [(0, .mix 1 (Ls (s7.1 ++ [rx parts_ (ix k_.ob s7.2)])))], 1⟩) (Wk.r1 [(2, 0)] (by simp [hP, hhOk, back, Fn.cells, IA, I1, LA, L1, BA, B1, EA, E1, E2, eB, eI, eL])) ?_
     refine w_runX [] mo (by rw [hN]; decide) fun K hK => ?_
     replace h := ass_some h
     obtain ⟨a12, h⟩ := h
     simp [-guardE_b, -Is_at, -Is_at', -Ls_at, -Ls_at', eL, eI, allInts, eP_Fn, Fn.cells, wrap_id a12]
     repeat (with_reducible refine And.intro ?_ ?_; · first | assumption | omega | (simp; done) | (simp; omega) | simp_all)
     refine hK _ ?_
     clear hK K
     cases h
     exact rn (s' := (s7.1 ++ [rx parts_ (ix k_.ob s7.2)], s7.2 + 1)) hk7 (Wk.r1 [(0, 0)] (by simp [hP, hhOk, back, Fn.cells, IA, I1, LA, L1, BA, B1, EA, E1, E2, eB, eI, eL]))
   have g8 : ¬ (s7.2 < (k_.ob.length : Int)) := by first | simpa using g | (simp at g; exact g) | (simp at g; omega)
   clear g
   replace h := if_r g8 h
   refine w_exit ?_
   refine tx ?_
   refine lx ?_
   refine bh ?_
   cases h
   exact jn (b := s7.1) hk7 (Wk.r1 [(0, 0)] (by simp [hP, hhOk, back, Fn.cells, IA, I1, LA, L1, BA, B1, EA, E1, E2, eB, eI, eL]))
 intro b1 hb1
 have h := h1
 rw [← hb1] at h
 clear h1
 try dsimp only at h
 refine w_seq ?_
 refine w_runX [] mo (by rw [hN]; decide) fun K hK => ?_
 simp [-guardE_b, -Is_at, -Is_at', -Ls_at, -Ls_at', eL, eI, allInts, eP_Fn, Fn.cells]
 repeat (with_reducible refine And.intro ?_ ?_; · first | assumption | omega | (simp; done) | (simp; omega) | simp_all)
 refine hK _ ?_
 clear hK K
 refine tn ?_
 refine w_weak (st' := ⟨[(4, .own 0 0 b1.length)], [(0, .mix 1 (Ls b1))], 1⟩) (Wk.r1 [(0, 0)] (by simp [hP, hhOk, back, Fn.cells, IA, I1, LA, L1, BA, B1, EA, E1, E2, eB, eI, eL])) ?_
 refine w_ret ?_
 have hr := Option.some.inj h
 rw [← hr]
 exact (.two (.smix rfl (by simp) (roRows_map (by simp [Fn.cells, eP_Fn]))) .nil)
end Go.Vc.T

set_option maxRecDepth 100000
set_option linter.unusedSimpArgs false
set_option linter.unusedVariables false
namespace Go.Vc.T
open Go Go.Vc Go.Proofs
noncomputable def s_i_setMap (f_ : SF) (g_ : SF) (parts_ : List (List Int)) : Option SM :=
 (s_i_SetFunctor_copy f_).bind fun v1 =>
 (s_i_SetFunctor_copy g_).bind fun v2 =>
 (s_i_clones parts_).bind fun v3 =>
 some (⟨v1, v2, v3⟩ : SM)
set_option maxHeartbeats 4000000 in
theorem w_i_setMap (f_ : SF) (g_ : SF) (parts_ : List (List Int)) (r : SM) (h : s_i_setMap f_ g_ parts_ = some r) : Contract Try.prog 140 [.rptr (f_.cells true), .rptr (g_.cells true), .lst true 1 (Ls parts_)] (.agg (r.cells true)) := by
 refine contract_introG (rvs := [.cell 6 96]) (rs := [.agg (r.cells true)]) Try.func140 rfl rfl rfl rfl (by simp [Try.f140]) fun F hN hP => ?_
 unfold s_i_setMap at h
 refine w_seq ?_
 refine w_run mo (by rw [hN]; decide) fun K hK => ?_
 simp [-guardE_b, -Is_at, -Is_at', -Ls_at, -Ls_at', eL, eI, allInts, eP_SF, eP_SM, SF.cells, SM.cells]
 repeat (with_reducible refine And.intro ?_ ?_; · first | assumption | omega | (simp; done) | (simp; omega) | simp_all)
 refine hK _ ?_
 clear hK K
 refine tn ?_
 refine w_weak (st' := ⟨[(0, .rptr (SF.cells true f_)), (1, .rptr (SF.cells true g_)), (2, .lst true 1 (Ls parts_)), (6, .adr 0 0 0)], [(0, .mix 15 [[.val (.int .i64 0), .val (.slice none 0 0), .val (.slice none 0 0), .val (.slice none 0 0), .val (.slice none 0 0), .val (.slice none 0 0), .val (.slice none 0 0), .val (.int .i64 0), .val (.slice none 0 0), .val (.slice none 0 0), .val (.slice none 0 0), .val (.slice none 0 0), .val (.slice none 0 0), .val (.slice none 0 0), .val (.slice none 0 0)]])], 1⟩) (Wk.r1 [(0, 0)] (by simp [hP, hhOk, back, SF.cells, SM.cells, IA, I1, LA, L1, BA, B1, EA, E1, E2, eB, eI, eL])) ?_
 refine w_seq ?_
 refine w_run mo (by rw [hN]; decide) fun K hK => ?_
 simp [-guardE_b, -Is_at, -Is_at', -Ls_at, -Ls_at', eL, eI, allInts, eP_SF, eP_SM, SF.cells, SM.cells]
 repeat (with_reducible refine And.intro ?_ ?_; · first | assumption | omega | (simp; done) | (simp; omega) | simp_all)
 replace h := bind_some h
 obtain ⟨v1, hv1, h⟩ := h
 refine callA_intro (w_i_SetFunctor_copy _ v1 hv1) (.cons (.preT (by simp [SF.cells])) .nil) ?_
 simp [-guardE_b, -Is_at, -Is_at', -Ls_at, -Ls_at', unk, unA, unE, unT, unC, flat, eL, eI, allInts, eP_SF, eP_SM, SF.cells, SM.cells]
 repeat (with_reducible refine And.intro ?_ ?_; · first | assumption | omega | (simp; done) | (simp; omega) | simp_all)
 replace h := bind_some h
 obtain ⟨v2, hv2, h⟩ := h
 refine callA_intro (w_i_SetFunctor_copy _ v2 hv2) (.cons (.preT (by simp [SF.cells])) .nil) ?_
 simp [-guardE_b, -Is_at, -Is_at', -Ls_at, -Ls_at', unk, unA, unE, unT, unC, flat, eL, eI, allInts, eP_SF, eP_SM, SF.cells, SM.cells]
 repeat (with_reducible refine And.intro ?_ ?_; · first | assumption | omega | (simp; done) | (simp; omega) | simp_all)
 replace h := bind_some h
 obtain ⟨v3, hv3, h⟩ := h
 refine callA_intro (w_i_clones _ v3 hv3) (.cons .lst .nil) ?_
 simp [-guardE_b, -Is_at, -Is_at', -Ls_at, -Ls_at', unk, unA, unE, unT, unC, flat, eL, eI, allInts, eP_SF, eP_SM, SF.cells, SM.cells]
 repeat (with_reducible refine And.intro ?_ ?_; · first | assumption | omega | (simp; done) | (simp; omega) | simp_all)
 refine hK _ ?_
 clear hK K
 refine tn ?_
 refine w_weak (st' := ⟨[(6, .adr 0 0 0)], [(0, .mix 15 [[.val (.int .i64 v1.s.n), .own 1 0 v1.s.fr.length, .own 2 0 v1.s.to.length, .own 3 0 v1.s.id.length, .own 4 0 v1.s.cs.length, .own 5 0 v1.sz.length, .own 6 0 v1.ac.length, .val (.int .i64 v2.s.n), .own 7 0 v2.s.fr.length, .own 8 0 v2.s.to.length, .own 9 0 v2.s.id.length, .own 10 0 v2.s.cs.length, .own 11 0 v2.sz.length, .own 12 0 v2.ac.length, .own 13 0 v3.length]]), (1, .row 1 (Is v1.s.fr)), (2, .row 1 (Is v1.s.to)), (3, .row 1 (Is v1.s.id)), (4, .row 1 (Ls v1.s.cs)), (5, .row 1 (Is v1.sz)), (6, .row 1 (Ls v1.ac)), (7, .row 1 (Is v2.s.fr)), (8, .row 1 (Is v2.s.to)), (9, .row 1 (Is v2.s.id)), (10, .row 1 (Ls v2.s.cs)), (11, .row 1 (Is v2.sz)), (12, .row 1 (Ls v2.ac)), (13, .row 1 (Ls v3))], 14⟩) (Wk.r1 [(0, 0), (2, 1), (3, 2), (4, 3), (5, 4), (6, 5), (7, 6), (9, 7), (10, 8), (11, 9), (12, 10), (13, 11), (14, 12), (15, 13)] (by simp [hP, hhOk, back, SF.cells, SM.cells, IA, I1, LA, L1, BA, B1, EA, E1, E2, eB, eI, eL])) ?_
 refine w_ret ?_
 have hr := Option.some.inj h
 rw [← hr]
 refine ⟨_, (.cell tf_96 rfl rfl rfl (by simp) (by simp) .nil), ?_⟩
 refine ⟨(.agg rfl .nil), [.val (.int .i64 v1.s.n), .lst true 1 (Is v1.s.fr), .lst true 1 (Is v1.s.to), .lst true 1 (Is v1.s.id), .lst true 1 (Ls v1.s.cs), .lst true 1 (Is v1.sz), .lst true 1 (Ls v1.ac), .val (.int .i64 v2.s.n), .lst true 1 (Is v2.s.fr), .lst true 1 (Is v2.s.to), .lst true 1 (Is v2.s.id), .lst true 1 (Ls v2.s.cs), .lst true 1 (Is v2.sz), .lst true 1 (Ls v2.ac), .lst true 1 (Ls v3)], [1, 2, 3, 4, 5, 6, 7, 8, 9, 10, 11, 12, 13], by simp [SF.cells, SM.cells, IA, I1, LA, L1, BA, B1, EA, E1, E2, eB, eI, eL], by simp, (UpL.refl _)⟩
end Go.Vc.T

set_option maxRecDepth 100000
set_option linter.unusedSimpArgs false
set_option linter.unusedVariables false
namespace Go.Vc.T
open Go Go.Vc Go.Proofs
noncomputable def s_i_MapAlong (k_ : Fn) (m_ : SM) : Option (SM × Int) :=
 (
   (s_i_Functor_isFunctor k_).bind fun v2 =>
   if ¬ (v2 = true) then
     some true
   else
     (s_i_SetMap_isNatural m_).bind fun v4 =>
     some (!v4) : Option (Bool)).bind fun b1 =>
 if b1 = true then
   some ((⟨(⟨(⟨0, [], [], [], []⟩ : Cat), [], []⟩ : SF), (⟨(⟨0, [], [], [], []⟩ : Cat), [], []⟩ : SF), []⟩ : SM), 1)
 else
   (s_i_sameCategory k_.t m_.s.s).bind fun v6 =>
   if ¬ (v6 = true) then
     some ((⟨(⟨(⟨0, [], [], [], []⟩ : Cat), [], []⟩ : SF), (⟨(⟨0, [], [], [], []⟩ : Cat), [], []⟩ : SF), []⟩ : SM), 5)
   else
     (s_i_along k_ m_.s).bind fun v8 =>
     (s_i_along k_ m_.t).bind fun v9 =>
     (s_i_partsAlong k_ m_.p).bind fun v10 =>
     (s_i_setMap v8 v9 v10).bind fun v11 =>
     some (v11, 0)
set_option maxHeartbeats 4000000 in
theorem w_i_MapAlong (k_ : Fn) (m_ : SM) (r : SM × Int) (h : s_i_MapAlong k_ m_ = some r) : Contract Try.prog 70 [.agg (k_.cells true), .agg (m_.cells true)] (.tup [.agg (r.1.cells true), .val (.int .i64 r.2)]) := by
 refine contract_introG (rvs := [.cell 4 96, .tmp 5]) (rs := [.agg (r.1.cells true), .val (.int .i64 r.2)]) Try.func70 rfl rfl rfl rfl (by simp [Try.f70]) fun F hN hP => ?_
 unfold s_i_MapAlong at h
 refine w_seq ?_
 refine w_runX [2, 3] mo (by rw [hN]; decide) fun K hK => ?_
 simp [-guardE_b, -Is_at, -Is_at', -Ls_at, -Ls_at', eL, eI, allInts, eP_Cat, eP_Fn, eP_SF, eP_SM, Cat.cells, Fn.cells, SF.cells, SM.cells]
 repeat (with_reducible refine And.intro ?_ ?_; · first | assumption | omega | (simp; done) | (simp; omega) | simp_all)
 refine hK _ ?_
 clear hK K
 refine tn ?_
 refine w_weak (st' := ⟨[(2, .rptr (Fn.cells true k_)), (3, .rptr (SM.cells true m_)), (4, .adr 0 0 0)], [(0, .mix 15 [[.val (.int .i64 0), .val (.slice none 0 0), .val (.slice none 0 0), .val (.slice none 0 0), .val (.slice none 0 0), .val (.slice none 0 0), .val (.slice none 0 0), .val (.int .i64 0), .val (.slice none 0 0), .val (.slice none 0 0), .val (.slice none 0 0), .val (.slice none 0 0), .val (.slice none 0 0), .val (.slice none 0 0), .val (.slice none 0 0)]])], 1⟩) (Wk.r1 [(0, 0)] (by simp [hP, hhOk, back, Cat.cells, Fn.cells, SF.cells, SM.cells, IA, I1, LA, L1, BA, B1, EA, E1, E2, eB, eI, eL])) ?_
 refine w_seq ?_
 refine w_seq ?_
 replace h := bind_some h
 obtain ⟨e1, h, h1⟩ := h
 refine w_joinT (fun b1 : Bool => ⟨[(2, .rptr (Fn.cells true k_)), (3, .rptr (SM.cells true m_)), (4, .adr 0 0 0), (13, .val (.bool b1))], [(0, .mix 15 [[.val (.int .i64 0), .val (.slice none 0 0), .val (.slice none 0 0), .val (.slice none 0 0), .val (.slice none 0 0), .val (.slice none 0 0), .val (.slice none 0 0), .val (.int .i64 0), .val (.slice none 0 0), .val (.slice none 0 0), .val (.slice none 0 0), .val (.slice none 0 0), .val (.slice none 0 0), .val (.slice none 0 0), .val (.slice none 0 0)]])], 1⟩) (fun b1 => b1 = e1) ?_ ?_
 · refine w_run mo (by rw [hN]; decide) fun K hK => ?_
   simp [-guardE_b, -Is_at, -Is_at', -Ls_at, -Ls_at', eL, eI, allInts, eP_Cat, eP_Fn, eP_SF, eP_SM, Cat.cells, Fn.cells, SF.cells, SM.cells]
   repeat (with_reducible refine And.intro ?_ ?_; · first | assumption | omega | (simp; done) | (simp; omega) | simp_all)
   replace h := bind_some h
   obtain ⟨v2, hv2, h⟩ := h
   refine callA_intro (w_i_Functor_isFunctor _ v2 hv2) (.cons (.preT (by simp [Fn.cells, SM.cells])) .nil) ?_
   simp [-guardE_b, -Is_at, -Is_at', -Ls_at, -Ls_at', unk, unA, unE, unT, unC, flat, eL, eI, allInts, eP_Cat, eP_Fn, eP_SF, eP_SM, Cat.cells, Fn.cells, SF.cells, SM.cells]
   repeat (with_reducible refine And.intro ?_ ?_; · first | assumption | omega | (simp; done) | (simp; omega) | simp_all)
   refine guard_intro (fun g => ?_) (fun g => ?_)
   · have g3 : ¬ (¬ (v2 = true)) := by first | simpa using g | (simp at g; exact g) | (simp at g; omega)
     clear g
     replace h := if_r g3 h
     simp [-guardE_b, -Is_at, -Is_at', -Ls_at, -Ls_at', eL, eI, allInts, eP_Cat, eP_Fn, eP_SF, eP_SM, Cat.cells, Fn.cells, SF.cells, SM.cells]
     repeat (with_reducible refine And.intro ?_ ?_; · first | assumption | omega | (simp; done) | (simp; omega) | simp_all)
     replace h := bind_some h
     obtain ⟨v4, hv4, h⟩ := h
     refine callA_intro (w_i_SetMap_isNatural _ v4 hv4) (.cons (.preT (by simp [Fn.cells, SM.cells])) .nil) ?_
     simp [-guardE_b, -Is_at, -Is_at', -Ls_at, -Ls_at', unk, unA, unE, unT, unC, flat, eL, eI, allInts, eP_Cat, eP_Fn, eP_SF, eP_SM, Cat.cells, Fn.cells, SF.cells, SM.cells]
     repeat (with_reducible refine And.intro ?_ ?_; · first | assumption | omega | (simp; done) | (simp; omega) | simp_all)
     refine hK _ ?_
     exact jn (b := !v4) (Option.some.inj h) (Wk.r1 [(0, 0)] (by simp [hP, hhOk, back, Cat.cells, Fn.cells, SF.cells, SM.cells, IA, I1, LA, L1, BA, B1, EA, E1, E2, eB, eI, eL]))
   have g3 : ¬ (v2 = true) := by first | simpa using g | (simp at g; exact g) | (simp at g; omega)
   clear g
   replace h := if_l g3 h
   simp [-guardE_b, -Is_at, -Is_at', -Ls_at, -Ls_at', eL, eI, allInts, eP_Cat, eP_Fn, eP_SF, eP_SM, Cat.cells, Fn.cells, SF.cells, SM.cells]
   repeat (with_reducible refine And.intro ?_ ?_; · first | assumption | omega | (simp; done) | (simp; omega) | simp_all)
   refine hK _ ?_
   exact jn (b := true) (Option.some.inj h) (Wk.r1 [(0, 0)] (by simp [hP, hhOk, back, Cat.cells, Fn.cells, SF.cells, SM.cells, IA, I1, LA, L1, BA, B1, EA, E1, E2, eB, eI, eL]))
 intro b1 hb1
 have h := h1
 rw [← hb1] at h
 clear h1
 try dsimp only at h
 refine w_cond rfl (fun g => ?_) fun g => ?_
 · have g5 : b1 = true := by first | simpa using g | (simp at g; exact g) | (simp at g; omega)
   clear g
   replace h := if_l g5 h
   refine w_seq ?_
   refine w_run mo (by rw [hN]; decide) fun K hK => ?_
   simp [-guardE_b, -Is_at, -Is_at', -Ls_at, -Ls_at', eL, eI, allInts, eP_Cat, eP_Fn, eP_SF, eP_SM, Cat.cells, Fn.cells, SF.cells, SM.cells]
   repeat (with_reducible refine And.intro ?_ ?_; · first | assumption | omega | (simp; done) | (simp; omega) | simp_all)
   refine hK _ ?_
   clear hK K
   refine tn ?_
   refine w_weak (st' := ⟨[(4, .adr 0 0 0), (5, .val (.int .i64 1))], [(0, .mix 15 [[.val (.int .i64 0), .val (.slice none 0 0), .val (.slice none 0 0), .val (.slice none 0 0), .val (.slice none 0 0), .val (.slice none 0 0), .val (.slice none 0 0), .val (.int .i64 0), .val (.slice none 0 0), .val (.slice none 0 0), .val (.slice none 0 0), .val (.slice none 0 0), .val (.slice none 0 0), .val (.slice none 0 0), .val (.slice none 0 0)]])], 1⟩) (Wk.r1 [(0, 0)] (by simp [hP, hhOk, back, Cat.cells, Fn.cells, SF.cells, SM.cells, IA, I1, LA, L1, BA, B1, EA, E1, E2, eB, eI, eL])) ?_
   refine w_ret ?_
   refine tr ?_
   have hr := Option.some.inj h
   rw [← hr]
   refine ⟨_, (.cell tf_96 rfl rfl rfl (by simp) (by simp) (.tmp .nil)), ?_⟩
   refine ⟨(.agg rfl (.one rfl rfl .nil)), [.val (.int .i64 0), .val (.slice none 0 0), .val (.slice none 0 0), .val (.slice none 0 0), .val (.slice none 0 0), .val (.slice none 0 0), .val (.slice none 0 0), .val (.int .i64 0), .val (.slice none 0 0), .val (.slice none 0 0), .val (.slice none 0 0), .val (.slice none 0 0), .val (.slice none 0 0), .val (.slice none 0 0), .val (.slice none 0 0), .val (.int .i64 1)], [], by simp [Cat.cells, Fn.cells, SF.cells, SM.cells, IA, I1, LA, L1, BA, B1, EA, E1, E2, eB, eI, eL], by simp, (.cons .refl (.cons .nil (.cons .nil (.cons .nil (.cons .nil (.cons .nil (.cons .nil (.cons .refl (.cons .nil (.cons .nil (.cons .nil (.cons .nil (.cons .nil (.cons .nil (.cons .nil (.cons .refl .nil))))))))))))))))⟩
 have g5 : ¬ (b1 = true) := by first | simpa using g | (simp at g; exact g) | (simp at g; omega)
 clear g
 replace h := if_r g5 h
 refine w_skip ?_
 refine tn ?_
 refine w_seq ?_
 refine w_seq ?_
 refine w_run mo (by rw [hN]; decide) fun K hK => ?_
 simp [-guardE_b, -Is_at, -Is_at', -Ls_at, -Ls_at', eL, eI, allInts, eP_Cat, eP_Fn, eP_SF, eP_SM, Cat.cells, Fn.cells, SF.cells, SM.cells]
 repeat (with_reducible refine And.intro ?_ ?_; · first | assumption | omega | (simp; done) | (simp; omega) | simp_all)
 replace h := bind_some h
 obtain ⟨v6, hv6, h⟩ := h
 refine callA_intro (w_i_sameCategory _ _ v6 hv6) (.cons (.preT (by simp [Cat.cells, Fn.cells, SM.cells])) (.cons (.preT (by simp [Cat.cells, Fn.cells, SM.cells])) .nil)) ?_
 simp [-guardE_b, -Is_at, -Is_at', -Ls_at, -Ls_at', unk, unA, unE, unT, unC, flat, eL, eI, allInts, eP_Cat, eP_Fn, eP_SF, eP_SM, Cat.cells, Fn.cells, SF.cells, SM.cells]
 repeat (with_reducible refine And.intro ?_ ?_; · first | assumption | omega | (simp; done) | (simp; omega) | simp_all)
 refine hK _ ?_
 clear hK K
 refine tn ?_
 refine w_weak (st' := ⟨[(2, .rptr (Fn.cells true k_)), (3, .rptr (SM.cells true m_)), (4, .adr 0 0 0), (19, .val (.bool (!v6)))], [(0, .mix 15 [[.val (.int .i64 0), .val (.slice none 0 0), .val (.slice none 0 0), .val (.slice none 0 0), .val (.slice none 0 0), .val (.slice none 0 0), .val (.slice none 0 0), .val (.int .i64 0), .val (.slice none 0 0), .val (.slice none 0 0), .val (.slice none 0 0), .val (.slice none 0 0), .val (.slice none 0 0), .val (.slice none 0 0), .val (.slice none 0 0)]])], 1⟩) (Wk.r1 [(0, 0)] (by simp [hP, hhOk, back, Cat.cells, Fn.cells, SF.cells, SM.cells, IA, I1, LA, L1, BA, B1, EA, E1, E2, eB, eI, eL])) ?_
 refine w_cond rfl (fun g => ?_) fun g => ?_
 · have g7 : ¬ (v6 = true) := by first | simpa using g | (simp at g; exact g) | (simp at g; omega)
   clear g
   replace h := if_l g7 h
   refine w_seq ?_
   refine w_run mo (by rw [hN]; decide) fun K hK => ?_
   simp [-guardE_b, -Is_at, -Is_at', -Ls_at, -Ls_at', eL, eI, allInts, eP_Cat, eP_Fn, eP_SF, eP_SM, Cat.cells, Fn.cells, SF.cells, SM.cells]
   repeat (with_reducible refine And.intro ?_ ?_; · first | assumption | omega | (simp; done) | (simp; omega) | simp_all)
   refine hK _ ?_
   clear hK K
   refine tn ?_
   refine w_weak (st' := ⟨[(4, .adr 0 0 0), (5, .val (.int .i64 5))], [(0, .mix 15 [[.val (.int .i64 0), .val (.slice none 0 0), .val (.slice none 0 0), .val (.slice none 0 0), .val (.slice none 0 0), .val (.slice none 0 0), .val (.slice none 0 0), .val (.int .i64 0), .val (.slice none 0 0), .val (.slice none 0 0), .val (.slice none 0 0), .val (.slice none 0 0), .val (.slice none 0 0), .val (.slice none 0 0), .val (.slice none 0 0)]])], 1⟩) (Wk.r1 [(0, 0)] (by simp [hP, hhOk, back, Cat.cells, Fn.cells, SF.cells, SM.cells, IA, I1, LA, L1, BA, B1, EA, E1, E2, eB, eI, eL])) ?_
   refine w_ret ?_
   refine tr ?_
   have hr := Option.some.inj h
   rw [← hr]
   refine ⟨_, (.cell tf_96 rfl rfl rfl (by simp) (by simp) (.tmp .nil)), ?_⟩
   refine ⟨(.agg rfl (.one rfl rfl .nil)), [.val (.int .i64 0), .val (.slice none 0 0), .val (.slice none 0 0), .val (.slice none 0 0), .val (.slice none 0 0), .val (.slice none 0 0), .val (.slice none 0 0), .val (.int .i64 0), .val (.slice none 0 0), .val (.slice none 0 0), .val (.slice none 0 0), .val (.slice none 0 0), .val (.slice none 0 0), .val (.slice none 0 0), .val (.slice none 0 0), .val (.int .i64 5)], [], by simp [Cat.cells, Fn.cells, SF.cells, SM.cells, IA, I1, LA, L1, BA, B1, EA, E1, E2, eB, eI, eL], by simp, (.cons .refl (.cons .nil (.cons .nil (.cons .nil (.cons .nil (.cons .nil (.cons .nil (.cons .refl (.cons .nil (.cons .nil (.cons .nil (.cons .nil (.cons .nil (.cons .nil (.cons .nil (.cons .refl .nil))))))))))))))))⟩
 have g7 : ¬ (¬ (v6 = true)) := by first | simpa using g | (simp at g; exact g) | (simp at g; omega)
 clear g
 replace h := if_r g7 h
 refine w_skip ?_
 refine tn ?_
 refine w_seq ?_
 refine w_run mo (by rw [hN]; decide) fun K hK => ?_
 simp [-guardE_b, -Is_at, -Is_at', -Ls_at, -Ls_at', eL, eI, allInts, eP_Cat, eP_Fn, eP_SF, eP_SM, Cat.cells, Fn.cells, SF.cells, SM.cells]
 repeat (with_reducible refine And.intro ?_ ?_; · first | assumption | omega | (simp; done) | (simp; omega) | simp_all)
 replace h := bind_some h
 obtain ⟨v8, hv8, h⟩ := h
 refine callA_intro (w_i_along _ _ v8 hv8) (.cons (.preT (by simp [Cat.cells, Fn.cells, SF.cells, SM.cells])) (.cons (.preT (by simp [Cat.cells, Fn.cells, SF.cells, SM.cells])) .nil)) ?_
 simp [-guardE_b, -Is_at, -Is_at', -Ls_at, -Ls_at', unk, unA, unE, unT, unC, flat, eL, eI, allInts, eP_Cat, eP_Fn, eP_SF, eP_SM, Cat.cells, Fn.cells, SF.cells, SM.cells]
 repeat (with_reducible refine And.intro ?_ ?_; · first | assumption | omega | (simp; done) | (simp; omega) | simp_all)
 replace h := bind_some h
 obtain ⟨v9, hv9, h⟩ := h
 refine callA_intro (w_i_along _ _ v9 hv9) (.cons (.preT (by simp [Cat.cells, Fn.cells, SF.cells, SM.cells])) (.cons (.preT (by simp [Cat.cells, Fn.cells, SF.cells, SM.cells])) .nil)) ?_
 simp [-guardE_b, -Is_at, -Is_at', -Ls_at, -Ls_at', unk, unA, unE, unT, unC, flat, eL, eI, allInts, eP_Cat, eP_Fn, eP_SF, eP_SM, Cat.cells, Fn.cells, SF.cells, SM.cells]
 repeat (with_reducible refine And.intro ?_ ?_; · first | assumption | omega | (simp; done) | (simp; omega) | simp_all)
 refine hK _ ?_
 clear hK K
 refine tn ?_
 refine w_weak (st' := ⟨[(2, .rptr (Fn.cells true k_)), (3, .rptr (SM.cells true m_)), (4, .adr 0 0 0), (6, .adr 1 0 0), (7, .adr 8 0 0)], [(0, .mix 15 [[.val (.int .i64 0), .val (.slice none 0 0), .val (.slice none 0 0), .val (.slice none 0 0), .val (.slice none 0 0), .val (.slice none 0 0), .val (.slice none 0 0), .val (.int .i64 0), .val (.slice none 0 0), .val (.slice none 0 0), .val (.slice none 0 0), .val (.slice none 0 0), .val (.slice none 0 0), .val (.slice none 0 0), .val (.slice none 0 0)]]), (1, .mix 7 [[.val (.int .i64 v8.s.n), .own 2 0 v8.s.fr.length, .own 3 0 v8.s.to.length, .own 4 0 v8.s.id.length, .own 5 0 v8.s.cs.length, .own 6 0 v8.sz.length, .own 7 0 v8.ac.length]]), (2, .row 1 (Is v8.s.fr)), (3, .row 1 (Is v8.s.to)), (4, .row 1 (Is v8.s.id)), (5, .row 1 (Ls v8.s.cs)), (6, .row 1 (Is v8.sz)), (7, .row 1 (Ls v8.ac)), (8, .mix 7 [[.val (.int .i64 v9.s.n), .own 9 0 v9.s.fr.length, .own 10 0 v9.s.to.length, .own 11 0 v9.s.id.length, .own 12 0 v9.s.cs.length, .own 13 0 v9.sz.length, .own 14 0 v9.ac.length]]), (9, .row 1 (Is v9.s.fr)), (10, .row 1 (Is v9.s.to)), (11, .row 1 (Is v9.s.id)), (12, .row 1 (Ls v9.s.cs)), (13, .row 1 (Is v9.sz)), (14, .row 1 (Ls v9.ac))], 15⟩) (Wk.r1 [(0, 0), (15, 1), (2, 2), (3, 3), (4, 4), (5, 5), (6, 6), (7, 7), (16, 8), (9, 9), (10, 10), (11, 11), (12, 12), (13, 13), (14, 14)] (by simp [hP, hhOk, back, Cat.cells, Fn.cells, SF.cells, SM.cells, IA, I1, LA, L1, BA, B1, EA, E1, E2, eB, eI, eL])) ?_
 refine w_seq ?_
 refine w_runX [] mo (by rw [hN]; decide) fun K hK => ?_
 simp [-guardE_b, -Is_at, -Is_at', -Ls_at, -Ls_at', eL, eI, allInts, eP_Cat, eP_Fn, eP_SF, eP_SM, Cat.cells, Fn.cells, SF.cells, SM.cells]
 repeat (with_reducible refine And.intro ?_ ?_; · first | assumption | omega | (simp; done) | (simp; omega) | simp_all)
 replace h := bind_some h
 obtain ⟨v10, hv10, h⟩ := h
 refine callX_fro (fz := []) true (w_i_partsAlong _ _ v10 hv10) (PurK.ofN (.cons (.preT (by simp [Cat.cells, Fn.cells, SF.cells, SM.cells])) (.cons .lst .nil))) ?_
 simp [-guardE_b, -Is_at, -Is_at', -Ls_at, -Ls_at', unk, unA, unE, unT, unC, flat, eL, eI, allInts, eP_Cat, eP_Fn, eP_SF, eP_SM, Cat.cells, Fn.cells, SF.cells, SM.cells]
 repeat (with_reducible refine And.intro ?_ ?_; · first | assumption | omega | (simp; done) | (simp; omega) | simp_all)
 replace h := bind_some h
 obtain ⟨v11, hv11, h⟩ := h
 refine callX_intro (fz := []) (w_i_setMap _ _ _ v11 hv11) (.cons (.field rfl (by simp [Cat.cells, Fn.cells, SF.cells, SM.cells]) (.cons .val (.cons (.whole (by simp) (by simp) (by simp)) (.cons (.whole (by simp) (by simp) (by simp)) (.cons (.whole (by simp) (by simp) (by simp)) (.cons (.whole (by simp) (by simp) (by simp)) (.cons (.whole (by simp) (by simp) (by simp)) (.cons (.whole (by simp) (by simp) (by simp)) .nil)))))))) (.cons (.field rfl (by simp [Cat.cells, Fn.cells, SF.cells, SM.cells]) (.cons .val (.cons (.whole (by simp) (by simp) (by simp)) (.cons (.whole (by simp) (by simp) (by simp)) (.cons (.whole (by simp) (by simp) (by simp)) (.cons (.whole (by simp) (by simp) (by simp)) (.cons (.whole (by simp) (by simp) (by simp)) (.cons (.whole (by simp) (by simp) (by simp)) .nil)))))))) (.cons .lst .nil))) ?_
 simp [-guardE_b, -Is_at, -Is_at', -Ls_at, -Ls_at', unk, unA, unE, unT, unC, flat, eL, eI, allInts, eP_Cat, eP_Fn, eP_SF, eP_SM, Cat.cells, Fn.cells, SF.cells, SM.cells]
 repeat (with_reducible refine And.intro ?_ ?_; · first | assumption | omega | (simp; done) | (simp; omega) | simp_all)
 refine hK _ ?_
 clear hK K
 refine tn ?_
 refine w_weak (st' := ⟨[(4, .adr 0 0 0), (5, .val (.int .i64 0))], [(0, .mix 15 [[.val (.int .i64 v11.s.s.n), .own 1 0 v11.s.s.fr.length, .own 2 0 v11.s.s.to.length, .own 3 0 v11.s.s.id.length, .own 4 0 v11.s.s.cs.length, .own 5 0 v11.s.sz.length, .own 6 0 v11.s.ac.length, .val (.int .i64 v11.t.s.n), .own 7 0 v11.t.s.fr.length, .own 8 0 v11.t.s.to.length, .own 9 0 v11.t.s.id.length, .own 10 0 v11.t.s.cs.length, .own 11 0 v11.t.sz.length, .own 12 0 v11.t.ac.length, .own 13 0 v11.p.length]]), (1, .row 1 (Is v11.s.s.fr)), (2, .row 1 (Is v11.s.s.to)), (3, .row 1 (Is v11.s.s.id)), (4, .row 1 (Ls v11.s.s.cs)), (5, .row 1 (Is v11.s.sz)), (6, .row 1 (Ls v11.s.ac)), (7, .row 1 (Is v11.t.s.fr)), (8, .row 1 (Is v11.t.s.to)), (9, .row 1 (Is v11.t.s.id)), (10, .row 1 (Ls v11.t.s.cs)), (11, .row 1 (Is v11.t.sz)), (12, .row 1 (Ls v11.t.ac)), (13, .row 1 (Ls v11.p))], 14⟩) (Wk.r1 [(0, 0), (16, 1), (17, 2), (18, 3), (19, 4), (20, 5), (21, 6), (23, 7), (24, 8), (25, 9), (26, 10), (27, 11), (28, 12), (29, 13)] (by simp [hP, hhOk, back, Cat.cells, Fn.cells, SF.cells, SM.cells, IA, I1, LA, L1, BA, B1, EA, E1, E2, eB, eI, eL])) ?_
 refine w_ret ?_
 have hr := Option.some.inj h
 rw [← hr]
 refine ⟨_, (.cell tf_96 rfl rfl rfl (by simp) (by simp) (.tmp .nil)), ?_⟩
 refine ⟨(.agg rfl (.one rfl rfl .nil)), [.val (.int .i64 v11.s.s.n), .lst true 1 (Is v11.s.s.fr), .lst true 1 (Is v11.s.s.to), .lst true 1 (Is v11.s.s.id), .lst true 1 (Ls v11.s.s.cs), .lst true 1 (Is v11.s.sz), .lst true 1 (Ls v11.s.ac), .val (.int .i64 v11.t.s.n), .lst true 1 (Is v11.t.s.fr), .lst true 1 (Is v11.t.s.to), .lst true 1 (Is v11.t.s.id), .lst true 1 (Ls v11.t.s.cs), .lst true 1 (Is v11.t.sz), .lst true 1 (Ls v11.t.ac), .lst true 1 (Ls v11.p), .val (.int .i64 0)], [1, 2, 3, 4, 5, 6, 7, 8, 9, 10, 11, 12, 13], by simp [Cat.cells, Fn.cells, SF.cells, SM.cells, IA, I1, LA, L1, BA, B1, EA, E1, E2, eB, eI, eL], by simp, (UpL.refl _)⟩
end Go.Vc.T

set_option maxRecDepth 100000
set_option linter.unusedSimpArgs false
set_option linter.unusedVariables false
namespace Go.Vc.T
open Go Go.Vc Go.Proofs
noncomputable def s_s_l19Make (f_ : SF) (g_ : SF) (parts_ : List (List Int)) : Option SM :=
 (s_s_l19Own f_).bind fun v1 =>
 (s_s_l19Own g_).bind fun v2 =>
 (s_s_l01Own2 parts_).bind fun v3 =>
 some (⟨v1, v2, v3⟩ : SM)
set_option maxHeartbeats 4000000 in
theorem w_s_l19Make (f_ : SF) (g_ : SF) (parts_ : List (List Int)) (r : SM) (h : s_s_l19Make f_ g_ parts_ = some r) : Contract Try.prog 134 [.agg (f_.cells true), .agg (g_.cells true), .lst true 1 (Ls parts_)] (.agg (r.cells true)) := by
 refine contract_introG (rvs := [.cell 6 96]) (rs := [.agg (r.cells true)]) Try.func134 rfl rfl rfl rfl (by simp [Try.f134]) fun F hN hP => ?_
 unfold s_s_l19Make at h
 refine w_seq ?_
 refine w_run mo (by rw [hN]; decide) fun K hK => ?_
 simp [-guardE_b, -Is_at, -Is_at', -Ls_at, -Ls_at', eL, eI, allInts, eP_SF, eP_SM, SF.cells, SM.cells]
 repeat (with_reducible refine And.intro ?_ ?_; · first | assumption | omega | (simp; done) | (simp; omega) | simp_all)
 refine hK _ ?_
 clear hK K
 refine tn ?_
 refine w_weak (st' := ⟨[(2, .lst true 1 (Ls parts_)), (3, .adr 0 0 0), (4, .adr 1 0 0), (6, .adr 2 0 0)], [(0, .mix 7 [(SF.cells true f_)]), (1, .mix 7 [(SF.cells true g_)]), (2, .mix 15 [[.val (.int .i64 0), .val (.slice none 0 0), .val (.slice none 0 0), .val (.slice none 0 0), .val (.slice none 0 0), .val (.slice none 0 0), .val (.slice none 0 0), .val (.int .i64 0), .val (.slice none 0 0), .val (.slice none 0 0), .val (.slice none 0 0), .val (.slice none 0 0), .val (.slice none 0 0), .val (.slice none 0 0), .val (.slice none 0 0)]])], 3⟩) (Wk.r1 [(0, 0), (1, 1), (2, 2)] (by simp [hP, hhOk, back, SF.cells, SM.cells, IA, I1, LA, L1, BA, B1, EA, E1, E2, eB, eI, eL])) ?_
 refine w_seq ?_
 refine w_run mo (by rw [hN]; decide) fun K hK => ?_
 simp [-guardE_b, -Is_at, -Is_at', -Ls_at, -Ls_at', eL, eI, allInts, eP_SF, eP_SM, SF.cells, SM.cells]
 repeat (with_reducible refine And.intro ?_ ?_; · first | assumption | omega | (simp; done) | (simp; omega) | simp_all)
 replace h := bind_some h
 obtain ⟨v1, hv1, h⟩ := h
 refine callA_intro (w_s_l19Own _ v1 hv1) (.cons (.aggL (.cons .val (.cons .lst (.cons .lst (.cons .lst (.cons .lst (.cons .lst (.cons .lst .nil)))))))) .nil) ?_
 simp [-guardE_b, -Is_at, -Is_at', -Ls_at, -Ls_at', unk, unA, unE, unT, unC, flat, eL, eI, allInts, eP_SF, eP_SM, SF.cells, SM.cells]
 repeat (with_reducible refine And.intro ?_ ?_; · first | assumption | omega | (simp; done) | (simp; omega) | simp_all)
 replace h := bind_some h
 obtain ⟨v2, hv2, h⟩ := h
 refine callA_intro (w_s_l19Own _ v2 hv2) (.cons (.aggL (.cons .val (.cons .lst (.cons .lst (.cons .lst (.cons .lst (.cons .lst (.cons .lst .nil)))))))) .nil) ?_
 simp [-guardE_b, -Is_at, -Is_at', -Ls_at, -Ls_at', unk, unA, unE, unT, unC, flat, eL, eI, allInts, eP_SF, eP_SM, SF.cells, SM.cells]
 repeat (with_reducible refine And.intro ?_ ?_; · first | assumption | omega | (simp; done) | (simp; omega) | simp_all)
 replace h := bind_some h
 obtain ⟨v3, hv3, h⟩ := h
 refine callA_intro (w_s_l01Own2 _ v3 hv3) (.cons .lst .nil) ?_
 simp [-guardE_b, -Is_at, -Is_at', -Ls_at, -Ls_at', unk, unA, unE, unT, unC, flat, eL, eI, allInts, eP_SF, eP_SM, SF.cells, SM.cells]
 repeat (with_reducible refine And.intro ?_ ?_; · first | assumption | omega | (simp; done) | (simp; omega) | simp_all)
 refine hK _ ?_
 clear hK K
 refine tn ?_
 refine w_weak (st' := ⟨[(6, .adr 0 0 0)], [(0, .mix 15 [[.val (.int .i64 v1.s.n), .own 1 0 v1.s.fr.length, .own 2 0 v1.s.to.length, .own 3 0 v1.s.id.length, .own 4 0 v1.s.cs.length, .own 5 0 v1.sz.length, .own 6 0 v1.ac.length, .val (.int .i64 v2.s.n), .own 7 0 v2.s.fr.length, .own 8 0 v2.s.to.length, .own 9 0 v2.s.id.length, .own 10 0 v2.s.cs.length, .own 11 0 v2.sz.length, .own 12 0 v2.ac.length, .own 13 0 v3.length]]), (1, .row 1 (Is v1.s.fr)), (2, .row 1 (Is v1.s.to)), (3, .row 1 (Is v1.s.id)), (4, .row 1 (Ls v1.s.cs)), (5, .row 1 (Is v1.sz)), (6, .row 1 (Ls v1.ac)), (7, .row 1 (Is v2.s.fr)), (8, .row 1 (Is v2.s.to)), (9, .row 1 (Is v2.s.id)), (10, .row 1 (Ls v2.s.cs)), (11, .row 1 (Is v2.sz)), (12, .row 1 (Ls v2.ac)), (13, .row 1 (Ls v3))], 14⟩) (Wk.r1 [(2, 0), (4, 1), (5, 2), (6, 3), (7, 4), (8, 5), (9, 6), (11, 7), (12, 8), (13, 9), (14, 10), (15, 11), (16, 12), (17, 13)] (by simp [hP, hhOk, back, SF.cells, SM.cells, IA, I1, LA, L1, BA, B1, EA, E1, E2, eB, eI, eL])) ?_
 refine w_ret ?_
 have hr := Option.some.inj h
 rw [← hr]
 refine ⟨_, (.cell tf_96 rfl rfl rfl (by simp) (by simp) .nil), ?_⟩
 refine ⟨(.agg rfl .nil), [.val (.int .i64 v1.s.n), .lst true 1 (Is v1.s.fr), .lst true 1 (Is v1.s.to), .lst true 1 (Is v1.s.id), .lst true 1 (Ls v1.s.cs), .lst true 1 (Is v1.sz), .lst true 1 (Ls v1.ac), .val (.int .i64 v2.s.n), .lst true 1 (Is v2.s.fr), .lst true 1 (Is v2.s.to), .lst true 1 (Is v2.s.id), .lst true 1 (Ls v2.s.cs), .lst true 1 (Is v2.sz), .lst true 1 (Ls v2.ac), .lst true 1 (Ls v3)], [1, 2, 3, 4, 5, 6, 7, 8, 9, 10, 11, 12, 13], by simp [SF.cells, SM.cells, IA, I1, LA, L1, BA, B1, EA, E1, E2, eB, eI, eL], by simp, (UpL.refl _)⟩
end Go.Vc.T

set_option maxRecDepth 100000
set_option linter.unusedSimpArgs false
set_option linter.unusedVariables false
namespace Go.Vc.T
open Go Go.Vc Go.Proofs
noncomputable def s_s_l23Along (k_ : Fn) (g_ : SF) : Option SF :=
 (s_s_l02Own k_.s).bind fun v1 =>
 (loopF (σ := List Int × Int) (ε := List Int) (fun s8 =>
   if s8.2 < (k_.ob.length : Int) then
     ass (0 ≤ s8.2 ∧ s8.2 < (k_.ob.length : Int)) <|
     ass (0 ≤ ix k_.ob s8.2 ∧ ix k_.ob s8.2 < (g_.sz.length : Int)) <|
     ass ((s8.1 ++ [ix g_.sz (ix k_.ob s8.2)]).length ≤ 1073741824) <|
     ass (B64 (s8.2 + 1)) <|
     some (Ctl.next (s8.1 ++ [ix g_.sz (ix k_.ob s8.2)], s8.2 + 1))
   else
     some (Ctl.ret s8.1)) fuel ([], 0)).bind fun b2 =>
 (loopF (σ := List (List Int) × Int) (ε := List (List Int)) (fun s21 =>
   if s21.2 < (k_.ar.length : Int) then
     ass (0 ≤ s21.2 ∧ s21.2 < (k_.ar.length : Int)) <|
     ass (0 ≤ ix k_.ar s21.2 ∧ ix k_.ar s21.2 < (g_.ac.length : Int)) <|
     (s_s_l01Own (rx g_.ac (ix k_.ar s21.2))).bind fun v25 =>
     ass ((s21.1 ++ [v25]).length ≤ 1073741824) <|
     ass (B64 (s21.2 + 1)) <|
     some (Ctl.next (s21.1 ++ [v25], s21.2 + 1))
   else
     some (Ctl.ret s21.1)) fuel ([], 0)).bind fun b14 =>
 some (⟨v1, b2, b14⟩ : SF)
set_option maxHeartbeats 4000000 in
theorem w_s_l23Along (k_ : Fn) (g_ : SF) (r : SF) (h : s_s_l23Along k_ g_ = some r) : Contract Try.prog 223 [.agg (k_.cells true), .agg (g_.cells true)] (.agg (r.cells true)) := by
 refine contract_introG (rvs := [.cell 4 94]) (rs := [.agg (r.cells true)]) Try.func223 rfl rfl rfl rfl (by simp [Try.f223]) fun F hN hP => ?_
 unfold s_s_l23Along at h
 refine w_seq ?_
 refine w_run mo (by rw [hN]; decide) fun K hK => ?_
 simp [-guardE_b, -Is_at, -Is_at', -Ls_at, -Ls_at', eL, eI, allInts, eP_Cat, eP_Fn, eP_SF, Cat.cells, Fn.cells, SF.cells]
 repeat (with_reducible refine And.intro ?_ ?_; · first | assumption | omega | (simp; done) | (simp; omega) | simp_all)
 refine hK _ ?_
 clear hK K
 refine tn ?_
 refine w_weak (st' := ⟨[(2, .adr 0 0 0), (3, .adr 1 0 0), (4, .adr 2 0 0)], [(0, .mix 12 [(Fn.cells true k_)]), (1, .mix 7 [(SF.cells true g_)]), (2, .mix 7 [[.val (.int .i64 0), .val (.slice none 0 0), .val (.slice none 0 0), .val (.slice none 0 0), .val (.slice none 0 0), .val (.slice none 0 0), .val (.slice none 0 0)]])], 3⟩) (Wk.r1 [(0, 0), (1, 1), (2, 2)] (by simp [hP, hhOk, back, Cat.cells, Fn.cells, SF.cells, IA, I1, LA, L1, BA, B1, EA, E1, E2, eB, eI, eL])) ?_
 refine w_seq ?_
 refine w_run mo (by rw [hN]; decide) fun K hK => ?_
 simp [-guardE_b, -Is_at, -Is_at', -Ls_at, -Ls_at', eL, eI, allInts, eP_Cat, eP_Fn, eP_SF, Cat.cells, Fn.cells, SF.cells]
 repeat (with_reducible refine And.intro ?_ ?_; · first | assumption | omega | (simp; done) | (simp; omega) | simp_all)
 replace h := bind_some h
 obtain ⟨v1, hv1, h⟩ := h
 refine callA_intro (w_s_l02Own _ v1 hv1) (.cons (.aggL (.cons .val (.cons .lst (.cons .lst (.cons .lst (.cons .lst .nil)))))) .nil) ?_
 simp [-guardE_b, -Is_at, -Is_at', -Ls_at, -Ls_at', unk, unA, unE, unT, unC, flat, eL, eI, allInts, eP_Cat, eP_Fn, eP_SF, Cat.cells, Fn.cells, SF.cells]
 repeat (with_reducible refine And.intro ?_ ?_; · first | assumption | omega | (simp; done) | (simp; omega) | simp_all)
 refine hK _ ?_
 clear hK K
 refine tn ?_
 refine w_weak (st' := ⟨[(2, .adr 0 0 0), (3, .adr 1 0 0), (4, .adr 2 0 0), (5, .adr 3 0 0)], [(0, .mix 12 [(Fn.cells true k_)]), (1, .mix 7 [(SF.cells true g_)]), (2, .mix 7 [[.val (.int .i64 0), .val (.slice none 0 0), .val (.slice none 0 0), .val (.slice none 0 0), .val (.slice none 0 0), .val (.slice none 0 0), .val (.slice none 0 0)]]), (3, .mix 7 [[.val (.int .i64 v1.n), .own 4 0 v1.fr.length, .own 5 0 v1.to.length, .own 6 0 v1.id.length, .own 7 0 v1.cs.length, .own 8 0 0, .own 9 0 0]]), (4, .row 1 (Is v1.fr)), (5, .row 1 (Is v1.to)), (6, .row 1 (Is v1.id)), (7, .row 1 (Ls v1.cs)), (8, .mix 1 []), (9, .mix 1 [])], 10⟩) (Wk.r1 [(0, 0), (1, 1), (2, 2), (10, 3), (4, 4), (5, 5), (6, 6), (7, 7), (8, 8), (9, 9)] (by simp [hP, hhOk, back, Cat.cells, Fn.cells, SF.cells, IA, I1, LA, L1, BA, B1, EA, E1, E2, eB, eI, eL])) ?_
 refine w_seq ?_
 refine w_seq ?_
 refine w_run mo (by rw [hN]; decide) fun K hK => ?_
 simp [-guardE_b, -Is_at, -Is_at', -Ls_at, -Ls_at', eL, eI, allInts, eP_Cat, eP_Fn, eP_SF, Cat.cells, Fn.cells, SF.cells]
 repeat (with_reducible refine And.intro ?_ ?_; · first | assumption | omega | (simp; done) | (simp; omega) | simp_all)
 refine hK _ ?_
 clear hK K
 refine tn ?_
 refine w_weak (st' := ⟨[(2, .adr 0 0 0), (3, .adr 1 0 0), (4, .adr 2 0 0), (5, .adr 3 0 0), (6, .val (.int .i64 0))], [(0, .mix 12 [(Fn.cells true k_)]), (1, .mix 7 [(SF.cells true g_)]), (2, .mix 7 [[.val (.int .i64 0), .val (.slice none 0 0), .val (.slice none 0 0), .val (.slice none 0 0), .val (.slice none 0 0), .val (.slice none 0 0), .val (.slice none 0 0)]]), (3, .mix 7 [[.val (.int .i64 v1.n), .own 4 0 v1.fr.length, .own 5 0 v1.to.length, .own 6 0 v1.id.length, .own 7 0 v1.cs.length, .own 8 0 0, .own 9 0 0]]), (4, .row 1 (Is v1.fr)), (5, .row 1 (Is v1.to)), (6, .row 1 (Is v1.id)), (7, .row 1 (Ls v1.cs)), (8, .mix 1 []), (9, .mix 1 [])], 10⟩) (Wk.r1 [(0, 0), (1, 1), (2, 2), (3, 3), (4, 4), (5, 5), (6, 6), (7, 7), (8, 8), (9, 9)] (by simp [hP, hhOk, back, Cat.cells, Fn.cells, SF.cells, IA, I1, LA, L1, BA, B1, EA, E1, E2, eB, eI, eL])) ?_
 replace h := bind_some h
 obtain ⟨e2, h, h2⟩ := h
 refine w_joinT (fun b2 : List Int => ⟨[(2, .adr 0 0 0), (3, .adr 1 0 0), (4, .adr 2 0 0), (5, .adr 3 0 0)], [(0, .mix 12 [(Fn.cells true k_)]), (1, .mix 7 [(SF.cells true g_)]), (2, .mix 7 [[.val (.int .i64 0), .val (.slice none 0 0), .val (.slice none 0 0), .val (.slice none 0 0), .val (.slice none 0 0), .val (.slice none 0 0), .val (.slice none 0 0)]]), (3, .mix 7 [[.val (.int .i64 v1.n), .own 4 0 v1.fr.length, .own 5 0 v1.to.length, .own 6 0 v1.id.length, .own 7 0 v1.cs.length, .own 8 0 b2.length, .own 9 0 0]]), (4, .row 1 (Is v1.fr)), (5, .row 1 (Is v1.to)), (6, .row 1 (Is v1.id)), (7, .row 1 (Ls v1.cs)), (8, .row 1 (Is b2)), (9, .mix 1 [])], 10⟩) (fun b2 => b2 = e2) ?_ ?_
 · refine w_block ?_
   refine w_loopF h (fun s8 : List Int × Int => ⟨[(2, .adr 0 0 0), (3, .adr 1 0 0), (4, .adr 2 0 0), (5, .adr 3 0 0), (6, .val (.int .i64 s8.2))], [(0, .mix 12 [(Fn.cells true k_)]), (1, .mix 7 [(SF.cells true g_)]), (2, .mix 7 [[.val (.int .i64 0), .val (.slice none 0 0), .val (.slice none 0 0), .val (.slice none 0 0), .val (.slice none 0 0), .val (.slice none 0 0), .val (.slice none 0 0)]]), (3, .mix 7 [[.val (.int .i64 v1.n), .own 4 0 v1.fr.length, .own 5 0 v1.to.length, .own 6 0 v1.id.length, .own 7 0 v1.cs.length, .own 8 0 s8.1.length, .own 9 0 0]]), (4, .row 1 (Is v1.fr)), (5, .row 1 (Is v1.to)), (6, .row 1 (Is v1.id)), (7, .row 1 (Ls v1.cs)), (8, .row 1 (Is s8.1)), (9, .mix 1 [])], 10⟩) (wk_tr ⟨[(2, .adr 0 0 0), (3, .adr 1 0 0), (4, .adr 2 0 0), (5, .adr 3 0 0), (6, .val (.int .i64 0))], [(0, .mix 12 [(Fn.cells true k_)]), (1, .mix 7 [(SF.cells true g_)]), (2, .mix 7 [[.val (.int .i64 0), .val (.slice none 0 0), .val (.slice none 0 0), .val (.slice none 0 0), .val (.slice none 0 0), .val (.slice none 0 0), .val (.slice none 0 0)]]), (3, .mix 7 [[.val (.int .i64 v1.n), .own 4 0 v1.fr.length, .own 5 0 v1.to.length, .own 6 0 v1.id.length, .own 7 0 v1.cs.length, .own 8 0 0, .own 9 0 0]]), (4, .row 1 (Is v1.fr)), (5, .row 1 (Is v1.to)), (6, .row 1 (Is v1.id)), (7, .row 1 (Ls v1.cs)), (8, .row 1 (Is [])), (9, .mix 1 [])], 10⟩ (Wk.nils [] (by simp) (by simp) (by simp [nlA]) (by simp [entN, nlL, nlA, Cat.cells, Fn.cells, SF.cells, IA, I1, LA, L1, BA, B1, EA, E1, E2, eB, eI, eL]) (by simp)) (Wk.r1 [(0, 0), (1, 1), (2, 2), (3, 3), (4, 4), (5, 5), (6, 6), (7, 7), (8, 8), (9, 9)] (by simp [hP, hhOk, back, Cat.cells, Fn.cells, SF.cells, IA, I1, LA, L1, BA, B1, EA, E1, E2, eB, eI, eL]))) ?_
   clear h
   intro k8 s8 c8 h hk8
   refine w_seq ?_
   refine w_seq ?_
   refine w_run mo (by rw [hN]; decide) fun K hK => ?_
   simp [-guardE_b, -Is_at, -Is_at', -Ls_at, -Ls_at', eL, eI, allInts, eP_Cat, eP_Fn, eP_SF, Cat.cells, Fn.cells, SF.cells]
   repeat (with_reducible refine And.intro ?_ ?_; · first | assumption | omega | (simp; done) | (simp; omega) | simp_all)
   refine hK _ ?_
   clear hK K
   refine tn ?_
   refine w_weak (st' := ⟨[(2, .adr 0 0 0), (3, .adr 1 0 0), (4, .adr 2 0 0), (5, .adr 3 0 0), (6, .val (.int .i64 s8.2)), (18, .val (.bool (decide (s8.2 < (k_.ob.length : Int)))))], [(0, .mix 12 [(Fn.cells true k_)]), (1, .mix 7 [(SF.cells true g_)]), (2, .mix 7 [[.val (.int .i64 0), .val (.slice none 0 0), .val (.slice none 0 0), .val (.slice none 0 0), .val (.slice none 0 0), .val (.slice none 0 0), .val (.slice none 0 0)]]), (3, .mix 7 [[.val (.int .i64 v1.n), .own 4 0 v1.fr.length, .own 5 0 v1.to.length, .own 6 0 v1.id.length, .own 7 0 v1.cs.length, .own 8 0 s8.1.length, .own 9 0 0]]), (4, .row 1 (Is v1.fr)), (5, .row 1 (Is v1.to)), (6, .row 1 (Is v1.id)), (7, .row 1 (Ls v1.cs)), (8, .row 1 (Is s8.1)), (9, .mix 1 [])], 10⟩) (Wk.r1 [(0, 0), (1, 1), (2, 2), (3, 3), (4, 4), (5, 5), (6, 6), (7, 7), (8, 8), (9, 9)] (by simp [hP, hhOk, back, Cat.cells, Fn.cells, SF.cells, IA, I1, LA, L1, BA, B1, EA, E1, E2, eB, eI, eL])) ?_
   refine w_cond rfl (fun g => ?_) fun g => ?_
   · have g9 : s8.2 < (k_.ob.length : Int) := by first | simpa using g | (simp at g; exact g) | (simp at g; omega)
     clear g
     replace h := if_l g9 h
     refine w_skip ?_
     refine tn ?_
     refine w_seq ?_
     refine w_block ?_
     refine w_run mo (by rw [hN]; decide) fun K hK => ?_
     replace h := ass_some h
     obtain ⟨a10, h⟩ := h
     replace h := ass_some h
     obtain ⟨a11, h⟩ := h
     replace h := ass_some h
     obtain ⟨a12, h⟩ := h
     try simp only [List.length_append, List.length_cons, List.length_nil] at a12
     simp [-guardE_b, -Is_at, -Is_at', -Ls_at, -Ls_at', eL, eI, allInts, eP_Cat, eP_Fn, eP_SF, Cat.cells, Fn.cells, SF.cells, at_I a10, at_I a11, a12]
     repeat (with_reducible refine And.intro ?_ ?_; · first | assumption | omega | (simp; done) | (simp; omega) | simp_all)
     refine hK _ ?_
     clear hK K
     refine bn ?_
     refine tn ?_
     refine w_weak (st' := ⟨[(2, .adr 0 0 0), (3, .adr 1 0 0), (4, .adr 2 0 0), (5, .adr 3 0 0), (6, .val (.int .i64 s8.2))], [(0, .mix 12 [(Fn.cells true k_)]), (1, .mix 7 [(SF.cells true g_)]), (2, .mix 7 [[.val (.int .i64 0), .val (.slice none 0 0), .val (.slice none 0 0), .val (.slice none 0 0), .val (.slice none 0 0), .val (.slice none 0 0), .val (.slice none 0 0)]]), (3, .mix 7 [[.val (.int .i64 v1.n), .own 4 0 v1.fr.length, .own 5 0 v1.to.length, .own 6 0 v1.id.length, .own 7 0 v1.cs.length, .own 8 0 ((s8.1 ++ [ix g_.sz (ix k_.ob s8.2)]).length), .own 9 0 0]]), (4, .row 1 (Is v1.fr)), (5, .row 1 (Is v1.to)), (6, .row 1 (Is v1.id)), (7, .row 1 (Ls v1.cs)), (8, .row 1 (Is (s8.1 ++ [ix g_.sz (ix k_.ob s8.2)]))), (9, .mix 1 [])], 10⟩) (Wk.r1 [(0, 0), (1, 1), (2, 2), (3, 3), (4, 4), (5, 5), (6, 6), (7, 7), (11, 8), (9, 9)] (by simp [hP, hhOk, back, Cat.cells, Fn.cells, SF.cells, IA, I1, LA, L1, BA, B1, EA, E1, E2, eB, eI, eL])) ?_
     refine w_run mo (by rw [hN]; decide) fun K hK => ?_
     replace h := ass_some h
     obtain ⟨a13, h⟩ := h
     simp [-guardE_b, -Is_at, -Is_at', -Ls_at, -Ls_at', eL, eI, allInts, eP_Cat, eP_Fn, eP_SF, Cat.cells, Fn.cells, SF.cells, wrap_id a13]
     repeat (with_reducible refine And.intro ?_ ?_; · first | assumption | omega | (simp; done) | (simp; omega) | simp_all)
     refine hK _ ?_
     clear hK K
     cases h
     exact rn (s' := (s8.1 ++ [ix g_.sz (ix k_.ob s8.2)], s8.2 + 1)) hk8 (Wk.r1 [(0, 0), (1, 1), (2, 2), (3, 3), (4, 4), (5, 5), (6, 6), (7, 7), (8, 8), (9, 9)] (by simp [hP, hhOk, back, Cat.cells, Fn.cells, SF.cells, IA, I1, LA, L1, BA, B1, EA, E1, E2, eB, eI, eL]))
   have g9 : ¬ (s8.2 < (k_.ob.length : Int)) := by first | simpa using g | (simp at g; exact g) | (simp at g; omega)
   clear g
   replace h := if_r g9 h
   refine w_exit ?_
   refine tx ?_
   refine lx ?_
   refine bh ?_
   cases h
   exact jn (b := s8.1) hk8 (Wk.r1 [(0, 0), (1, 1), (2, 2), (3, 3), (4, 4), (5, 5), (6, 6), (7, 7), (8, 8), (9, 9)] (by simp [hP, hhOk, back, Cat.cells, Fn.cells, SF.cells, IA, I1, LA, L1, BA, B1, EA, E1, E2, eB, eI, eL]))
 intro b2 hb2
 have h := h2
 rw [← hb2] at h
 clear h2
 try dsimp only at h
 refine w_seq ?_
 refine w_seq ?_
 refine w_run mo (by rw [hN]; decide) fun K hK => ?_
 simp [-guardE_b, -Is_at, -Is_at', -Ls_at, -Ls_at', eL, eI, allInts, eP_Cat, eP_Fn, eP_SF, Cat.cells, Fn.cells, SF.cells]
 repeat (with_reducible refine And.intro ?_ ?_; · first | assumption | omega | (simp; done) | (simp; omega) | simp_all)
 refine hK _ ?_
 clear hK K
 refine tn ?_
 refine w_weak (st' := ⟨[(2, .adr 0 0 0), (3, .adr 1 0 0), (4, .adr 2 0 0), (5, .adr 3 0 0), (7, .val (.int .i64 0))], [(0, .mix 12 [(Fn.cells true k_)]), (1, .mix 7 [(SF.cells true g_)]), (2, .mix 7 [[.val (.int .i64 0), .val (.slice none 0 0), .val (.slice none 0 0), .val (.slice none 0 0), .val (.slice none 0 0), .val (.slice none 0 0), .val (.slice none 0 0)]]), (3, .mix 7 [[.val (.int .i64 v1.n), .own 4 0 v1.fr.length, .own 5 0 v1.to.length, .own 6 0 v1.id.length, .own 7 0 v1.cs.length, .own 8 0 b2.length, .own 9 0 0]]), (4, .row 1 (Is v1.fr)), (5, .row 1 (Is v1.to)), (6, .row 1 (Is v1.id)), (7, .row 1 (Ls v1.cs)), (8, .row 1 (Is b2)), (9, .mix 1 [])], 10⟩) (Wk.r1 [(0, 0), (1, 1), (2, 2), (3, 3), (4, 4), (5, 5), (6, 6), (7, 7), (8, 8), (9, 9)] (by simp [hP, hhOk, back, Cat.cells, Fn.cells, SF.cells, IA, I1, LA, L1, BA, B1, EA, E1, E2, eB, eI, eL])) ?_
 replace h := bind_some h
 obtain ⟨e14, h, h14⟩ := h
 refine w_joinT (fun b14 : List (List Int) => ⟨[(4, .adr 0 0 0), (5, .adr 1 0 0)], [(0, .mix 7 [[.val (.int .i64 0), .val (.slice none 0 0), .val (.slice none 0 0), .val (.slice none 0 0), .val (.slice none 0 0), .val (.slice none 0 0), .val (.slice none 0 0)]]), (1, .mix 7 [[.val (.int .i64 v1.n), .own 2 0 v1.fr.length, .own 3 0 v1.to.length, .own 4 0 v1.id.length, .own 5 0 v1.cs.length, .own 6 0 b2.length, .own 7 0 b14.length]]), (2, .row 1 (Is v1.fr)), (3, .row 1 (Is v1.to)), (4, .row 1 (Is v1.id)), (5, .row 1 (Ls v1.cs)), (6, .row 1 (Is b2)), (7, .row 1 (Ls b14))], 8⟩) (fun b14 => b14 = e14) ?_ ?_
 · refine w_block ?_
   refine w_loopF h (fun s21 : List (List Int) × Int => ⟨[(2, .adr 0 0 0), (3, .adr 1 0 0), (4, .adr 2 0 0), (5, .adr 3 0 0), (7, .val (.int .i64 s21.2))], [(0, .mix 12 [(Fn.cells true k_)]), (1, .mix 7 [(SF.cells true g_)]), (2, .mix 7 [[.val (.int .i64 0), .val (.slice none 0 0), .val (.slice none 0 0), .val (.slice none 0 0), .val (.slice none 0 0), .val (.slice none 0 0), .val (.slice none 0 0)]]), (3, .mix 7 [[.val (.int .i64 v1.n), .own 4 0 v1.fr.length, .own 5 0 v1.to.length, .own 6 0 v1.id.length, .own 7 0 v1.cs.length, .own 8 0 b2.length, .own 9 0 s21.1.length]]), (4, .row 1 (Is v1.fr)), (5, .row 1 (Is v1.to)), (6, .row 1 (Is v1.id)), (7, .row 1 (Ls v1.cs)), (8, .row 1 (Is b2)), (9, .row 1 (Ls s21.1))], 10⟩) (wk_tr ⟨[(2, .adr 0 0 0), (3, .adr 1 0 0), (4, .adr 2 0 0), (5, .adr 3 0 0), (7, .val (.int .i64 0))], [(0, .mix 12 [(Fn.cells true k_)]), (1, .mix 7 [(SF.cells true g_)]), (2, .mix 7 [[.val (.int .i64 0), .val (.slice none 0 0), .val (.slice none 0 0), .val (.slice none 0 0), .val (.slice none 0 0), .val (.slice none 0 0), .val (.slice none 0 0)]]), (3, .mix 7 [[.val (.int .i64 v1.n), .own 4 0 v1.fr.length, .own 5 0 v1.to.length, .own 6 0 v1.id.length, .own 7 0 v1.cs.length, .own 8 0 b2.length, .own 9 0 0]]), (4, .row 1 (Is v1.fr)), (5, .row 1 (Is v1.to)), (6, .row 1 (Is v1.id)), (7, .row 1 (Ls v1.cs)), (8, .row 1 (Is b2)), (9, .row 1 (Ls []))], 10⟩ (Wk.nils [] (by simp) (by simp) (by simp [nlA]) (by simp [entN, nlL, nlA, Cat.cells, Fn.cells, SF.cells, IA, I1, LA, L1, BA, B1, EA, E1, E2, eB, eI, eL]) (by simp)) (Wk.r1 [(0, 0), (1, 1), (2, 2), (3, 3), (4, 4), (5, 5), (6, 6), (7, 7), (8, 8), (9, 9)] (by simp [hP, hhOk, back, Cat.cells, Fn.cells, SF.cells, IA, I1, LA, L1, BA, B1, EA, E1, E2, eB, eI, eL]))) ?_
   clear h
   intro k21 s21 c21 h hk21
   refine w_seq ?_
   refine w_seq ?_
   refine w_run mo (by rw [hN]; decide) fun K hK => ?_
   simp [-guardE_b, -Is_at, -Is_at', -Ls_at, -Ls_at', eL, eI, allInts, eP_Cat, eP_Fn, eP_SF, Cat.cells, Fn.cells, SF.cells]
   repeat (with_reducible refine And.intro ?_ ?_; · first | assumption | omega | (simp; done) | (simp; omega) | simp_all)
   refine hK _ ?_
   clear hK K
   refine tn ?_
   refine w_weak (st' := ⟨[(2, .adr 0 0 0), (3, .adr 1 0 0), (4, .adr 2 0 0), (5, .adr 3 0 0), (7, .val (.int .i64 s21.2)), (39, .val (.bool (decide (s21.2 < (k_.ar.length : Int)))))], [(0, .mix 12 [(Fn.cells true k_)]), (1, .mix 7 [(SF.cells true g_)]), (2, .mix 7 [[.val (.int .i64 0), .val (.slice none 0 0), .val (.slice none 0 0), .val (.slice none 0 0), .val (.slice none 0 0), .val (.slice none 0 0), .val (.slice none 0 0)]]), (3, .mix 7 [[.val (.int .i64 v1.n), .own 4 0 v1.fr.length, .own 5 0 v1.to.length, .own 6 0 v1.id.length, .own 7 0 v1.cs.length, .own 8 0 b2.length, .own 9 0 s21.1.length]]), (4, .row 1 (Is v1.fr)), (5, .row 1 (Is v1.to)), (6, .row 1 (Is v1.id)), (7, .row 1 (Ls v1.cs)), (8, .row 1 (Is b2)), (9, .row 1 (Ls s21.1))], 10⟩) (Wk.r1 [(0, 0), (1, 1), (2, 2), (3, 3), (4, 4), (5, 5), (6, 6), (7, 7), (8, 8), (9, 9)] (by simp [hP, hhOk, back, Cat.cells, Fn.cells, SF.cells, IA, I1, LA, L1, BA, B1, EA, E1, E2, eB, eI, eL])) ?_
   refine w_cond rfl (fun g => ?_) fun g => ?_
   · have g22 : s21.2 < (k_.ar.length : Int) := by first | simpa using g | (simp at g; exact g) | (simp at g; omega)
     clear g
     replace h := if_l g22 h
     refine w_skip ?_
     refine tn ?_
     refine w_seq ?_
     refine w_block ?_
     refine w_run mo (by rw [hN]; decide) fun K hK => ?_
     replace h := ass_some h
     obtain ⟨a23, h⟩ := h
     replace h := ass_some h
     obtain ⟨a24, h⟩ := h
     simp [-guardE_b, -Is_at, -Is_at', -Ls_at, -Ls_at', eL, eI, allInts, eP_Cat, eP_Fn, eP_SF, Cat.cells, Fn.cells, SF.cells, at_I a23, at_L a24]
     repeat (with_reducible refine And.intro ?_ ?_; · first | assumption | omega | (simp; done) | (simp; omega) | simp_all)
     replace h := bind_some h
     obtain ⟨v25, hv25, h⟩ := h
     refine callA_intro (w_s_l01Own _ v25 hv25) (.cons .lst .nil) ?_
     replace h := ass_some h
     obtain ⟨a26, h⟩ := h
     try simp only [List.length_append, List.length_cons, List.length_nil] at a26
     simp [-guardE_b, -Is_at, -Is_at', -Ls_at, -Ls_at', unk, unA, unE, unT, unC, flat, eL, eI, allInts, eP_Cat, eP_Fn, eP_SF, Cat.cells, Fn.cells, SF.cells, a26]
     repeat (with_reducible refine And.intro ?_ ?_; · first | assumption | omega | (simp; done) | (simp; omega) | simp_all)
     refine hK _ ?_
     clear hK K
     refine bn ?_
     refine tn ?_
     refine w_weak (st' := ⟨[(2, .adr 0 0 0), (3, .adr 1 0 0), (4, .adr 2 0 0), (5, .adr 3 0 0), (7, .val (.int .i64 s21.2))], [(0, .mix 12 [(Fn.cells true k_)]), (1, .mix 7 [(SF.cells true g_)]), (2, .mix 7 [[.val (.int .i64 0), .val (.slice none 0 0), .val (.slice none 0 0), .val (.slice none 0 0), .val (.slice none 0 0), .val (.slice none 0 0), .val (.slice none 0 0)]]), (3, .mix 7 [[.val (.int .i64 v1.n), .own 4 0 v1.fr.length, .own 5 0 v1.to.length, .own 6 0 v1.id.length, .own 7 0 v1.cs.length, .own 8 0 b2.length, .own 9 0 ((s21.1 ++ [v25]).length)]]), (4, .row 1 (Is v1.fr)), (5, .row 1 (Is v1.to)), (6, .row 1 (Is v1.id)), (7, .row 1 (Ls v1.cs)), (8, .row 1 (Is b2)), (9, .row 1 (Ls (s21.1 ++ [v25])))], 10⟩) (Wk.r1 [(0, 0), (1, 1), (2, 2), (3, 3), (4, 4), (5, 5), (6, 6), (7, 7), (8, 8), (12, 9)] (by simp [hP, hhOk, back, Cat.cells, Fn.cells, SF.cells, IA, I1, LA, L1, BA, B1, EA, E1, E2, eB, eI, eL])) ?_
     refine w_run mo (by rw [hN]; decide) fun K hK => ?_
     replace h := ass_some h
     obtain ⟨a27, h⟩ := h
     simp [-guardE_b, -Is_at, -Is_at', -Ls_at, -Ls_at', eL, eI, allInts, eP_Cat, eP_Fn, eP_SF, Cat.cells, Fn.cells, SF.cells, wrap_id a27]
     repeat (with_reducible refine And.intro ?_ ?_; · first | assumption | omega | (simp; done) | (simp; omega) | simp_all)
     refine hK _ ?_
     clear hK K
     cases h
     exact rn (s' := (s21.1 ++ [v25], s21.2 + 1)) hk21 (Wk.r1 [(0, 0), (1, 1), (2, 2), (3, 3), (4, 4), (5, 5), (6, 6), (7, 7), (8, 8), (9, 9)] (by simp [hP, hhOk, back, Cat.cells, Fn.cells, SF.cells, IA, I1, LA, L1, BA, B1, EA, E1, E2, eB, eI, eL]))
   have g22 : ¬ (s21.2 < (k_.ar.length : Int)) := by first | simpa using g | (simp at g; exact g) | (simp at g; omega)
   clear g
   replace h := if_r g22 h
   refine w_exit ?_
   refine tx ?_
   refine lx ?_
   refine bh ?_
   cases h
   exact jn (b := s21.1) hk21 (Wk.r1 [(2, 0), (3, 1), (4, 2), (5, 3), (6, 4), (7, 5), (8, 6), (9, 7)] (by simp [hP, hhOk, back, Cat.cells, Fn.cells, SF.cells, IA, I1, LA, L1, BA, B1, EA, E1, E2, eB, eI, eL]))
 intro b14 hb14
 have h := h14
 rw [← hb14] at h
 clear h14
 try dsimp only at h
 refine w_seq ?_
 refine w_run mo (by rw [hN]; decide) fun K hK => ?_
 simp [-guardE_b, -Is_at, -Is_at', -Ls_at, -Ls_at', eL, eI, allInts, eP_Cat, eP_Fn, eP_SF, Cat.cells, Fn.cells, SF.cells]
 repeat (with_reducible refine And.intro ?_ ?_; · first | assumption | omega | (simp; done) | (simp; omega) | simp_all)
 refine hK _ ?_
 clear hK K
 refine tn ?_
 refine w_weak (st' := ⟨[(4, .adr 0 0 0)], [(0, .mix 7 [[.val (.int .i64 v1.n), .own 1 0 v1.fr.length, .own 2 0 v1.to.length, .own 3 0 v1.id.length, .own 4 0 v1.cs.length, .own 5 0 b2.length, .own 6 0 b14.length]]), (1, .row 1 (Is v1.fr)), (2, .row 1 (Is v1.to)), (3, .row 1 (Is v1.id)), (4, .row 1 (Ls v1.cs)), (5, .row 1 (Is b2)), (6, .row 1 (Ls b14))], 7⟩) (Wk.r1 [(0, 0), (2, 1), (3, 2), (4, 3), (5, 4), (6, 5), (7, 6)] (by simp [hP, hhOk, back, Cat.cells, Fn.cells, SF.cells, IA, I1, LA, L1, BA, B1, EA, E1, E2, eB, eI, eL])) ?_
 refine w_ret ?_
 have hr := Option.some.inj h
 rw [← hr]
 refine ⟨_, (.cell tf_94 rfl rfl rfl (by simp) (by simp) .nil), ?_⟩
 refine ⟨(.agg rfl .nil), [.val (.int .i64 v1.n), .lst true 1 (Is v1.fr), .lst true 1 (Is v1.to), .lst true 1 (Is v1.id), .lst true 1 (Ls v1.cs), .lst true 1 (Is b2), .lst true 1 (Ls b14)], [1, 2, 3, 4, 5, 6], by simp [Cat.cells, Fn.cells, SF.cells, IA, I1, LA, L1, BA, B1, EA, E1, E2, eB, eI, eL], by simp, (UpL.refl _)⟩
end Go.Vc.T

set_option maxRecDepth 100000
set_option linter.unusedSimpArgs false
set_option linter.unusedVariables false
namespace Go.Vc.T
open Go Go.Vc Go.Proofs
noncomputable def s_s_l23Map (k_ : Fn) (m_ : SM) : Option SM :=
 (loopF (σ := List (List Int) × Int) (ε := List (List Int)) (fun s7 =>
   if s7.2 < (k_.ob.length : Int) then
     ass (0 ≤ s7.2 ∧ s7.2 < (k_.ob.length : Int)) <|
     ass (0 ≤ ix k_.ob s7.2 ∧ ix k_.ob s7.2 < (m_.p.length : Int)) <|
     ass ((s7.1 ++ [rx m_.p (ix k_.ob s7.2)]).length ≤ 1073741824) <|
     ass (B64 (s7.2 + 1)) <|
     some (Ctl.next (s7.1 ++ [rx m_.p (ix k_.ob s7.2)], s7.2 + 1))
   else
     some (Ctl.ret s7.1)) fuel ([], 0)).bind fun b1 =>
 (s_s_l23Along k_ m_.s).bind fun v13 =>
 (s_s_l23Along k_ m_.t).bind fun v14 =>
 (s_s_l19Make v13 v14 b1).bind fun v15 =>
 some v15
set_option maxHeartbeats 4000000 in
theorem w_s_l23Map (k_ : Fn) (m_ : SM) (r : SM) (h : s_s_l23Map k_ m_ = some r) : Contract Try.prog 156 [.agg (k_.cells true), .agg (m_.cells true)] (.agg (r.cells true)) := by
 refine contract_introG (rvs := [.cell 4 96]) (rs := [.agg (r.cells true)]) Try.func156 rfl rfl rfl rfl (by simp [Try.f156]) fun F hN hP => ?_
 unfold s_s_l23Map at h
 refine w_seq ?_
 refine w_run mo (by rw [hN]; decide) fun K hK => ?_
 simp [-guardE_b, -Is_at, -Is_at', -Ls_at, -Ls_at', eL, eI, allInts, eP_Fn, eP_SF, eP_SM, Fn.cells, SF.cells, SM.cells]
 repeat (with_reducible refine And.intro ?_ ?_; · first | assumption | omega | (simp; done) | (simp; omega) | simp_all)
 refine hK _ ?_
 clear hK K
 refine tn ?_
 refine w_weak (st' := ⟨[(2, .adr 0 0 0), (3, .adr 1 0 0), (4, .adr 2 0 0)], [(0, .mix 12 [(Fn.cells true k_)]), (1, .mix 15 [(SM.cells true m_)]), (2, .mix 15 [[.val (.int .i64 0), .val (.slice none 0 0), .val (.slice none 0 0), .val (.slice none 0 0), .val (.slice none 0 0), .val (.slice none 0 0), .val (.slice none 0 0), .val (.int .i64 0), .val (.slice none 0 0), .val (.slice none 0 0), .val (.slice none 0 0), .val (.slice none 0 0), .val (.slice none 0 0), .val (.slice none 0 0), .val (.slice none 0 0)]])], 3⟩) (Wk.r1 [(0, 0), (1, 1), (2, 2)] (by simp [hP, hhOk, back, Fn.cells, SF.cells, SM.cells, IA, I1, LA, L1, BA, B1, EA, E1, E2, eB, eI, eL])) ?_
 refine w_seq ?_
 refine w_run mo (by rw [hN]; decide) fun K hK => ?_
 simp [-guardE_b, -Is_at, -Is_at', -Ls_at, -Ls_at', eL, eI, allInts, eP_Fn, eP_SF, eP_SM, Fn.cells, SF.cells, SM.cells]
 repeat (with_reducible refine And.intro ?_ ?_; · first | assumption | omega | (simp; done) | (simp; omega) | simp_all)
 refine hK _ ?_
 clear hK K
 refine tn ?_
 refine w_weak (st' := ⟨[(2, .adr 0 0 0), (3, .adr 1 0 0), (4, .adr 2 0 0), (5, .own 3 0 0)], [(0, .mix 12 [(Fn.cells true k_)]), (1, .mix 15 [(SM.cells true m_)]), (2, .mix 15 [[.val (.int .i64 0), .val (.slice none 0 0), .val (.slice none 0 0), .val (.slice none 0 0), .val (.slice none 0 0), .val (.slice none 0 0), .val (.slice none 0 0), .val (.int .i64 0), .val (.slice none 0 0), .val (.slice none 0 0), .val (.slice none 0 0), .val (.slice none 0 0), .val (.slice none 0 0), .val (.slice none 0 0), .val (.slice none 0 0)]]), (3, .mix 1 [])], 4⟩) (Wk.r1 [(0, 0), (1, 1), (2, 2), (3, 3)] (by simp [hP, hhOk, back, Fn.cells, SF.cells, SM.cells, IA, I1, LA, L1, BA, B1, EA, E1, E2, eB, eI, eL])) ?_
 refine w_seq ?_
 refine w_seq ?_
 refine w_run mo (by rw [hN]; decide) fun K hK => ?_
 simp [-guardE_b, -Is_at, -Is_at', -Ls_at, -Ls_at', eL, eI, allInts, eP_Fn, eP_SF, eP_SM, Fn.cells, SF.cells, SM.cells]
 repeat (with_reducible refine And.intro ?_ ?_; · first | assumption | omega | (simp; done) | (simp; omega) | simp_all)
 refine hK _ ?_
 clear hK K
 refine tn ?_
 refine w_weak (st' := ⟨[(2, .adr 0 0 0), (3, .adr 1 0 0), (4, .adr 2 0 0), (5, .own 3 0 0), (6, .val (.int .i64 0))], [(0, .mix 12 [(Fn.cells true k_)]), (1, .mix 15 [(SM.cells true m_)]), (2, .mix 15 [[.val (.int .i64 0), .val (.slice none 0 0), .val (.slice none 0 0), .val (.slice none 0 0), .val (.slice none 0 0), .val (.slice none 0 0), .val (.slice none 0 0), .val (.int .i64 0), .val (.slice none 0 0), .val (.slice none 0 0), .val (.slice none 0 0), .val (.slice none 0 0), .val (.slice none 0 0), .val (.slice none 0 0), .val (.slice none 0 0)]]), (3, .mix 1 [])], 4⟩) (Wk.r1 [(0, 0), (1, 1), (2, 2), (3, 3)] (by simp [hP, hhOk, back, Fn.cells, SF.cells, SM.cells, IA, I1, LA, L1, BA, B1, EA, E1, E2, eB, eI, eL])) ?_
 replace h := bind_some h
 obtain ⟨e1, h, h1⟩ := h
 refine w_joinT (fun b1 : List (List Int) => ⟨[(2, .adr 0 0 0), (3, .adr 1 0 0), (4, .adr 2 0 0), (5, .own 3 0 b1.length)], [(0, .mix 12 [(Fn.cells true k_)]), (1, .mix 15 [(SM.cells true m_)]), (2, .mix 15 [[.val (.int .i64 0), .val (.slice none 0 0), .val (.slice none 0 0), .val (.slice none 0 0), .val (.slice none 0 0), .val (.slice none 0 0), .val (.slice none 0 0), .val (.int .i64 0), .val (.slice none 0 0), .val (.slice none 0 0), .val (.slice none 0 0), .val (.slice none 0 0), .val (.slice none 0 0), .val (.slice none 0 0), .val (.slice none 0 0)]]), (3, .mix 1 (Ls b1))], 4⟩) (fun b1 => b1 = e1) ?_ ?_
 · refine w_block ?_
   refine w_loopF h (fun s7 : List (List Int) × Int => ⟨[(2, .adr 0 0 0), (3, .adr 1 0 0), (4, .adr 2 0 0), (5, .own 3 0 s7.1.length), (6, .val (.int .i64 s7.2))], [(0, .mix 12 [(Fn.cells true k_)]), (1, .mix 15 [(SM.cells true m_)]), (2, .mix 15 [[.val (.int .i64 0), .val (.slice none 0 0), .val (.slice none 0 0), .val (.slice none 0 0), .val (.slice none 0 0), .val (.slice none 0 0), .val (.slice none 0 0), .val (.int .i64 0), .val (.slice none 0 0), .val (.slice none 0 0), .val (.slice none 0 0), .val (.slice none 0 0), .val (.slice none 0 0), .val (.slice none 0 0), .val (.slice none 0 0)]]), (3, .mix 1 (Ls s7.1))], 4⟩) (Wk.r1 [(0, 0), (1, 1), (2, 2), (3, 3)] (by simp [hP, hhOk, back, Fn.cells, SF.cells, SM.cells, IA, I1, LA, L1, BA, B1, EA, E1, E2, eB, eI, eL])) ?_
   clear h
   intro k7 s7 c7 h hk7
   refine w_seq ?_
   refine w_seq ?_
   refine w_run mo (by rw [hN]; decide) fun K hK => ?_
   simp [-guardE_b, -Is_at, -Is_at', -Ls_at, -Ls_at', eL, eI, allInts, eP_Fn, eP_SF, eP_SM, Fn.cells, SF.cells, SM.cells]
   repeat (with_reducible refine And.intro ?_ ?_; · first | assumption | omega | (simp; done) | (simp; omega) | simp_all)
   refine hK _ ?_
   clear hK K
   refine tn ?_
   refine w_weak (st' := ⟨[(2, .adr 0 0 0), (3, .adr 1 0 0), (4, .adr 2 0 0), (5, .own 3 0 s7.1.length), (6, .val (.int .i64 s7.2)), (12, .val (.bool (decide (s7.2 < (k_.ob.length : Int)))))], [(0, .mix 12 [(Fn.cells true k_)]), (1, .mix 15 [(SM.cells true m_)]), (2, .mix 15 [[.val (.int .i64 0), .val (.slice none 0 0), .val (.slice none 0 0), .val (.slice none 0 0), .val (.slice none 0 0), .val (.slice none 0 0), .val (.slice none 0 0), .val (.int .i64 0), .val (.slice none 0 0), .val (.slice none 0 0), .val (.slice none 0 0), .val (.slice none 0 0), .val (.slice none 0 0), .val (.slice none 0 0), .val (.slice none 0 0)]]), (3, .mix 1 (Ls s7.1))], 4⟩) (Wk.r1 [(0, 0), (1, 1), (2, 2), (3, 3)] (by simp [hP, hhOk, back, Fn.cells, SF.cells, SM.cells, IA, I1, LA, L1, BA, B1, EA, E1, E2, eB, eI, eL])) ?_
   refine w_cond rfl (fun g => ?_) fun g => ?_
   · have g8 : s7.2 < (k_.ob.length : Int) := by first | simpa using g | (simp at g; exact g) | (simp at g; omega)
     clear g
     replace h := if_l g8 h
     refine w_skip ?_
     refine tn ?_
     refine w_seq ?_
     refine w_block ?_
     refine w_runX [26] mo (by rw [hN]; decide) fun K hK => ?_
     replace h := ass_some h
     obtain ⟨a9, h⟩ := h
     replace h := ass_some h
     obtain ⟨a10, h⟩ := h
     replace h := ass_some h
     obtain ⟨a11, h⟩ := h
     try simp only [List.length_append, List.length_cons, List.length_nil] at a11
     simp [-guardE_b, -Is_at, -Is_at', -Ls_at, -Ls_at', eL, eI, allInts, eP_Fn, eP_SF, eP_SM, Fn.cells, SF.cells, SM.cells, at_I a9, at_L a10, a11]
     repeat (with_reducible refine And.intro ?_ ?_; · first | assumption | omega | (simp; done) | (simp; omega) | simp_all)
     refine hK _ ?_
     clear hK K
     refine bn ?_
     refine tn ?_
     refine w_weak (st' := ⟨[(2, .adr 0 0 0), (3, .adr 1 0 0), (4, .adr 2 0 0), (5, .own 3 0 ((s7.1 ++ [rx m_.p (ix k_.ob s7.2)]).length)), (6, .val (.int .i64 s7.2))], [(0, .mix 12 [(Fn.cells true k_)]), (1, .mix 15 [(SM.cells true m_)]), (2, .mix 15 [[.val (.int .i64 0), .val (.slice none 0 0), .val (.slice none 0 0), .val (.slice none 0 0), .val (.slice none 0 0), .val (.slice none 0 0), .val (.slice none 0 0), .val (.int .i64 0), .val (.slice none 0 0), .val (.slice none 0 0), .val (.slice none 0 0), .val (.slice none 0 0), .val (.slice none 0 0), .val (.slice none 0 0), .val (.slice none 0 0)]]), (3, .mix 1 (Ls (s7.1 ++ [rx m_.p (ix k_.ob s7.2)])))], 4⟩) (Wk.r1 [(0, 0), (1, 1), (2, 2), (5, 3)] (by simp [hP, hhOk, back, Fn.cells, SF.cells, SM.cells, IA, I1, LA, L1, BA, B1, EA, E1, E2, eB, eI, eL])) ?_
     refine w_run mo (by rw [hN]; decide) fun K hK => ?_
     replace h := ass_some h
     obtain ⟨a12, h⟩ := h
     simp [-guardE_b, -Is_at, -Is_at', -Ls_at, -Ls_at', eL, eI, allInts, eP_Fn, eP_SF, eP_SM, Fn.cells, SF.cells, SM.cells, wrap_id a12]
     repeat (with_reducible refine And.intro ?_ ?_; · first | assumption | omega | (simp; done) | (simp; omega) | simp_all)
     refine hK _ ?_
     clear hK K
     cases h
     exact rn (s' := (s7.1 ++ [rx m_.p (ix k_.ob s7.2)], s7.2 + 1)) hk7 (Wk.r1 [(0, 0), (1, 1), (2, 2), (3, 3)] (by simp [hP, hhOk, back, Fn.cells, SF.cells, SM.cells, IA, I1, LA, L1, BA, B1, EA, E1, E2, eB, eI, eL]))
   have g8 : ¬ (s7.2 < (k_.ob.length : Int)) := by first | simpa using g | (simp at g; exact g) | (simp at g; omega)
   clear g
   replace h := if_r g8 h
   refine w_exit ?_
   refine tx ?_
   refine lx ?_
   refine bh ?_
   cases h
   exact jn (b := s7.1) hk7 (Wk.r1 [(0, 0), (1, 1), (2, 2), (3, 3)] (by simp [hP, hhOk, back, Fn.cells, SF.cells, SM.cells, IA, I1, LA, L1, BA, B1, EA, E1, E2, eB, eI, eL]))
 intro b1 hb1
 have h := h1
 rw [← hb1] at h
 clear h1
 try dsimp only at h
 refine w_seq ?_
 refine w_run mo (by rw [hN]; decide) fun K hK => ?_
 simp [-guardE_b, -Is_at, -Is_at', -Ls_at, -Ls_at', eL, eI, allInts, eP_Fn, eP_SF, eP_SM, Fn.cells, SF.cells, SM.cells]
 repeat (with_reducible refine And.intro ?_ ?_; · first | assumption | omega | (simp; done) | (simp; omega) | simp_all)
 replace h := bind_some h
 obtain ⟨v13, hv13, h⟩ := h
 refine callA_intro (w_s_l23Along _ _ v13 hv13) (.cons (.aggL (.cons .val (.cons .lst (.cons .lst (.cons .lst (.cons .lst (.cons .val (.cons .lst (.cons .lst (.cons .lst (.cons .lst (.cons .lst (.cons .lst .nil))))))))))))) (.cons (.aggL (.cons .val (.cons .lst (.cons .lst (.cons .lst (.cons .lst (.cons .lst (.cons .lst .nil)))))))) .nil)) ?_
 simp [-guardE_b, -Is_at, -Is_at', -Ls_at, -Ls_at', unk, unA, unE, unT, unC, flat, eL, eI, allInts, eP_Fn, eP_SF, eP_SM, Fn.cells, SF.cells, SM.cells]
 repeat (with_reducible refine And.intro ?_ ?_; · first | assumption | omega | (simp; done) | (simp; omega) | simp_all)
 replace h := bind_some h
 obtain ⟨v14, hv14, h⟩ := h
 refine callA_intro (w_s_l23Along _ _ v14 hv14) (.cons (.aggL (.cons .val (.cons .lst (.cons .lst (.cons .lst (.cons .lst (.cons .val (.cons .lst (.cons .lst (.cons .lst (.cons .lst (.cons .lst (.cons .lst .nil))))))))))))) (.cons (.aggL (.cons .val (.cons .lst (.cons .lst (.cons .lst (.cons .lst (.cons .lst (.cons .lst .nil)))))))) .nil)) ?_
 simp [-guardE_b, -Is_at, -Is_at', -Ls_at, -Ls_at', unk, unA, unE, unT, unC, flat, eL, eI, allInts, eP_Fn, eP_SF, eP_SM, Fn.cells, SF.cells, SM.cells]
 repeat (with_reducible refine And.intro ?_ ?_; · first | assumption | omega | (simp; done) | (simp; omega) | simp_all)
 replace h := bind_some h
 obtain ⟨v15, hv15, h⟩ := h
 refine callA_intro (w_s_l19Make _ _ _ v15 hv15) (.cons (.aggL (.cons .val (.cons (.whole (by simp) (by simp) (by simp)) (.cons (.whole (by simp) (by simp) (by simp)) (.cons (.whole (by simp) (by simp) (by simp)) (.cons (.whole (by simp) (by simp) (by simp)) (.cons (.whole (by simp) (by simp) (by simp)) (.cons (.whole (by simp) (by simp) (by simp)) .nil)))))))) (.cons (.aggL (.cons .val (.cons (.whole (by simp) (by simp) (by simp)) (.cons (.whole (by simp) (by simp) (by simp)) (.cons (.whole (by simp) (by simp) (by simp)) (.cons (.whole (by simp) (by simp) (by simp)) (.cons (.whole (by simp) (by simp) (by simp)) (.cons (.whole (by simp) (by simp) (by simp)) .nil)))))))) (.cons (.smix rfl (by simp) (roRows_map (by simp [Fn.cells, SF.cells, SM.cells, eP_Fn, eP_SF, eP_SM]))) .nil))) ?_
 simp [-guardE_b, -Is_at, -Is_at', -Ls_at, -Ls_at', unk, unA, unE, unT, unC, flat, eL, eI, allInts, eP_Fn, eP_SF, eP_SM, Fn.cells, SF.cells, SM.cells]
 repeat (with_reducible refine And.intro ?_ ?_; · first | assumption | omega | (simp; done) | (simp; omega) | simp_all)
 refine hK _ ?_
 clear hK K
 refine tn ?_
 refine w_weak (st' := ⟨[(4, .adr 0 0 0)], [(0, .mix 15 [[.val (.int .i64 v15.s.s.n), .own 1 0 v15.s.s.fr.length, .own 2 0 v15.s.s.to.length, .own 3 0 v15.s.s.id.length, .own 4 0 v15.s.s.cs.length, .own 5 0 v15.s.sz.length, .own 6 0 v15.s.ac.length, .val (.int .i64 v15.t.s.n), .own 7 0 v15.t.s.fr.length, .own 8 0 v15.t.s.to.length, .own 9 0 v15.t.s.id.length, .own 10 0 v15.t.s.cs.length, .own 11 0 v15.t.sz.length, .own 12 0 v15.t.ac.length, .own 13 0 v15.p.length]]), (1, .row 1 (Is v15.s.s.fr)), (2, .row 1 (Is v15.s.s.to)), (3, .row 1 (Is v15.s.s.id)), (4, .row 1 (Ls v15.s.s.cs)), (5, .row 1 (Is v15.s.sz)), (6, .row 1 (Ls v15.s.ac)), (7, .row 1 (Is v15.t.s.fr)), (8, .row 1 (Is v15.t.s.to)), (9, .row 1 (Is v15.t.s.id)), (10, .row 1 (Ls v15.t.s.cs)), (11, .row 1 (Is v15.t.sz)), (12, .row 1 (Ls v15.t.ac)), (13, .row 1 (Ls v15.p))], 14⟩) (Wk.r1 [(2, 0), (19, 1), (20, 2), (21, 3), (22, 4), (23, 5), (24, 6), (26, 7), (27, 8), (28, 9), (29, 10), (30, 11), (31, 12), (32, 13)] (by simp [hP, hhOk, back, Fn.cells, SF.cells, SM.cells, IA, I1, LA, L1, BA, B1, EA, E1, E2, eB, eI, eL])) ?_
 refine w_ret ?_
 have hr := Option.some.inj h
 rw [← hr]
 refine ⟨_, (.cell tf_96 rfl rfl rfl (by simp) (by simp) .nil), ?_⟩
 refine ⟨(.agg rfl .nil), [.val (.int .i64 v15.s.s.n), .lst true 1 (Is v15.s.s.fr), .lst true 1 (Is v15.s.s.to), .lst true 1 (Is v15.s.s.id), .lst true 1 (Ls v15.s.s.cs), .lst true 1 (Is v15.s.sz), .lst true 1 (Ls v15.s.ac), .val (.int .i64 v15.t.s.n), .lst true 1 (Is v15.t.s.fr), .lst true 1 (Is v15.t.s.to), .lst true 1 (Is v15.t.s.id), .lst true 1 (Ls v15.t.s.cs), .lst true 1 (Is v15.t.sz), .lst true 1 (Ls v15.t.ac), .lst true 1 (Ls v15.p)], [1, 2, 3, 4, 5, 6, 7, 8, 9, 10, 11, 12, 13], by simp [Fn.cells, SF.cells, SM.cells, IA, I1, LA, L1, BA, B1, EA, E1, E2, eB, eI, eL], by simp, (UpL.refl _)⟩
end Go.Vc.T

set_option maxRecDepth 100000
set_option linter.unusedSimpArgs false
set_option linter.unusedVariables false
namespace Go.Vc.T
open Go Go.Vc Go.Proofs
noncomputable def s_s_MapAlong (k_ : Fn) (m_ : SM) : Option (SM × Int) :=
 (
   (s_s_l06Is k_).bind fun v2 =>
   if ¬ (v2 = true) then
     some true
   else
     (s_s_l19IsMap m_).bind fun v4 =>
     some (!v4) : Option (Bool)).bind fun b1 =>
 if b1 = true then
   some ((⟨(⟨(⟨0, [], [], [], []⟩ : Cat), [], []⟩ : SF), (⟨(⟨0, [], [], [], []⟩ : Cat), [], []⟩ : SF), []⟩ : SM), 1)
 else
   (s_s_l02Same m_.s.s k_.t).bind fun v6 =>
   if ¬ (v6 = true) then
     some ((⟨(⟨(⟨0, [], [], [], []⟩ : Cat), [], []⟩ : SF), (⟨(⟨0, [], [], [], []⟩ : Cat), [], []⟩ : SF), []⟩ : SM), 5)
   else
     (s_s_l23Map k_ m_).bind fun v8 =>
     some (v8, 0)
set_option maxHeartbeats 4000000 in
theorem w_s_MapAlong (k_ : Fn) (m_ : SM) (r : SM × Int) (h : s_s_MapAlong k_ m_ = some r) : Contract Try.prog 68 [.agg (k_.cells true), .agg (m_.cells true)] (.tup [.agg (r.1.cells true), .val (.int .i64 r.2)]) := by
 refine contract_introG (rvs := [.cell 4 96, .tmp 5]) (rs := [.agg (r.1.cells true), .val (.int .i64 r.2)]) Try.func68 rfl rfl rfl rfl (by simp [Try.f68]) fun F hN hP => ?_
 unfold s_s_MapAlong at h
 refine w_seq ?_
 refine w_run mo (by rw [hN]; decide) fun K hK => ?_
 simp [-guardE_b, -Is_at, -Is_at', -Ls_at, -Ls_at', eL, eI, allInts, eP_Cat, eP_Fn, eP_SM, Cat.cells, Fn.cells, SM.cells]
 repeat (with_reducible refine And.intro ?_ ?_; · first | assumption | omega | (simp; done) | (simp; omega) | simp_all)
 refine hK _ ?_
 clear hK K
 refine tn ?_
 refine w_weak (st' := ⟨[(2, .adr 0 0 0), (3, .adr 1 0 0), (4, .adr 2 0 0)], [(0, .mix 12 [(Fn.cells true k_)]), (1, .mix 15 [(SM.cells true m_)]), (2, .mix 15 [[.val (.int .i64 0), .val (.slice none 0 0), .val (.slice none 0 0), .val (.slice none 0 0), .val (.slice none 0 0), .val (.slice none 0 0), .val (.slice none 0 0), .val (.int .i64 0), .val (.slice none 0 0), .val (.slice none 0 0), .val (.slice none 0 0), .val (.slice none 0 0), .val (.slice none 0 0), .val (.slice none 0 0), .val (.slice none 0 0)]])], 3⟩) (Wk.r1 [(0, 0), (1, 1), (2, 2)] (by simp [hP, hhOk, back, Cat.cells, Fn.cells, SM.cells, IA, I1, LA, L1, BA, B1, EA, E1, E2, eB, eI, eL])) ?_
 refine w_seq ?_
 refine w_seq ?_
 replace h := bind_some h
 obtain ⟨e1, h, h1⟩ := h
 refine w_joinT (fun b1 : Bool => ⟨[(2, .adr 0 0 0), (3, .adr 1 0 0), (4, .adr 2 0 0), (13, .val (.bool b1))], [(0, .mix 12 [(Fn.cells true k_)]), (1, .mix 15 [(SM.cells true m_)]), (2, .mix 15 [[.val (.int .i64 0), .val (.slice none 0 0), .val (.slice none 0 0), .val (.slice none 0 0), .val (.slice none 0 0), .val (.slice none 0 0), .val (.slice none 0 0), .val (.int .i64 0), .val (.slice none 0 0), .val (.slice none 0 0), .val (.slice none 0 0), .val (.slice none 0 0), .val (.slice none 0 0), .val (.slice none 0 0), .val (.slice none 0 0)]])], 3⟩) (fun b1 => b1 = e1) ?_ ?_
 · refine w_run mo (by rw [hN]; decide) fun K hK => ?_
   simp [-guardE_b, -Is_at, -Is_at', -Ls_at, -Ls_at', eL, eI, allInts, eP_Cat, eP_Fn, eP_SM, Cat.cells, Fn.cells, SM.cells]
   repeat (with_reducible refine And.intro ?_ ?_; · first | assumption | omega | (simp; done) | (simp; omega) | simp_all)
   replace h := bind_some h
   obtain ⟨v2, hv2, h⟩ := h
   refine callA_intro (w_s_l06Is _ v2 hv2) (.cons (.aggL (.cons .val (.cons .lst (.cons .lst (.cons .lst (.cons .lst (.cons .val (.cons .lst (.cons .lst (.cons .lst (.cons .lst (.cons .lst (.cons .lst .nil))))))))))))) .nil) ?_
   simp [-guardE_b, -Is_at, -Is_at', -Ls_at, -Ls_at', unk, unA, unE, unT, unC, flat, eL, eI, allInts, eP_Cat, eP_Fn, eP_SM, Cat.cells, Fn.cells, SM.cells]
   repeat (with_reducible refine And.intro ?_ ?_; · first | assumption | omega | (simp; done) | (simp; omega) | simp_all)
   refine guard_intro (fun g => ?_) (fun g => ?_)
   · have g3 : ¬ (¬ (v2 = true)) := by first | simpa using g | (simp at g; exact g) | (simp at g; omega)
     clear g
     replace h := if_r g3 h
     simp [-guardE_b, -Is_at, -Is_at', -Ls_at, -Ls_at', eL, eI, allInts, eP_Cat, eP_Fn, eP_SM, Cat.cells, Fn.cells, SM.cells]
     repeat (with_reducible refine And.intro ?_ ?_; · first | assumption | omega | (simp; done) | (simp; omega) | simp_all)
     replace h := bind_some h
     obtain ⟨v4, hv4, h⟩ := h
     refine callA_intro (w_s_l19IsMap _ v4 hv4) (.cons (.aggL (.cons .val (.cons .lst (.cons .lst (.cons .lst (.cons .lst (.cons .lst (.cons .lst (.cons .val (.cons .lst (.cons .lst (.cons .lst (.cons .lst (.cons .lst (.cons .lst (.cons .lst .nil)))))))))))))))) .nil) ?_
     simp [-guardE_b, -Is_at, -Is_at', -Ls_at, -Ls_at', unk, unA, unE, unT, unC, flat, eL, eI, allInts, eP_Cat, eP_Fn, eP_SM, Cat.cells, Fn.cells, SM.cells]
     repeat (with_reducible refine And.intro ?_ ?_; · first | assumption | omega | (simp; done) | (simp; omega) | simp_all)
     refine hK _ ?_
     exact jn (b := !v4) (Option.some.inj h) (Wk.r1 [(0, 0), (1, 1), (2, 2)] (by simp [hP, hhOk, back, Cat.cells, Fn.cells, SM.cells, IA, I1, LA, L1, BA, B1, EA, E1, E2, eB, eI, eL]))
   have g3 : ¬ (v2 = true) := by first | simpa using g | (simp at g; exact g) | (simp at g; omega)
   clear g
   replace h := if_l g3 h
   simp [-guardE_b, -Is_at, -Is_at', -Ls_at, -Ls_at', eL, eI, allInts, eP_Cat, eP_Fn, eP_SM, Cat.cells, Fn.cells, SM.cells]
   repeat (with_reducible refine And.intro ?_ ?_; · first | assumption | omega | (simp; done) | (simp; omega) | simp_all)
   refine hK _ ?_
   exact jn (b := true) (Option.some.inj h) (Wk.r1 [(0, 0), (1, 1), (2, 2)] (by simp [hP, hhOk, back, Cat.cells, Fn.cells, SM.cells, IA, I1, LA, L1, BA, B1, EA, E1, E2, eB, eI, eL]))
 intro b1 hb1
 have h := h1
 rw [← hb1] at h
 clear h1
 try dsimp only at h
 refine w_cond rfl (fun g => ?_) fun g => ?_
 · have g5 : b1 = true := by first | simpa using g | (simp at g; exact g) | (simp at g; omega)
   clear g
   replace h := if_l g5 h
   refine w_seq ?_
   refine w_run mo (by rw [hN]; decide) fun K hK => ?_
   simp [-guardE_b, -Is_at, -Is_at', -Ls_at, -Ls_at', eL, eI, allInts, eP_Cat, eP_Fn, eP_SM, Cat.cells, Fn.cells, SM.cells]
   repeat (with_reducible refine And.intro ?_ ?_; · first | assumption | omega | (simp; done) | (simp; omega) | simp_all)
   refine hK _ ?_
   clear hK K
   refine tn ?_
   refine w_weak (st' := ⟨[(4, .adr 0 0 0), (5, .val (.int .i64 1))], [(0, .mix 15 [[.val (.int .i64 0), .val (.slice none 0 0), .val (.slice none 0 0), .val (.slice none 0 0), .val (.slice none 0 0), .val (.slice none 0 0), .val (.slice none 0 0), .val (.int .i64 0), .val (.slice none 0 0), .val (.slice none 0 0), .val (.slice none 0 0), .val (.slice none 0 0), .val (.slice none 0 0), .val (.slice none 0 0), .val (.slice none 0 0)]])], 1⟩) (Wk.r1 [(2, 0)] (by simp [hP, hhOk, back, Cat.cells, Fn.cells, SM.cells, IA, I1, LA, L1, BA, B1, EA, E1, E2, eB, eI, eL])) ?_
   refine w_ret ?_
   refine tr ?_
   have hr := Option.some.inj h
   rw [← hr]
   refine ⟨_, (.cell tf_96 rfl rfl rfl (by simp) (by simp) (.tmp .nil)), ?_⟩
   refine ⟨(.agg rfl (.one rfl rfl .nil)), [.val (.int .i64 0), .val (.slice none 0 0), .val (.slice none 0 0), .val (.slice none 0 0), .val (.slice none 0 0), .val (.slice none 0 0), .val (.slice none 0 0), .val (.int .i64 0), .val (.slice none 0 0), .val (.slice none 0 0), .val (.slice none 0 0), .val (.slice none 0 0), .val (.slice none 0 0), .val (.slice none 0 0), .val (.slice none 0 0), .val (.int .i64 1)], [], by simp [Cat.cells, Fn.cells, SM.cells, IA, I1, LA, L1, BA, B1, EA, E1, E2, eB, eI, eL], by simp, (.cons .refl (.cons .nil (.cons .nil (.cons .nil (.cons .nil (.cons .nil (.cons .nil (.cons .refl (.cons .nil (.cons .nil (.cons .nil (.cons .nil (.cons .nil (.cons .nil (.cons .nil (.cons .refl .nil))))))))))))))))⟩
 have g5 : ¬ (b1 = true) := by first | simpa using g | (simp at g; exact g) | (simp at g; omega)
 clear g
 replace h := if_r g5 h
 refine w_skip ?_
 refine tn ?_
 refine w_seq ?_
 refine w_seq ?_
 refine w_run mo (by rw [hN]; decide) fun K hK => ?_
 simp [-guardE_b, -Is_at, -Is_at', -Ls_at, -Ls_at', eL, eI, allInts, eP_Cat, eP_Fn, eP_SM, Cat.cells, Fn.cells, SM.cells]
 repeat (with_reducible refine And.intro ?_ ?_; · first | assumption | omega | (simp; done) | (simp; omega) | simp_all)
 replace h := bind_some h
 obtain ⟨v6, hv6, h⟩ := h
 refine callA_intro (w_s_l02Same _ _ v6 hv6) (.cons (.aggL (.cons .val (.cons .lst (.cons .lst (.cons .lst (.cons .lst .nil)))))) (.cons (.aggL (.cons .val (.cons .lst (.cons .lst (.cons .lst (.cons .lst .nil)))))) .nil)) ?_
 simp [-guardE_b, -Is_at, -Is_at', -Ls_at, -Ls_at', unk, unA, unE, unT, unC, flat, eL, eI, allInts, eP_Cat, eP_Fn, eP_SM, Cat.cells, Fn.cells, SM.cells]
 repeat (with_reducible refine And.intro ?_ ?_; · first | assumption | omega | (simp; done) | (simp; omega) | simp_all)
 refine hK _ ?_
 clear hK K
 refine tn ?_
 refine w_weak (st' := ⟨[(2, .adr 0 0 0), (3, .adr 1 0 0), (4, .adr 2 0 0), (21, .val (.bool (!v6)))], [(0, .mix 12 [(Fn.cells true k_)]), (1, .mix 15 [(SM.cells true m_)]), (2, .mix 15 [[.val (.int .i64 0), .val (.slice none 0 0), .val (.slice none 0 0), .val (.slice none 0 0), .val (.slice none 0 0), .val (.slice none 0 0), .val (.slice none 0 0), .val (.int .i64 0), .val (.slice none 0 0), .val (.slice none 0 0), .val (.slice none 0 0), .val (.slice none 0 0), .val (.slice none 0 0), .val (.slice none 0 0), .val (.slice none 0 0)]])], 3⟩) (Wk.r1 [(0, 0), (1, 1), (2, 2)] (by simp [hP, hhOk, back, Cat.cells, Fn.cells, SM.cells, IA, I1, LA, L1, BA, B1, EA, E1, E2, eB, eI, eL])) ?_
 refine w_cond rfl (fun g => ?_) fun g => ?_
 · have g7 : ¬ (v6 = true) := by first | simpa using g | (simp at g; exact g) | (simp at g; omega)
   clear g
   replace h := if_l g7 h
   refine w_seq ?_
   refine w_run mo (by rw [hN]; decide) fun K hK => ?_
   simp [-guardE_b, -Is_at, -Is_at', -Ls_at, -Ls_at', eL, eI, allInts, eP_Cat, eP_Fn, eP_SM, Cat.cells, Fn.cells, SM.cells]
   repeat (with_reducible refine And.intro ?_ ?_; · first | assumption | omega | (simp; done) | (simp; omega) | simp_all)
   refine hK _ ?_
   clear hK K
   refine tn ?_
   refine w_weak (st' := ⟨[(4, .adr 0 0 0), (5, .val (.int .i64 5))], [(0, .mix 15 [[.val (.int .i64 0), .val (.slice none 0 0), .val (.slice none 0 0), .val (.slice none 0 0), .val (.slice none 0 0), .val (.slice none 0 0), .val (.slice none 0 0), .val (.int .i64 0), .val (.slice none 0 0), .val (.slice none 0 0), .val (.slice none 0 0), .val (.slice none 0 0), .val (.slice none 0 0), .val (.slice none 0 0), .val (.slice none 0 0)]])], 1⟩) (Wk.r1 [(2, 0)] (by simp [hP, hhOk, back, Cat.cells, Fn.cells, SM.cells, IA, I1, LA, L1, BA, B1, EA, E1, E2, eB, eI, eL])) ?_
   refine w_ret ?_
   refine tr ?_
   have hr := Option.some.inj h
   rw [← hr]
   refine ⟨_, (.cell tf_96 rfl rfl rfl (by simp) (by simp) (.tmp .nil)), ?_⟩
   refine ⟨(.agg rfl (.one rfl rfl .nil)), [.val (.int .i64 0), .val (.slice none 0 0), .val (.slice none 0 0), .val (.slice none 0 0), .val (.slice none 0 0), .val (.slice none 0 0), .val (.slice none 0 0), .val (.int .i64 0), .val (.slice none 0 0), .val (.slice none 0 0), .val (.slice none 0 0), .val (.slice none 0 0), .val (.slice none 0 0), .val (.slice none 0 0), .val (.slice none 0 0), .val (.int .i64 5)], [], by simp [Cat.cells, Fn.cells, SM.cells, IA, I1, LA, L1, BA, B1, EA, E1, E2, eB, eI, eL], by simp, (.cons .refl (.cons .nil (.cons .nil (.cons .nil (.cons .nil (.cons .nil (.cons .nil (.cons .refl (.cons .nil (.cons .nil (.cons .nil (.cons .nil (.cons .nil (.cons .nil (.cons .nil (.cons .refl .nil))))))))))))))))⟩
 have g7 : ¬ (¬ (v6 = true)) := by first | simpa using g | (simp at g; exact g) | (simp at g; omega)
 clear g
 replace h := if_r g7 h
 refine w_skip ?_
 refine tn ?_
 refine w_seq ?_
 refine w_run mo (by rw [hN]; decide) fun K hK => ?_
 simp [-guardE_b, -Is_at, -Is_at', -Ls_at, -Ls_at', eL, eI, allInts, eP_Cat, eP_Fn, eP_SM, Cat.cells, Fn.cells, SM.cells]
 repeat (with_reducible refine And.intro ?_ ?_; · first | assumption | omega | (simp; done) | (simp; omega) | simp_all)
 replace h := bind_some h
 obtain ⟨v8, hv8, h⟩ := h
 refine callA_intro (w_s_l23Map _ _ v8 hv8) (.cons (.aggL (.cons .val (.cons .lst (.cons .lst (.cons .lst (.cons .lst (.cons .val (.cons .lst (.cons .lst (.cons .lst (.cons .lst (.cons .lst (.cons .lst .nil))))))))))))) (.cons (.aggL (.cons .val (.cons .lst (.cons .lst (.cons .lst (.cons .lst (.cons .lst (.cons .lst (.cons .val (.cons .lst (.cons .lst (.cons .lst (.cons .lst (.cons .lst (.cons .lst (.cons .lst .nil)))))))))))))))) .nil)) ?_
 simp [-guardE_b, -Is_at, -Is_at', -Ls_at, -Ls_at', unk, unA, unE, unT, unC, flat, eL, eI, allInts, eP_Cat, eP_Fn, eP_SM, Cat.cells, Fn.cells, SM.cells]
 repeat (with_reducible refine And.intro ?_ ?_; · first | assumption | omega | (simp; done) | (simp; omega) | simp_all)
 refine hK _ ?_
 clear hK K
 refine tn ?_
 refine w_weak (st' := ⟨[(4, .adr 0 0 0), (5, .val (.int .i64 0))], [(0, .mix 15 [[.val (.int .i64 v8.s.s.n), .own 1 0 v8.s.s.fr.length, .own 2 0 v8.s.s.to.length, .own 3 0 v8.s.s.id.length, .own 4 0 v8.s.s.cs.length, .own 5 0 v8.s.sz.length, .own 6 0 v8.s.ac.length, .val (.int .i64 v8.t.s.n), .own 7 0 v8.t.s.fr.length, .own 8 0 v8.t.s.to.length, .own 9 0 v8.t.s.id.length, .own 10 0 v8.t.s.cs.length, .own 11 0 v8.t.sz.length, .own 12 0 v8.t.ac.length, .own 13 0 v8.p.length]]), (1, .row 1 (Is v8.s.s.fr)), (2, .row 1 (Is v8.s.s.to)), (3, .row 1 (Is v8.s.s.id)), (4, .row 1 (Ls v8.s.s.cs)), (5, .row 1 (Is v8.s.sz)), (6, .row 1 (Ls v8.s.ac)), (7, .row 1 (Is v8.t.s.fr)), (8, .row 1 (Is v8.t.s.to)), (9, .row 1 (Is v8.t.s.id)), (10, .row 1 (Ls v8.t.s.cs)), (11, .row 1 (Is v8.t.sz)), (12, .row 1 (Ls v8.t.ac)), (13, .row 1 (Ls v8.p))], 14⟩) (Wk.r1 [(2, 0), (4, 1), (5, 2), (6, 3), (7, 4), (8, 5), (9, 6), (11, 7), (12, 8), (13, 9), (14, 10), (15, 11), (16, 12), (17, 13)] (by simp [hP, hhOk, back, Cat.cells, Fn.cells, SM.cells, IA, I1, LA, L1, BA, B1, EA, E1, E2, eB, eI, eL])) ?_
 refine w_ret ?_
 have hr := Option.some.inj h
 rw [← hr]
 refine ⟨_, (.cell tf_96 rfl rfl rfl (by simp) (by simp) (.tmp .nil)), ?_⟩
 refine ⟨(.agg rfl (.one rfl rfl .nil)), [.val (.int .i64 v8.s.s.n), .lst true 1 (Is v8.s.s.fr), .lst true 1 (Is v8.s.s.to), .lst true 1 (Is v8.s.s.id), .lst true 1 (Ls v8.s.s.cs), .lst true 1 (Is v8.s.sz), .lst true 1 (Ls v8.s.ac), .val (.int .i64 v8.t.s.n), .lst true 1 (Is v8.t.s.fr), .lst true 1 (Is v8.t.s.to), .lst true 1 (Is v8.t.s.id), .lst true 1 (Ls v8.t.s.cs), .lst true 1 (Is v8.t.sz), .lst true 1 (Ls v8.t.ac), .lst true 1 (Ls v8.p), .val (.int .i64 0)], [1, 2, 3, 4, 5, 6, 7, 8, 9, 10, 11, 12, 13], by simp [Cat.cells, Fn.cells, SM.cells, IA, I1, LA, L1, BA, B1, EA, E1, E2, eB, eI, eL], by simp, (UpL.refl _)⟩
end Go.Vc.T

set_option maxRecDepth 100000
set_option linter.unusedSimpArgs false
set_option linter.unusedVariables false
namespace Go.Vc.T
open Go Go.Vc Go.Proofs
theorem map_bind {α ε β : Type} {body : List α × Int → Option (Ctl (List α × Int) ε)} {K : ε → Option β} {r : Option β} (xs : List Int) (q : Int → α) {e : ε} (hn : xs.length < 4611686018427387904)
   (h : ∀ (i : Nat) (acc : List α), i < xs.length → acc.length = i → body (acc, (i : Int)) = some (.next (acc ++ [q (ix xs i)], (i : Int) + 1)))
   (he : body (xs.map q, (xs.length : Int)) = some (.ret e)) (hk : K e = r) : (loopF body fuel ([], 0)).bind K = r := by
 refine acc_bind xs.length (fun i => (xs.take i).map q) (e := e) (by simp) hn (fun i hi => ?_) (by simpa using he) hk
 have hs : xs.take (i + 1) = xs.take i ++ [ix xs i] := by rw [List.take_succ_eq_append_getElem hi, at_ix _ _ hi]
 rw [h i _ hi (by simp; omega), hs]; simp
def alongV (k : Fn) (g : SF) : SF := ⟨k.s, k.ob.map (ix g.sz), k.ar.map (rx g.ac)⟩
theorem rowsR {f : SF} (hs : f.Sh) {i : Int} (h0 : 0 ≤ i) (h1 : i < (f.ac.length : Int)) : (rx f.ac i).length ≤ 16 := by
 obtain ⟨j, rfl⟩ := Int.eq_ofNat_of_zero_le h0
 have hj : j < f.ac.length := by omega
 rw [← at_rx _ _ hj]
 exact hs.rows _ (List.getElem_mem hj)
theorem e_along {k : Fn} {g : SF} (hk : k.Is) (hg : g.Is) (h : g.s = k.t) : s_s_l23Along k g = some (alongV k g) ∧ s_i_along k g = some (alongV k g) := by
 have l1 := hk.lob
 have l2 := hk.lar
 have l3 := hg.1.ls
 have l4 := hg.1.la
 rw [h] at l3 l4
 have q1 := hk.ob
 have q2 := hk.ar
 have o1 : ∀ y ∈ k.ob, 0 ≤ y ∧ y < (g.sz.length : Int) := fun y hy => by
   obtain ⟨i, hi, rfl⟩ := List.getElem_of_mem hy
   have := q1 i hi
   rw [at_ix _ _ hi]; omega
 constructor
 · unfold s_s_l23Along s_s_l02Own
   rw [ass_pos hk.s.ok]
   simp only [Option.bind_some]
   refine map_bind k.ob (ix g.sz) (e := k.ob.map (ix g.sz)) (by omega) (fun i acc hi ha => ?_) (by simp) ?_
   · have := q1 i hi
     simp (disch := omega) [ass_pos, B64]; try omega
   refine map_bind k.ar (rx g.ac) (e := k.ar.map (rx g.ac)) (by omega) (fun i acc hi ha => ?_) (by simp) rfl
   have := q2 i hi
   have r1 := rowsR hg.1 (i := ix k.ar i) (by omega) (by omega)
   unfold s_s_l01Own
   simp (disch := omega) [ass_pos, B64]; try omega
 unfold s_i_along s_i_Category_copy s_i_then
 rw [ass_pos hk.s.ok, ass_pos (by omega), ass_pos o1]
 simp only [Option.bind_some]
 refine map_bind k.ar (rx g.ac) (e := k.ar.map (rx g.ac)) (by omega) (fun i acc hi ha => ?_) (by simp) rfl
 have := q2 i hi
 have r1 := rowsR hg.1 (i := ix k.ar i) (by omega) (by omega)
 unfold s_i_clone
 simp (disch := omega) [ass_pos, B64]; try omega
theorem along_ok {k : Fn} {g : SF} (hk : k.Is) (hg : g.Is) (h : g.s = k.t) : (alongV k g).ok ∧ (alongV k g).size ≤ 4000 := by
 have l1 := hk.lob
 have l2 := hk.lar
 have l4 := hg.1.la
 rw [h] at l4
 have q2 := hk.ar
 obtain ⟨h1, h2⟩ := hk.s.1.size2
 have hr : ∀ xs ∈ k.ar.map (rx g.ac), xs.length ≤ 16 := fun xs hx => by
   obtain ⟨y, hy, rfl⟩ := List.mem_map.1 hx
   obtain ⟨i, hi, rfl⟩ := List.getElem_of_mem hy
   have := q2 i hi
   rw [at_ix _ _ hi]
   exact rowsR hg.1 (by omega) (by omega)
 have h7 := sumL_b hr
 have : (k.ar.map (rx g.ac)).length * 16 ≤ 40 * 16 := Nat.mul_le_mul_right _ (by simpa using l2)
 refine ⟨⟨h1, by simp [alongV]; omega, by simp [alongV]; omega, fun xs hx => by have := hr xs hx; omega, by simp only [alongV]; omega⟩, ?_⟩
 simp only [SF.size, alongV, List.length_map]
 omega
theorem e_sameCatS {c : Cat} (h : c.Sh) (d : Cat) : s_i_sameCategory c d = some (bo (c = d)) := by
 unfold s_i_sameCategory
 have := h.lc
 have := h.m40
 rw [ass_pos (by omega)]
set_option maxHeartbeats 4000000 in
theorem m_MapAlong (k : Fn) (m : SM) : ∃ r, s_s_MapAlong k m = some r ∧ s_i_MapAlong k m = some r ∧ r.1.ok ∧ r.1.size ≤ 1000000 := by
 unfold s_s_MapAlong s_i_MapAlong s_s_l19IsMap s_i_SetMap_isNatural s_s_l02Same
 rw [e_l06Is, e_isFunctor]
 by_cases hk : k.Is
 case neg => exact ⟨(sm0, 1), by simp [bo_neg hk, sm0], by simp [bo_neg hk, sm0], sm0_ok⟩
 by_cases hm : m.Is
 case neg => exact ⟨(sm0, 1), by simp [bo_pos hk, bo_neg hm, sm0], by simp [bo_pos hk, bo_neg hm, sm0], sm0_ok⟩
 rw [e_sameCatS hk.t.1]
 by_cases he : m.s.s = k.t
 case neg => exact ⟨(sm0, 5), by simp [bo_pos hk, bo_pos hm, bo_neg he, sm0], by simp [bo_pos hk, bo_pos hm, bo_neg (show ¬ k.t = m.s.s from fun q => he q.symm), sm0], sm0_ok⟩
 have he' : m.t.s = k.t := by rw [← hm.1.eq]; exact he
 have a1 := e_along hk hm.1.hs he
 have a2 := e_along hk hm.1.ht he'
 have o1 := along_ok hk hm.1.hs he
 have o2 := along_ok hk hm.1.ht he'
 have l1 := hk.lob
 have l2 := hm.1.lp
 have l3 := hm.1.hs.1.ls
 rw [he] at l3
 have q1 := hk.ob
 have hr : ∀ xs ∈ k.ob.map (rx m.p), xs.length ≤ 16 := fun xs hx => by
   obtain ⟨y, hy, rfl⟩ := List.mem_map.1 hx
   obtain ⟨i, hi, rfl⟩ := List.getElem_of_mem hy
   have q := q1 i hi
   rw [at_ix _ _ hi]
   obtain ⟨j, hj⟩ := Int.eq_ofNat_of_zero_le q.1
   rw [hj]
   exact hm.1.rows (x := j) (by omega)
 have p1 : (k.ob.map (rx m.p)).length ≤ 1048576 := by simp; omega
 have p2 : ∀ x ∈ k.ob.map (rx m.p), x.length ≤ 1048576 := fun x hx => by have := hr x hx; omega
 have h7 := sumL_b hr
 have h8 : (k.ob.map (rx m.p)).length * 16 ≤ 8 * 16 := Nat.mul_le_mul_right _ (by simpa using l1)
 refine ⟨(⟨alongV k m.s, alongV k m.t, k.ob.map (rx m.p)⟩, 0), ?_, ?_, ⟨o1.1, o2.1, p1, p2, by simp only; omega⟩, by simp only [SM.size]; omega⟩
 · simp only [bo_pos hk, bo_pos hm, bo_pos he, Option.bind_some, not_true_eq_false, if_false, Bool.not_true, Bool.false_eq_true]
   unfold s_s_l23Map
   rw [Option.bind_assoc]
   refine map_bind k.ob (rx m.p) (e := k.ob.map (rx m.p)) (by omega) (fun i acc hi ha => ?_) (by simp) ?_
   · have := q1 i hi
     simp (disch := omega) [ass_pos, B64]; try omega
   unfold s_s_l19Make s_s_l19Own s_s_l01Own2
   simp only [a1.1, a2.1, Option.bind_some, ass_pos o1.1, ass_pos o2.1, ass_pos p1, ass_pos p2]
 simp only [bo_pos hk, bo_pos hm, bo_pos he.symm, Option.bind_some, not_true_eq_false, if_false, Bool.not_true, Bool.false_eq_true]
 rw [a1.2, a2.2]
 simp only [Option.bind_some]
 unfold s_i_partsAlong
 rw [Option.bind_assoc]
 refine map_bind k.ob (rx m.p) (e := k.ob.map (rx m.p)) (by omega) (fun i acc hi ha => ?_) (by simp) ?_
 · have := q1 i hi
   simp (disch := omega) [ass_pos, B64]; try omega
 unfold s_i_setMap s_i_SetFunctor_copy s_i_clones
 simp only [Option.bind_some, ass_pos o1.1, ass_pos o2.1, ass_pos p1, ass_pos p2]
end Go.Vc.T
