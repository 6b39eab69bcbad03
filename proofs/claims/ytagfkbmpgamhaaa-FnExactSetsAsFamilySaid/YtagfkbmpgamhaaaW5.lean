/- A part of the proof: a verified generator of conditions, and what each function of the program does. -/
import Derived.Test.YtagfkbmpgamhaaaW4

namespace Go.Vc.T
open Go Go.Vc Go.Proofs

theorem sumL_bound {b : Nat} : ∀ {l : List (List Int)}, (∀ xs ∈ l, xs.length ≤ b) → sumL l ≤ l.length * b := by
  intro l
  induction l with
  | nil => intro _; simp [sumL]
  | cons x r ih =>
    intro h
    have h1 := ih fun xs hx => h xs (List.mem_cons_of_mem _ hx)
    have h2 := h x (by simp)
    simp only [sumL, List.map_cons, List.sum_cons, List.length_cons] at h1 ⊢
    rw [Nat.add_mul]
    omega
theorem loose_ok {n : Nat} (hn : n ≤ 1024) : (loose n).ok := by
  have hr : ∀ xs ∈ lrows n n, xs.length ≤ 1024 := by
    intro xs hx
    simp only [lrows, List.mem_map] at hx
    obtain ⟨i, _, rfl⟩ := hx
    simpa using hn
  have h1 := sumL_bound hr
  refine ⟨by simp [loose]; omega, by simp [loose]; omega, by simp [loose]; omega, by simp [loose]; omega, fun xs hx => by have := hr xs hx; omega, ?_⟩
  simp only [lrows_length] at h1
  show sumL (lrows n n) ≤ _
  have : n * 1024 ≤ 1024 * 1024 := Nat.mul_le_mul_right _ hn
  omega
theorem Cat.Sh.ok {c : Cat} (hs : c.Sh) : c.ok := by
  have h0 := hs.n8
  have h1 := hs.li
  have h2 := hs.m40
  have hr : ∀ xs ∈ c.cs, xs.length ≤ 40 := by
    intro xs hx
    obtain ⟨i, hi, rfl⟩ := List.getElem_of_mem hx
    rw [at_rx _ _ hi, hs.row' (by omega) (by have := hs.lc; omega)]
    exact h2
  have h3 := sumL_bound hr
  have h4 := hs.lc
  have h5 := hs.lt
  refine ⟨by omega, by omega, by omega, by omega, fun xs hx => by have := hr xs hx; omega, ?_⟩
  have : c.cs.length * 40 ≤ 40 * 40 := Nat.mul_le_mul_right _ (by omega)
  omega

def fbs (f : SF) (i : Nat) : List Cat := (f.sz.take i).map fun z => loose z.toNat
def chn (f : SF) (a : Nat) : Fn := ⟨loose (ix f.sz (ix f.s.fr a)).toNat, loose (ix f.sz (ix f.s.to a)).toNat, rx f.ac a, rx f.ac a⟩
def chs (f : SF) (a : Nat) : List Fn := (List.range a).map fun i => chn f i
def famOf (f : SF) : Fam := ⟨f.s, fbs f f.sz.length, chs f f.ac.length⟩
theorem fbs_length (f : SF) (i : Nat) (h : i ≤ f.sz.length) : (fbs f i).length = i := by simp [fbs]; omega
@[simp] theorem chs_length (f : SF) (i : Nat) : (chs f i).length = i := by simp [chs]
theorem fbs_succ (f : SF) (i : Nat) (h : i < f.sz.length) : Cs (fbs f (i + 1)) = Cs (fbs f i) ++ [Cat.cells true (loose (ix f.sz i).toNat)] := by
  rw [← at_ix _ _ h]
  simp only [fbs, Cs, List.take_succ_eq_append_getElem h, List.map_append, List.map_cons, List.map_nil]
theorem chs_succ (f : SF) (i : Nat) : Fs (chs f (i + 1)) = Fs (chs f i) ++ [Fn.cells true (chn f i)] := by simp [chs, Fs, List.range_succ]
theorem fbs_at (f : SF) {j : Int} (h0 : 0 ≤ j) (h1 : j < f.sz.length) : (Cs (fbs f f.sz.length))[j.toNat]? = some (Cat.cells true (loose (ix f.sz j).toNat)) := by
  have h2 : j.toNat < f.sz.length := by omega
  have h3 : j.toNat < (fbs f f.sz.length).length := by rw [fbs_length _ _ (Nat.le_refl _)]; exact h2
  rw [Cs_at _ _ h3]
  have h4 : (fbs f f.sz.length)[j.toNat] = loose (f.sz[j.toNat]).toNat := by simp only [fbs, List.getElem_map, List.getElem_take]
  have h5 : f.sz[j.toNat] = ix f.sz j := by rw [at_ix _ _ h2, Int.toNat_of_nonneg h0]
  rw [h4, h5]
theorem fbs_at' (f : SF) {j : Int} (h0 : 0 ≤ j) (h1 : j < f.sz.length) (h : j.toNat < (Cs (fbs f f.sz.length)).length) : (Cs (fbs f f.sz.length))[j.toNat]'h = Cat.cells true (loose (ix f.sz j).toNat) := by
  have := fbs_at f h0 h1
  rw [List.getElem?_eq_getElem h] at this
  simpa only [Option.some.injEq] using this
@[simp] theorem take_chs (f : SF) (i : Nat) : List.take i (Fs (chs f i)) = Fs (chs f i) := List.take_of_length_le (by simp)
theorem take_fbs (f : SF) (i : Nat) (h : i ≤ f.sz.length) : List.take i (Cs (fbs f i)) = Cs (fbs f i) := List.take_of_length_le (by simp [fbs_length f i h])

theorem chn_ok {f : SF} (hs : f.Sh) {a : Nat} (ha : a < f.s.fr.length) : (chn f a).ok := by
  have hC := hs.cat.1
  have h1 := hC.fr' (j := a) (by omega) (by omega)
  have h2 := hC.to' (j := a) (by omega) (by omega)
  have hl := hs.ls
  have hl2 := hC.li
  have h3 := all_ix hs.sz (j := ix f.s.fr a) (by omega) (by omega)
  have h4 := all_ix hs.sz (j := ix f.s.to a) (by omega) (by omega)
  have h5 := hs.len' (j := a) (by omega) (by omega)
  refine ⟨loose_ok (by omega), loose_ok (by omega), ?_, ?_⟩
  · show (rx f.ac a).length ≤ _; omega
  · show (rx f.ac a).length ≤ _; omega

set_option maxRecDepth 100000 in
theorem c17 (u : Bool) (f : SF) (hs : f.Sh) : Contract Try.prog 17 [.agg (f.cells u)] (.agg ((famOf f).cells true)) := by
  refine contract_introC Try.func17 rfl rfl y33 rfl rfl (by simp [Try.f17]) fun F hN hP => ?_
  have hC := hs.cat.1
  have hl1 := hC.lt
  have hl2 := hC.li
  have hl3 := hs.ls
  have hl4 := hs.la
  have hm40 := hC.m40
  have hn8 := hC.n8
  refine w_sr mo (by rw [hN]; decide) fun K hK => ?_ -- region 0
  simp [SF.cells]
  refine hK _ ?_
  clear hK K
  refine w_sr mo (by rw [hN]; decide) fun K hK => ?_ -- region 1
  simp [Cat.cells]
  refine callA_intro (c41 u f.s hC.ok) (.cons (.aggL Cat.pur) .nil) ?_
  simp [unk, unA, unE, unC, flat, Cat.cells]
  refine hK _ ?_
  clear hK K
  refine w_seq ?_
  refine w_sr mo (by rw [hN]; decide) fun K hK => ?_ -- region 2
  simp
  refine hK _ ?_
  clear hK K
  refine w_block ?_
  refine w_loop (fun x : Nat => ⟨[(1, .adr 0 0 0), (2, .adr 1 0 0), (3, .adr 7 0 0), (4, .val (.int .i64 x))], [(0, .mix 7 [[.val (.int .i64 f.s.n), .lst u 1 (Is f.s.fr), .lst u 1 (Is f.s.to), .lst u 1 (Is f.s.id), .lst u 1 (Ls f.s.cs), .lst u 1 (Is f.sz), .lst u 1 (Ls f.ac)]]), (1, .mix 7 [[.val (.int .i64 0), .val (.slice none 0 0), .val (.slice none 0 0), .val (.slice none 0 0), .val (.slice none 0 0), .val (.slice none 0 0), .val (.slice none 0 0)]]), (3, .row 1 (Is f.s.fr)), (4, .row 1 (Is f.s.to)), (5, .row 1 (Is f.s.id)), (6, .row 1 (Ls f.s.cs)), (7, .mix 7 [[.val (.int .i64 f.s.n), .own 3 0 f.s.fr.length, .own 4 0 f.s.to.length, .own 5 0 f.s.id.length, .own 6 0 f.s.cs.length, .own 8 0 x, .own 9 0 0]]), (8, .row 5 (Cs (fbs f x))), (9, .row 12 (Fs (chs f 0)))], 10⟩) (fun x => x ≤ f.sz.length) (fun x => f.sz.length - x) 0 (by simp) (Wk.nils [(8, 5), (9, 12)] (by simp) (by simp) (by simp [nlA]) (by simp [entN, nlL, nlA, fbs, chs, Cs, Fs]) (by simp)) ?_
  intro x hx
  refine w_seq ?_
  refine w_sr mo (by rw [hN]; decide) fun K hK => ?_ -- region 3
  simp
  refine hK _ ?_
  clear hK K
  refine w_cond rfl (fun h => ?_) fun h => ?_
  · simp at h
    have hx1 : x < f.sz.length := by omega
    clear h
    have l0 := fbs_length f x hx
    have z0 := all_ix hs.sz (j := x) (by omega) (by omega)
    refine w_skip ?_
    refine w_seq ?_
    refine w_block ?_
    refine w_run mo (by rw [hN]; decide) fun K hK => ?_ -- region 5 DRAWN
    simp [hx1, at_ix]
    refine callA_intro (c42 (ix f.sz x).toNat (by omega)) (by rw [Int.toNat_of_nonneg z0.1]; exact .cons .val .nil) ?_
    simp [unk, unA, unE, unC, flat, Cat.cells]
    refine ⟨by omega, hK _ ?_⟩
    clear hK K
    refine w_run mo (by rw [hN]; decide) fun K hK => ?_ -- region 4
    simp
    refine hK _ ?_
    clear hK K
    rw [wrap_succ (n := f.sz.length) (by omega) (by omega), take_fbs f x hx, fbs_length f x hx]
    refine ⟨x + 1, by omega, by dsimp only; omega, (Wk.rel [(0, 0), (1, 1), (3, 3), (4, 4), (5, 5), (6, 6), (7, 7), (16, 8), (9, 9)] (by simp) (by simp) (by rw [hP]; simp) (by simp) (by simp) (by simp [fbs_succ f x hx1, Cat.cells]) (by simp [hhOk, back, fbs_succ f x hx1, Cat.cells]))⟩
  · simp at h
    have hx2 : x = f.sz.length := by omega
    subst hx2
    refine w_exit ?_
    simp
    refine w_seq ?_
    refine w_sr mo (by rw [hN]; decide) fun K hK => ?_ -- region 6
    simp
    refine hK _ ?_
    clear hK K
    refine w_block ?_
    refine w_loop (fun a : Nat => ⟨[(1, .adr 0 0 0), (2, .adr 1 0 0), (3, .adr 7 0 0), (5, .val (.int .i64 a))], [(0, .mix 7 [[.val (.int .i64 f.s.n), .lst u 1 (Is f.s.fr), .lst u 1 (Is f.s.to), .lst u 1 (Is f.s.id), .lst u 1 (Ls f.s.cs), .lst u 1 (Is f.sz), .lst u 1 (Ls f.ac)]]), (1, .mix 7 [[.val (.int .i64 0), .val (.slice none 0 0), .val (.slice none 0 0), .val (.slice none 0 0), .val (.slice none 0 0), .val (.slice none 0 0), .val (.slice none 0 0)]]), (3, .row 1 (Is f.s.fr)), (4, .row 1 (Is f.s.to)), (5, .row 1 (Is f.s.id)), (6, .row 1 (Ls f.s.cs)), (7, .mix 7 [[.val (.int .i64 f.s.n), .own 3 0 f.s.fr.length, .own 4 0 f.s.to.length, .own 5 0 f.s.id.length, .own 6 0 f.s.cs.length, .own 8 0 f.sz.length, .own 9 0 a]]), (8, .row 5 (Cs (fbs f f.sz.length))), (9, .row 12 (Fs (chs f a)))], 10⟩) (fun a => a ≤ f.ac.length) (fun a => f.ac.length - a) 0 (by simp) (Wk.rel [(0, 0), (1, 1), (3, 3), (4, 4), (5, 5), (6, 6), (7, 7), (8, 8), (9, 9)] (by simp) (by simp) (by rw [hP]; simp) (by simp) (by simp) (by simp) (by simp [hhOk, back])) ?_
    intro a ha
    refine w_seq ?_
    refine w_sr mo (by rw [hN]; decide) fun K hK => ?_ -- region 7
    simp
    refine hK _ ?_
    clear hK K
    refine w_cond rfl (fun h => ?_) fun h => ?_
    · simp at h
      have ha1 : a < f.s.fr.length := by omega
      clear h
      have a1 := hC.fr' (j := a) (by omega) (by omega)
      have a2 := hC.to' (j := a) (by omega) (by omega)
      have a3 := fbs_at' f a1.1 (by omega)
      have a4 := fbs_at' f a2.1 (by omega)
      have a5 := fbs_at f a1.1 (by omega)
      have a6 := fbs_at f a2.1 (by omega)
      have l1 := fbs_length f f.sz.length (Nat.le_refl _)
      refine w_skip ?_
      refine w_seq ?_
      refine w_block ?_
      refine w_sr mo (by rw [hN]; decide) fun K hK => ?_ -- region 9 DRAWN
      simp [ha1, show a < f.s.to.length by omega, at_ix]
      refine hK _ ?_
      clear hK K
      refine w_weak (st' := ⟨[(1, .adr 0 0 0), (2, .adr 1 0 0), (3, .adr 7 0 0), (5, .val (.int .i64 a)), (6, .val (.int .i64 (ix f.s.fr a))), (7, .val (.int .i64 (ix f.s.to a)))], [(0, .mix 7 [[.val (.int .i64 f.s.n), .lst u 1 (Is f.s.fr), .lst u 1 (Is f.s.to), .lst u 1 (Is f.s.id), .lst u 1 (Ls f.s.cs), .lst u 1 (Is f.sz), .lst u 1 (Ls f.ac)]]), (1, .mix 7 [[.val (.int .i64 0), .val (.slice none 0 0), .val (.slice none 0 0), .val (.slice none 0 0), .val (.slice none 0 0), .val (.slice none 0 0), .val (.slice none 0 0)]]), (3, .row 1 (Is f.s.fr)), (4, .row 1 (Is f.s.to)), (5, .row 1 (Is f.s.id)), (6, .row 1 (Ls f.s.cs)), (7, .mix 7 [[.val (.int .i64 f.s.n), .own 3 0 f.s.fr.length, .own 4 0 f.s.to.length, .own 5 0 f.s.id.length, .own 6 0 f.s.cs.length, .own 8 0 f.sz.length, .own 9 0 a]]), (8, .row 5 (Cs (fbs f f.sz.length))), (9, .row 12 (Fs (chs f a)))], 10⟩) (Wk.rel [(0, 0), (1, 1), (3, 3), (4, 4), (5, 5), (6, 6), (7, 7), (8, 8), (9, 9)] (by simp) (by simp) (by rw [hP]; simp) (by simp) (by simp) (by simp) (by simp [hhOk, back])) ?_
      refine w_run mo (by rw [hN]; decide) fun K hK => ?_ -- region 10 DRAWN
      simp [-Cs_at, -Cs_at', a3, a4, l1, a1.1, a2.1, Cat.cells, show a < f.ac.length by omega, at_rx, show ix f.s.fr a < f.sz.length by omega, show ix f.s.to a < f.sz.length by omega]
      refine callA_intro (c43 true true true true (chn f a) (chn_ok hs ha1)) (.cons (.aggL (.cons .val (.cons (.whole (by simp [-Cs_at, -Cs_at', cont, a5, a6, chn, Cat.cells]) rfl (by simp [chn])) (.cons (.whole (by simp [-Cs_at, -Cs_at', cont, a5, a6, chn, Cat.cells]) rfl (by simp [chn])) (.cons (.whole (by simp [-Cs_at, -Cs_at', cont, a5, a6, chn, Cat.cells]) rfl (by simp [chn])) (.cons (.whole (by simp [-Cs_at, -Cs_at', cont, a5, a6, chn, Cat.cells]) rfl (by simp [chn])) .nil)))))) (.cons (.aggL (.cons .val (.cons (.whole (by simp [-Cs_at, -Cs_at', cont, a5, a6, chn, Cat.cells]) rfl (by simp [chn])) (.cons (.whole (by simp [-Cs_at, -Cs_at', cont, a5, a6, chn, Cat.cells]) rfl (by simp [chn])) (.cons (.whole (by simp [-Cs_at, -Cs_at', cont, a5, a6, chn, Cat.cells]) rfl (by simp [chn])) (.cons (.whole (by simp [-Cs_at, -Cs_at', cont, a5, a6, chn, Cat.cells]) rfl (by simp [chn])) .nil)))))) (.cons .lst (.cons .lst .nil)))) ?_
      simp [unk, unA, unE, unC, flat, Fn.cells]
      refine ⟨by omega, hK _ ?_⟩
      clear hK K
      refine w_run mo (by rw [hN]; decide) fun K hK => ?_ -- region 8
      simp
      refine hK _ ?_
      clear hK K
      rw [wrap_succ (n := f.ac.length) (by omega) (by omega)]
      refine ⟨a + 1, by omega, by dsimp only; omega, (Wk.rel [(0, 0), (1, 1), (3, 3), (4, 4), (5, 5), (6, 6), (7, 7), (8, 8), (33, 9)] (by simp) (by simp) (by rw [hP]; simp) (by simp) (by simp) (by simp [chs_succ f a, Fn.cells]) (by simp [hhOk, back, chs_succ f a, Fn.cells]))⟩
    · simp at h
      have ha2 : a = f.ac.length := by omega
      subst ha2
      have l1 := fbs_length f f.sz.length (Nat.le_refl _)
      refine w_exit ?_
      simp
      refine w_sr mo (by rw [hN]; decide) fun K hK => ?_ -- region 11
      simp
      refine hK _ ?_
      clear hK K
      refine w_ret ⟨_, _, _, _, _, rfl, rfl, by simp, by simp, ?_⟩
      exact ⟨.agg rfl .nil, [.val (.int .i64 f.s.n), .lst true 1 (Is f.s.fr), .lst true 1 (Is f.s.to), .lst true 1 (Is f.s.id), .lst true 1 (Ls f.s.cs), .lst true 5 (Cs (fbs f f.sz.length)), .lst true 12 (Fs (chs f f.ac.length))], [3, 4, 5, 6, 8, 9], by simp [l1], by simp, UpL.refl _⟩

end Go.Vc.T

namespace Go.Vc.T
open Go Go.Vc Go.Proofs

def fam0 : Fam := ⟨⟨0, [], [], [], []⟩, [], []⟩
def SF.Lim (f : SF) : Prop := ∀ z ∈ f.sz, z ≤ 8
open Classical in
noncomputable def sres (f : SF) : Fam × Int := if f.Is then (if f.Lim then (famOf f, 0) else (fam0, 3)) else (fam0, 1)
theorem sres1 {f : SF} (h : ¬ f.Is) : sres f = (fam0, 1) := by simp [sres, h]
theorem sres2 {f : SF} (h : f.Is) (h2 : ¬ f.Lim) : sres f = (fam0, 3) := by simp [sres, h, h2]
theorem sres3 {f : SF} (h : f.Is) (h2 : f.Lim) : sres f = (famOf f, 0) := by simp [sres, h, h2]
noncomputable def sout (f : SF) : List AV := [.agg ((sres f).1.cells true), .val (.int .i64 (sres f).2)]

theorem c5 (u : Bool) (f : SF) : Contract Try.prog 5 [.agg (f.cells u)] (.tup (sout f)) := by
  refine contract_introG (rvs := [.cell 2 33, .tmp 3]) (rs := sout f) Try.func5 rfl rfl rfl rfl (by simp [Try.f5]) fun F hN hP => ?_
  refine w_sr mo (by rw [hN]; decide) fun K hK => ?_ -- region 0
  simp [SF.cells]
  refine hK _ ?_
  clear hK K
  refine w_seq ?_
  refine w_sr mo (by rw [hN]; decide) fun K hK => ?_ -- region 1
  simp
  refine callA_intro (c16 u f) (.cons (.aggL SF.pur) .nil) ?_
  simp [unk, unA, unE, flat]
  refine hK _ ?_
  clear hK K
  refine w_cond rfl (fun h => ?_) fun h => ?_
  · have hn : ¬ f.Is := bo_not h
    refine w_sr mo (by rw [hN]; decide) fun K hK => ?_ -- region 2
    simp
    refine hK _ ?_
    clear hK K
    refine w_ret ⟨_, .cell y33 rfl rfl rfl (by simp) (by simp) (.tmp .nil), ?_⟩
    rw [sout, sres1 hn]
    refine ⟨.agg rfl (.one rfl rfl .nil), [.val (.int .i64 0), .val (.slice none 0 0), .val (.slice none 0 0), .val (.slice none 0 0), .val (.slice none 0 0), .val (.slice none 0 0), .val (.slice none 0 0), _], [], rfl, by simp, ?_⟩
    exact .cons .refl (.cons .nil (.cons .nil (.cons .nil (.cons .nil (.cons .nil (.cons .nil (.cons .refl .nil)))))))
  · have hs : f.Is := bo_yes h
    have hn8 := hs.1.cat.1.n8
    have hl3 := hs.1.ls
    refine w_skip ?_
    refine w_seq ?_
    refine w_sr mo (by rw [hN]; decide) fun K hK => ?_ -- region 3
    simp
    refine hK _ ?_
    clear hK K
    refine w_block ?_
    refine w_loop (fun x : Nat => ⟨[(1, .adr 0 0 0), (2, .adr 1 0 0), (4, .val (.int .i64 x))], [(0, .mix 7 [[.val (.int .i64 f.s.n), .lst u 1 (Is f.s.fr), .lst u 1 (Is f.s.to), .lst u 1 (Is f.s.id), .lst u 1 (Ls f.s.cs), .lst u 1 (Is f.sz), .lst u 1 (Ls f.ac)]]), (1, .mix 7 [[.val (.int .i64 0), .val (.slice none 0 0), .val (.slice none 0 0), .val (.slice none 0 0), .val (.slice none 0 0), .val (.slice none 0 0), .val (.slice none 0 0)]])], 2⟩) (fun x => x ≤ f.sz.length ∧ ∀ y : Nat, y < x → ix f.sz y ≤ 8) (fun x => f.sz.length - x) 0 (by simp) (Wk.rel [(0, 0), (1, 1)] (by simp) (by simp) (by rw [hP]; simp) (by simp) (by simp) (by simp) (by simp [hhOk, back])) ?_
    rintro x ⟨hx, hi0⟩
    refine w_seq ?_
    refine w_sr mo (by rw [hN]; decide) fun K hK => ?_ -- region 4
    simp
    refine hK _ ?_
    clear hK K
    refine w_cond rfl (fun h => ?_) fun h => ?_
    · simp at h
      have hx1 : x < f.sz.length := by omega
      clear h
      refine w_skip ?_
      refine w_seq ?_
      refine w_block ?_
      refine w_sr mo (by rw [hN]; decide) fun K hK => ?_ -- region 6
      simp [hx1, at_ix]
      refine hK _ ?_
      clear hK K
      refine w_cond rfl (fun h => ?_) fun h => ?_
      · simp at h
        have hL : ¬ f.Lim := fun q => by have := q _ (List.getElem_mem hx1); rw [at_ix] at this; omega
        refine w_sr mo (by rw [hN]; decide) fun K hK => ?_ -- region 7
        simp
        refine hK _ ?_
        clear hK K
        refine w_ret ⟨_, .cell y33 rfl rfl rfl (by simp) (by simp) (.tmp .nil), ?_⟩
        rw [sout, sres2 hs hL]
        refine ⟨.agg rfl (.one rfl rfl .nil), [.val (.int .i64 0), .val (.slice none 0 0), .val (.slice none 0 0), .val (.slice none 0 0), .val (.slice none 0 0), .val (.slice none 0 0), .val (.slice none 0 0), _], [], rfl, by simp, ?_⟩
        exact .cons .refl (.cons .nil (.cons .nil (.cons .nil (.cons .nil (.cons .nil (.cons .nil (.cons .refl .nil)))))))
      · simp at h
        have hc : ix f.sz x ≤ 8 := by omega
        refine w_skip ?_
        refine w_run mo (by rw [hN]; decide) fun K hK => ?_ -- region 5
        simp
        refine hK _ ?_
        clear hK K
        rw [wrap_succ (n := f.sz.length) (by omega) (by omega)]
        refine ⟨x + 1, ⟨by omega, all_succ hi0 hc⟩, by dsimp only; omega, (Wk.rel [(0, 0), (1, 1)] (by simp) (by simp) (by rw [hP]; simp) (by simp) (by simp) (by simp) (by simp [hhOk, back]))⟩
    · simp at h
      have hx2 : x = f.sz.length := by omega
      subst hx2
      have hL : f.Lim := ix_mem hi0
      refine w_exit ?_
      simp
      refine w_sr mo (by rw [hN]; decide) fun K hK => ?_ -- region 8
      simp
      refine callA_intro (c17 u f hs.1) (.cons (.aggL SF.pur) .nil) ?_
      simp [unk, unA, unE, unC, flat, Fam.cells]
      refine hK _ ?_
      clear hK K
      refine w_ret ⟨_, .cell y33 rfl rfl rfl (by simp) (by simp) (.tmp .nil), ?_⟩
      rw [sout, sres3 hs hL]
      refine ⟨.agg rfl (.one rfl rfl .nil), [.val (.int .i64 f.s.n), .lst true 1 (Is f.s.fr), .lst true 1 (Is f.s.to), .lst true 1 (Is f.s.id), .lst true 1 (Ls f.s.cs), .lst true 5 (Cs (fbs f f.sz.length)), .lst true 12 (Fs (chs f f.ac.length)), .val (.int .i64 0)], [3, 4, 5, 6, 7, 8], ?_, by simp, UpL.refl _⟩
      simp [famOf]

end Go.Vc.T

namespace Go.Vc.T
open Go Go.Vc Go.Proofs


set_option maxRecDepth 100000 in
theorem c7 (u : Bool) (f : SF) : Contract Try.prog 7 [.agg (f.cells u)] (.tup (sout f)) := by
  refine contract_introG (rvs := [.cell 2 33, .tmp 3]) (rs := sout f) Try.func7 rfl rfl rfl rfl (by simp [Try.f7]) fun F hN hP => ?_
  refine w_sr mo (by rw [hN]; decide) fun K hK => ?_ -- region 0
  simp [SF.cells]
  refine hK _ ?_
  clear hK K
  refine w_seq ?_
  refine w_sr mo (by rw [hN]; decide) fun K hK => ?_ -- region 1
  simp
  refine callA_intro (c21 u f) (.cons (.var rfl (by simp) (.cons .val (.cons .lst (.cons .lst (.cons .lst (.cons .lst (.cons .lst (.cons .lst .nil)))))))) .nil) ?_
  simp [unk, unA, unE, flat]
  refine hK _ ?_
  clear hK K
  refine w_cond rfl (fun h => ?_) fun h => ?_
  · have hn : ¬ f.Is := bo_not h
    refine w_sr mo (by rw [hN]; decide) fun K hK => ?_ -- region 2
    simp
    refine hK _ ?_
    clear hK K
    refine w_ret ⟨_, .cell y33 rfl rfl rfl (by simp) (by simp) (.tmp .nil), ?_⟩
    rw [sout, sres1 hn]
    refine ⟨.agg rfl (.one rfl rfl .nil), [.val (.int .i64 0), .val (.slice none 0 0), .val (.slice none 0 0), .val (.slice none 0 0), .val (.slice none 0 0), .val (.slice none 0 0), .val (.slice none 0 0), _], [], rfl, by simp, ?_⟩
    exact .cons .refl (.cons .nil (.cons .nil (.cons .nil (.cons .nil (.cons .nil (.cons .nil (.cons .refl .nil)))))))
  · have hs : f.Is := bo_yes h
    have hC := hs.1.cat.1
    have hn8 := hC.n8
    have hm40 := hC.m40
    have hl1 := hC.lt
    have hl2 := hC.li
    have hl3 := hs.1.ls
    have hl4 := hs.1.la
    refine w_skip ?_
    refine w_seq ?_
    refine w_sr mo (by rw [hN]; decide) fun K hK => ?_ -- region 3
    simp
    refine callA_intro (c22 u f.sz 9 ⟨by omega, by omega⟩) (.cons .lst (.cons .val .nil)) ?_
    simp [unk, unA, unE, flat]
    refine hK _ ?_
    clear hK K
    refine w_cond rfl (fun h => ?_) fun h => ?_
    · have hL : ¬ f.Lim := fun q => by
        have h9 : f.sz.all (inR 9) = true := List.all_eq_true.2 fun z hz => by have q1 := q z hz; have q2 := hs.1.sz z hz; simp [inR] at q2 ⊢; omega
        simp [h9] at h
      refine w_sr mo (by rw [hN]; decide) fun K hK => ?_ -- region 4
      simp
      refine hK _ ?_
      clear hK K
      refine w_ret ⟨_, .cell y33 rfl rfl rfl (by simp) (by simp) (.tmp .nil), ?_⟩
      rw [sout, sres2 hs hL]
      refine ⟨.agg rfl (.one rfl rfl .nil), [.val (.int .i64 0), .val (.slice none 0 0), .val (.slice none 0 0), .val (.slice none 0 0), .val (.slice none 0 0), .val (.slice none 0 0), .val (.slice none 0 0), _], [], rfl, by simp, ?_⟩
      exact .cons .refl (.cons .nil (.cons .nil (.cons .nil (.cons .nil (.cons .nil (.cons .nil (.cons .refl .nil)))))))
    · have hL : f.Lim := fun z hz => by
        have h9 : f.sz.all (inR 9) = true := by simpa using h
        have := List.all_eq_true.1 h9 z hz
        simp [inR] at this
        omega
      refine w_skip ?_
      refine w_sr mo (by rw [hN]; decide) fun K hK => ?_ -- region 5
      simp [Cat.cells]
      refine callA_intro (c23 u f.s [.lst u 1 (Is f.sz), .lst u 1 (Ls f.ac)] hC.ok) (.cons (.var rfl (by simp) (.cons .val (.cons .lst (.cons .lst (.cons .lst (.cons .lst (.cons .lst (.cons .lst .nil)))))))) .nil) ?_
      simp [unk, unA, unE, unC, flat, Cat.cells]
      refine hK _ ?_
      clear hK K
      refine w_seq ?_
      refine w_sr mo (by rw [hN]; decide) fun K hK => ?_ -- region 6
      simp
      refine hK _ ?_
      clear hK K
      refine w_block ?_
      refine w_loop (fun x : Nat => ⟨[(1, .adr 0 0 0), (2, .adr 1 0 0), (4, .adr 9 0 0), (21, .lst u 1 (Is f.sz)), (22, .val (.int .i64 f.sz.length)), (23, .val (.int .i64 x))], [(0, .mix 7 [[.val (.int .i64 f.s.n), .lst u 1 (Is f.s.fr), .lst u 1 (Is f.s.to), .lst u 1 (Is f.s.id), .lst u 1 (Ls f.s.cs), .lst u 1 (Is f.sz), .lst u 1 (Ls f.ac)]]), (1, .mix 7 [[.val (.int .i64 0), .val (.slice none 0 0), .val (.slice none 0 0), .val (.slice none 0 0), .val (.slice none 0 0), .val (.slice none 0 0), .val (.slice none 0 0)]]), (5, .row 1 (Is f.s.fr)), (6, .row 1 (Is f.s.to)), (7, .row 1 (Is f.s.id)), (8, .row 1 (Ls f.s.cs)), (9, .mix 7 [[.val (.int .i64 f.s.n), .own 5 0 f.s.fr.length, .own 6 0 f.s.to.length, .own 7 0 f.s.id.length, .own 8 0 f.s.cs.length, .own 10 0 x, .own 11 0 0]]), (10, .row 5 (Cs (fbs f x))), (11, .row 12 (Fs (chs f 0)))], 12⟩) (fun x => x ≤ f.sz.length) (fun x => f.sz.length - x) 0 (by simp) (Wk.nils [(10, 5), (11, 12)] (by simp) (by simp) (by simp [nlA]) (by simp [entN, nlL, nlA, fbs, chs, Cs, Fs]) (by simp)) ?_
      intro x hx
      refine w_sr mo (by rw [hN]; decide) fun K hK => ?_ -- region 7
      simp
      refine hK _ ?_
      clear hK K
      refine w_seq ?_
      refine w_cond rfl (fun h => ?_) fun h => ?_
      · simp at h
        have hx1 : x < f.sz.length := by omega
        clear h
        have l0 := fbs_length f x hx
        have z0 := all_ix hs.1.sz (j := x) (by omega) (by omega)
        refine w_skip ?_
        refine w_seq ?_
        refine w_block ?_
        refine w_sr mo (by rw [hN]; decide) fun K hK => ?_ -- region 8
        simp [hx1, at_ix]
        refine hK _ ?_
        clear hK K
        refine w_run mo (by rw [hN]; decide) fun K hK => ?_ -- region 9 DRAWN
        simp
        refine callA_intro (c24 (ix f.sz x).toNat (by omega)) (by rw [Int.toNat_of_nonneg z0.1]; exact .cons .val .nil) ?_
        simp [unk, unA, unE, unC, flat, Cat.cells]
        refine ⟨by omega, hK _ ?_⟩
        clear hK K
        refine w_run mo (by rw [hN]; decide) fun K hK => ?_ -- region 10
        simp
        refine hK _ ?_
        clear hK K
        rw [wrap_succ (n := f.sz.length) (by omega) (by omega), take_fbs f x hx, fbs_length f x hx]
        refine ⟨x + 1, by omega, by dsimp only; omega, (Wk.rel [(0, 0), (1, 1), (5, 5), (6, 6), (7, 7), (8, 8), (9, 9), (18, 10), (11, 11)] (by simp) (by simp) (by rw [hP]; simp) (by simp) (by simp) (by simp [fbs_succ f x hx1, Cat.cells]) (by simp [hhOk, back, fbs_succ f x hx1, Cat.cells]))⟩
      · simp at h
        have hx2 : x = f.sz.length := by omega
        subst hx2
        refine w_exit ?_
        simp
        refine w_seq ?_
        refine w_sr mo (by rw [hN]; decide) fun K hK => ?_ -- region 11
        simp
        refine hK _ ?_
        clear hK K
        refine w_block ?_
        refine w_loop (fun a : Nat => ⟨[(1, .adr 0 0 0), (2, .adr 1 0 0), (4, .adr 9 0 0), (36, .lst u 1 (Ls f.ac)), (37, .val (.int .i64 f.ac.length)), (38, .val (.int .i64 a))], [(0, .mix 7 [[.val (.int .i64 f.s.n), .lst u 1 (Is f.s.fr), .lst u 1 (Is f.s.to), .lst u 1 (Is f.s.id), .lst u 1 (Ls f.s.cs), .lst u 1 (Is f.sz), .lst u 1 (Ls f.ac)]]), (1, .mix 7 [[.val (.int .i64 0), .val (.slice none 0 0), .val (.slice none 0 0), .val (.slice none 0 0), .val (.slice none 0 0), .val (.slice none 0 0), .val (.slice none 0 0)]]), (5, .row 1 (Is f.s.fr)), (6, .row 1 (Is f.s.to)), (7, .row 1 (Is f.s.id)), (8, .row 1 (Ls f.s.cs)), (9, .mix 7 [[.val (.int .i64 f.s.n), .own 5 0 f.s.fr.length, .own 6 0 f.s.to.length, .own 7 0 f.s.id.length, .own 8 0 f.s.cs.length, .own 10 0 f.sz.length, .own 11 0 a]]), (10, .row 5 (Cs (fbs f f.sz.length))), (11, .row 12 (Fs (chs f a)))], 12⟩) (fun a => a ≤ f.ac.length) (fun a => f.ac.length - a) 0 (by simp) (Wk.rel [(0, 0), (1, 1), (5, 5), (6, 6), (7, 7), (8, 8), (9, 9), (10, 10), (11, 11)] (by simp) (by simp) (by rw [hP]; simp) (by simp) (by simp) (by simp) (by simp [hhOk, back])) ?_
        intro a ha
        refine w_sr mo (by rw [hN]; decide) fun K hK => ?_ -- region 12
        simp
        refine hK _ ?_
        clear hK K
        refine w_seq ?_
        refine w_cond rfl (fun h => ?_) fun h => ?_
        · simp at h
          have ha1 : a < f.s.fr.length := by omega
          clear h
          have a1 := hC.fr' (j := a) (by omega) (by omega)
          have a2 := hC.to' (j := a) (by omega) (by omega)
          have a3 := fbs_at' f a1.1 (by omega)
          have a4 := fbs_at' f a2.1 (by omega)
          have l1 := fbs_length f f.sz.length (Nat.le_refl _)
          have a5 := fbs_at f a1.1 (by omega)
          have a6 := fbs_at f a2.1 (by omega)
          refine w_skip ?_
          refine w_seq ?_
          refine w_block ?_
          refine w_sr mo (by rw [hN]; decide) fun K hK => ?_ -- region 13
          simp [show a < f.ac.length by omega, at_rx]
          refine hK _ ?_
          clear hK K
          refine w_run mo (by rw [hN]; decide) fun K hK => ?_ -- region 14 DRAWN
          simp [-Cs_at, -Cs_at', l1, a1.1, a2.1, ha1, show a < f.s.to.length by omega, at_ix, show ix f.s.fr a < f.sz.length by omega, show ix f.s.to a < f.sz.length by omega]
          refine callA_intro (c25 true true true true (chn f a) [] [] (chn_ok hs.1 ha1)) (.cons (.adrRow (sz := 5) (es := Cs (fbs f f.sz.length)) (by simp [cont]) rfl (by simp [l1]; omega) (by simp [Cat.cells]) (by simp [-Cs_at, -Cs_at', a5, Cat.cells, chn])) (.cons (.adrRow (sz := 5) (es := Cs (fbs f f.sz.length)) (by simp [cont]) rfl (by simp [l1]; omega) (by simp [Cat.cells]) (by simp [-Cs_at, -Cs_at', a6, Cat.cells, chn])) (.cons .lst (.cons .lst .nil)))) ?_
          simp [unk, unA, unE, unC, flat, Fn.cells]
          refine ⟨by omega, hK _ ?_⟩
          clear hK K
          refine w_run mo (by rw [hN]; decide) fun K hK => ?_ -- region 15
          simp
          refine hK _ ?_
          clear hK K
          rw [wrap_succ (n := f.ac.length) (by omega) (by omega)]
          refine ⟨a + 1, by omega, by dsimp only; omega, (Wk.rel [(0, 0), (1, 1), (5, 5), (6, 6), (7, 7), (8, 8), (9, 9), (10, 10), (25, 11)] (by simp) (by simp) (by rw [hP]; simp) (by simp) (by simp) (by simp [chs_succ f a, Fn.cells]) (by simp [hhOk, back, chs_succ f a, Fn.cells]))⟩
        · simp at h
          have ha2 : a = f.ac.length := by omega
          subst ha2
          have l1 := fbs_length f f.sz.length (Nat.le_refl _)
          refine w_exit ?_
          simp
          refine w_sr mo (by rw [hN]; decide) fun K hK => ?_ -- region 16
          simp
          refine hK _ ?_
          clear hK K
          refine w_ret ⟨_, .cell y33 rfl rfl rfl (by simp) (by simp) (.tmp .nil), ?_⟩
          rw [sout, sres3 hs hL]
          refine ⟨.agg rfl (.one rfl rfl .nil), [.val (.int .i64 f.s.n), .lst true 1 (Is f.s.fr), .lst true 1 (Is f.s.to), .lst true 1 (Is f.s.id), .lst true 1 (Ls f.s.cs), .lst true 5 (Cs (fbs f f.sz.length)), .lst true 12 (Fs (chs f f.ac.length)), .val (.int .i64 0)], [5, 6, 7, 8, 10, 11], ?_, by simp, UpL.refl _⟩
          simp [l1]

end Go.Vc.T

namespace Go.Vc.T
open Go Go.Vc Go.Proofs

theorem less_ok {l : Int} {n : Nat} (h : 0 ≤ less l n) : (n : Int) ≤ l ∧ less l n = l - n := by
  unfold less at h ⊢
  split at h
  · omega
  · rename_i h1; rw [if_neg h1]; omega
theorem nn_ok {a : Int} {f : Int → Int} (h : 0 ≤ nn a f) : 0 ≤ a ∧ 0 ≤ f a ∧ nn a f = f a := by
  unfold nn at h ⊢
  split at h
  · omega
  · rename_i h1; rw [if_neg h1]; exact ⟨by omega, h, rfl⟩
theorem lessS_ok (xs : List (List Int)) : ∀ l : Int, 0 ≤ lessS l xs → (sumL xs : Int) ≤ l ∧ (∀ x ∈ xs, (x.length : Int) ≤ l) ∧ lessS l xs = l - sumL xs := by
  induction xs with
  | nil => intro l h; simp only [lessS] at h ⊢; simp [sumL]; exact h
  | cons x r ih =>
    intro l h
    simp only [lessS] at h ⊢
    split at h
    · omega
    · rename_i h1
      rw [if_neg h1]
      obtain ⟨a1, a2⟩ := less_ok (l := l) (n := x.length) (by omega)
      rw [a2] at h ⊢
      obtain ⟨b1, b2, b3⟩ := ih _ h
      have hs : sumL (x :: r) = x.length + sumL r := by simp [sumL]
      refine ⟨by rw [hs]; push_cast; omega, fun y hy => ?_, by rw [b3, hs]; push_cast; omega⟩
      rcases List.mem_cons.1 hy with rfl | hy
      · exact a1
      · have := b2 y hy; omega
theorem lessSS_ok {l : Int} {xs : List (List Int)} (h : 0 ≤ lessSS l xs) : (xs.length : Int) ≤ l ∧ (sumL xs : Int) ≤ l ∧ (∀ x ∈ xs, (x.length : Int) ≤ l) ∧ lessSS l xs ≤ l := by
  unfold lessSS at h ⊢
  split at h
  · omega
  · rename_i h1
    rw [if_neg h1]
    obtain ⟨b1, b2, b3⟩ := lessS_ok xs _ h
    exact ⟨by omega, by omega, fun x hx => by have := b2 x hx; omega, by omega⟩
theorem szCat_ok {l : Int} {c : Cat} (hl : l ≤ 1048576) (h : 0 ≤ szCat l c) : c.ok := by
  unfold szCat at h
  obtain ⟨a1, a2, _⟩ := nn_ok h
  obtain ⟨b1, b2, _⟩ := nn_ok a2
  obtain ⟨c1, c2, _⟩ := nn_ok b2
  obtain ⟨d1, d2, _⟩ := nn_ok c2
  obtain ⟨e1, e2⟩ := less_ok a1
  obtain ⟨f1, f2⟩ := less_ok b1
  obtain ⟨g1, g2⟩ := less_ok c1
  obtain ⟨h1, h2, h3, _⟩ := lessSS_ok d1
  exact ⟨by omega, by omega, by omega, by omega, fun x hx => by have := h3 x hx; omega, by omega⟩
theorem szSF_ok {f : SF} (h : 0 ≤ szSF 1048576 f) : f.ok := by
  unfold szSF at h
  obtain ⟨a1, a2, _⟩ := nn_ok h
  obtain ⟨b1, b2, _⟩ := nn_ok a2
  obtain ⟨c1, c2, _⟩ := nn_ok b2
  have hc := szCat_le (l := 1048576) (c := f.s) (by omega)
  obtain ⟨e1, e2⟩ := less_ok b1
  obtain ⟨h1, h2, h3, _⟩ := lessSS_ok c1
  exact ⟨szCat_ok (by omega) a1, by omega, by omega, fun x hx => by have := h3 x hx; omega, by omega⟩

theorem sumB_bound {α : Type} {sz : α → Nat} {b : Nat} : ∀ {l : List α}, (∀ x ∈ l, sz x ≤ b) → sumB sz l ≤ l.length * b := by
  intro l
  induction l with
  | nil => intro _; simp [sumB]
  | cons x r ih =>
    intro h
    have h1 := ih fun xs hx => h xs (List.mem_cons_of_mem _ hx)
    have h2 := h x (by simp)
    simp only [sumB, List.map_cons, List.sum_cons, List.length_cons] at h1 ⊢
    rw [Nat.add_mul]
    omega
theorem loose_size {n : Nat} (hn : n ≤ 16) : (loose n).sizeE ≤ 1000 := by
  have hr : ∀ xs ∈ lrows n n, xs.length ≤ 16 := by
    intro xs hx
    simp only [lrows, List.mem_map] at hx
    obtain ⟨i, _, rfl⟩ := hx
    simpa using hn
  have h1 := sumL_bound hr
  simp only [lrows_length] at h1
  have : n * 16 ≤ 16 * 16 := Nat.mul_le_mul_right _ hn
  simp only [Cat.sizeE, Cat.size, loose, iota_length]
  omega
theorem Cat.Sh.size {c : Cat} (hs : c.Sh) : c.size ≤ 2000 := by
  have h0 := hs.n8
  have h1 := hs.li
  have h2 := hs.m40
  have hr : ∀ xs ∈ c.cs, xs.length ≤ 40 := by
    intro xs hx
    obtain ⟨i, hi, rfl⟩ := List.getElem_of_mem hx
    rw [at_rx _ _ hi, hs.row' (by omega) (by have := hs.lc; omega)]
    exact h2
  have h3 := sumL_bound hr
  have h4 := hs.lc
  have h5 := hs.lt
  have : c.cs.length * 40 ≤ 40 * 40 := Nat.mul_le_mul_right _ (by omega)
  simp only [Cat.size]
  omega
theorem sf_sz {f : SF} (hs : f.Sh) {z : Int} (hz : z ∈ f.sz) : z.toNat ≤ 16 := by
  have := hs.sz z hz
  simp [inR] at this
  omega
theorem fam_ok {f : SF} (hs : f.Sh) : (famOf f).ok ∧ (famOf f).size ≤ 1000000 := by
  have hC := hs.cat.1
  have h8 := hC.n8
  have h40 := hC.m40
  have hl := hs.ls
  have hl2 := hC.li
  have hl3 := hs.la
  have e1 := fbs_length f f.sz.length (Nat.le_refl _)
  have m1 : ∀ c ∈ fbs f f.sz.length, ∃ n, n ≤ 16 ∧ c = loose n := by
    intro c hc
    simp only [fbs, List.mem_map, List.take_length] at hc
    obtain ⟨z, hz, rfl⟩ := hc
    exact ⟨_, sf_sz hs hz, rfl⟩
  have m2 : ∀ c ∈ chs f f.ac.length, ∃ a, a < f.s.fr.length ∧ c = chn f a := by
    intro c hc
    simp only [chs, List.mem_map, List.mem_range] at hc
    obtain ⟨a, ha, rfl⟩ := hc
    exact ⟨a, by omega, rfl⟩
  have b1 : sumB Cat.sizeE (fbs f f.sz.length) ≤ (fbs f f.sz.length).length * 1000 := sumB_bound fun c hc => by
    obtain ⟨n, hn, rfl⟩ := m1 c hc; exact loose_size hn
  have b2 : sumB Fn.sizeE (chs f f.ac.length) ≤ (chs f f.ac.length).length * 3000 := sumB_bound fun c hc => by
    obtain ⟨a, ha, rfl⟩ := m2 c hc
    have h1 := hC.fr' (j := a) (by omega) (by omega)
    have h2 := hC.to' (j := a) (by omega) (by omega)
    have h3 := all_ix hs.sz (j := ix f.s.fr a) (by omega) (by omega)
    have h4 := all_ix hs.sz (j := ix f.s.to a) (by omega) (by omega)
    have h5 := hs.len' (j := a) (by omega) (by omega)
    have k1 : (loose (ix f.sz (ix f.s.fr a)).toNat).sizeE ≤ 1000 := loose_size (by omega)
    have k2 : (loose (ix f.sz (ix f.s.to a)).toNat).sizeE ≤ 1000 := loose_size (by omega)
    simp only [Fn.sizeE, chn]
    omega
  rw [e1] at b1
  simp only [chs_length] at b2
  have n1 : f.sz.length * 1000 ≤ 8 * 1000 := Nat.mul_le_mul_right _ (by omega)
  have n2 : f.ac.length * 3000 ≤ 40 * 3000 := Nat.mul_le_mul_right _ (by omega)
  have n3 := hC.size
  refine ⟨⟨hC.ok, ?_, fun c hc => ?_, ?_, fun c hc => ?_⟩, ?_⟩
  · show (fbs f f.sz.length).length ≤ _; omega
  · obtain ⟨n, hn, rfl⟩ := m1 c hc; exact loose_ok (by omega)
  · show (chs f f.ac.length).length ≤ _; rw [chs_length]; omega
  · obtain ⟨a, ha, rfl⟩ := m2 c hc; exact chn_ok hs ha
  · show f.s.size + sumB Cat.sizeE (fbs f f.sz.length) + sumB Fn.sizeE (chs f f.ac.length) ≤ _; omega
theorem sres_ok (f : SF) : (sres f).1.ok ∧ (sres f).1.size ≤ 1000000 := by
  have h0 : fam0.ok ∧ fam0.size ≤ 1000000 := by
    refine ⟨⟨⟨?_, ?_, ?_, ?_, ?_, ?_⟩, ?_, ?_, ?_, ?_⟩, ?_⟩ <;> simp [fam0, sumL, Fam.size, Cat.size, sumB]
  by_cases h1 : f.Is
  · by_cases h2 : f.Lim
    · rw [sres3 h1 h2]; exact fam_ok h1.1
    · rw [sres2 h1 h2]; exact h0
  · rw [sres1 h1]; exact h0

set_option maxRecDepth 100000 in
theorem c3 (u : Bool) (f : SF) : Contract Try.prog 3 [.agg (f.cells u)] (.val (.bool true)) := by
  refine contract_intro (rs := [.val (.bool true)]) Try.func3 rfl rfl rfl rfl (by simp [Try.f3]) fun F hN hP => ?_
  have h5 : ∀ v, Contract Try.prog 5 [.agg (f.cells v)] (.tup (sout f)) := fun v => c5 v f
  have h7 : ∀ v, Contract Try.prog 7 [.agg (f.cells v)] (.tup (sout f)) := fun v => c7 v f
  obtain ⟨hr, hrs⟩ := sres_ok f
  unfold sout at h5 h7
  generalize sres f = rc at h5 h7 hr hrs
  obtain ⟨r, code⟩ := rc
  simp only at h5 h7 hr hrs
  refine w_sr mo (by rw [hN]; decide) fun K hK => ?_ -- region 0
  simp [SF.cells]
  refine hK _ ?_
  clear hK K
  refine w_sr mo (by rw [hN]; decide) fun K hK => ?_ -- region 1
  simp
  refine hK _ ?_
  clear hK K
  refine w_sr mo (by rw [hN]; decide) fun K hK => ?_ -- region 2
  simp
  refine callA_intro (c4 u f 1048576 (by omega) (by omega)) (.cons (.aggL SF.pur) (.cons .val .nil)) ?_
  simp [unk, unA, unE, flat]
  refine hK _ ?_
  clear hK K
  refine w_seq ?_
  refine w_sr mo (by rw [hN]; decide) fun K hK => ?_ -- region 3
  simp
  refine hK _ ?_
  clear hK K
  refine w_cond rfl (fun g => ?_) fun g => ?_
  · refine w_sr mo (by rw [hN]; decide) fun K hK => ?_ -- region 4
    simp
    refine hK _ ?_
    clear hK K
    refine w_ret (ret_val rfl rfl)
  · have hok : f.ok := szSF_ok (by simpa using g)
    have hz : f.size = f.s.size + f.sz.length + sumL f.ac := rfl
    have hk1 : f.size ≤ 4398046511104 := by
      obtain ⟨⟨k1, k2, k3, k4, k5, k6⟩, k7, k8, k9, k10⟩ := hok
      simp only [SF.size, Cat.size]
      omega
    refine w_skip ?_
    refine w_weak (st' := ⟨[(1, .adr 0 0 0)], [(0, .mix 7 [[.val (.int .i64 f.s.n), .lst u 1 (Is f.s.fr), .lst u 1 (Is f.s.to), .lst u 1 (Is f.s.id), .lst u 1 (Ls f.s.cs), .lst u 1 (Is f.sz), .lst u 1 (Ls f.ac)]])], 1⟩) (Wk.rel [(0, 0)] (by simp) (by simp) (by rw [hP]; simp) (by simp) (by simp) (by simp) (by simp [hhOk, back])) ?_
    refine w_sr mo (by rw [hN]; decide) fun K hK => ?_ -- region 5
    simp
    refine callA_intro (c6 u f hok) (.cons (.aggL SF.pur) .nil) ?_
    simp [unk, unA, unE, unC, flat, SF.cells]
    refine callA_intro (h5 true) (.cons (.aggL (.cons .val (.cons (.whole rfl rfl (by simp)) (.cons (.whole rfl rfl (by simp)) (.cons (.whole rfl rfl (by simp)) (.cons (.whole rfl rfl (by simp)) (.cons (.whole rfl rfl (by simp)) (.cons (.whole rfl rfl (by simp)) .nil)))))))) .nil) ?_
    simp [unk, unA, unE, unT, unC, flat, Fam.cells]
    refine hK _ ?_
    clear hK K
    refine w_weak (st' := ⟨[(1, .adr 0 0 0), (4, .adr 1 0 0), (5, .val (.int .i64 code))], [(0, .mix 7 [[.val (.int .i64 f.s.n), .lst u 1 (Is f.s.fr), .lst u 1 (Is f.s.to), .lst u 1 (Is f.s.id), .lst u 1 (Ls f.s.cs), .lst u 1 (Is f.sz), .lst u 1 (Ls f.ac)]]), (1, .mix 7 [[.val (.int .i64 r.b.n), .own 2 0 r.b.fr.length, .own 3 0 r.b.to.length, .own 4 0 r.b.id.length, .own 5 0 r.b.cs.length, .own 6 0 r.fb.length, .own 7 0 r.ch.length]]), (2, .row 1 (Is r.b.fr)), (3, .row 1 (Is r.b.to)), (4, .row 1 (Is r.b.id)), (5, .row 1 (Ls r.b.cs)), (6, .row 5 (Cs r.fb)), (7, .row 12 (Fs r.ch))], 8⟩) (Wk.rel [(0, 0), (16, 1), (9, 2), (10, 3), (11, 4), (12, 5), (13, 6), (14, 7)] (by simp) (by simp) (by rw [hP]; simp) (by simp) (by simp) (by simp) (by simp [hhOk, back])) ?_
    refine w_sr mo (by rw [hN]; decide) fun K hK => ?_ -- region 6
    simp
    refine callA_intro (c6 u f hok) (.cons (.aggL SF.pur) .nil) ?_
    simp [unk, unA, unE, unC, flat, SF.cells]
    refine hK _ ?_
    clear hK K
    refine w_weak (st' := ⟨[(1, .adr 0 0 0), (4, .adr 1 0 0), (5, .val (.int .i64 code)), (6, .adr 8 0 0)], [(0, .mix 7 [[.val (.int .i64 f.s.n), .lst u 1 (Is f.s.fr), .lst u 1 (Is f.s.to), .lst u 1 (Is f.s.id), .lst u 1 (Ls f.s.cs), .lst u 1 (Is f.sz), .lst u 1 (Ls f.ac)]]), (1, .mix 7 [[.val (.int .i64 r.b.n), .own 2 0 r.b.fr.length, .own 3 0 r.b.to.length, .own 4 0 r.b.id.length, .own 5 0 r.b.cs.length, .own 6 0 r.fb.length, .own 7 0 r.ch.length]]), (2, .row 1 (Is r.b.fr)), (3, .row 1 (Is r.b.to)), (4, .row 1 (Is r.b.id)), (5, .row 1 (Ls r.b.cs)), (6, .row 5 (Cs r.fb)), (7, .row 12 (Fs r.ch)), (8, .mix 7 [[.val (.int .i64 f.s.n), .own 9 0 f.s.fr.length, .own 10 0 f.s.to.length, .own 11 0 f.s.id.length, .own 12 0 f.s.cs.length, .own 13 0 f.sz.length, .own 14 0 f.ac.length]]), (9, .row 1 (Is f.s.fr)), (10, .row 1 (Is f.s.to)), (11, .row 1 (Is f.s.id)), (12, .row 1 (Ls f.s.cs)), (13, .row 1 (Is f.sz)), (14, .row 1 (Ls f.ac))], 15⟩) (Wk.rel [(0, 0), (1, 1), (2, 2), (3, 3), (4, 4), (5, 5), (6, 6), (7, 7), (15, 8), (9, 9), (10, 10), (11, 11), (12, 12), (13, 13), (14, 14)] (by simp) (by simp) (by rw [hP]; simp) (by simp) (by simp) (by simp) (by simp [hhOk, back])) ?_
    refine w_sr mo (by rw [hN]; decide) fun K hK => ?_ -- region 7
    simp
    refine callA_intro (h7 true) (.cons (.aggL (.cons .val (.cons (.whole rfl rfl (by simp)) (.cons (.whole rfl rfl (by simp)) (.cons (.whole rfl rfl (by simp)) (.cons (.whole rfl rfl (by simp)) (.cons (.whole rfl rfl (by simp)) (.cons (.whole rfl rfl (by simp)) .nil)))))))) .nil) ?_
    simp [unk, unA, unE, unT, unC, flat, Fam.cells]
    refine hK _ ?_
    clear hK K
    refine w_weak (st' := ⟨[(1, .adr 0 0 0), (4, .adr 1 0 0), (5, .val (.int .i64 code)), (6, .adr 8 0 0), (7, .adr 15 0 0), (8, .val (.int .i64 code))], [(0, .mix 7 [[.val (.int .i64 f.s.n), .lst u 1 (Is f.s.fr), .lst u 1 (Is f.s.to), .lst u 1 (Is f.s.id), .lst u 1 (Ls f.s.cs), .lst u 1 (Is f.sz), .lst u 1 (Ls f.ac)]]), (1, .mix 7 [[.val (.int .i64 r.b.n), .own 2 0 r.b.fr.length, .own 3 0 r.b.to.length, .own 4 0 r.b.id.length, .own 5 0 r.b.cs.length, .own 6 0 r.fb.length, .own 7 0 r.ch.length]]), (2, .row 1 (Is r.b.fr)), (3, .row 1 (Is r.b.to)), (4, .row 1 (Is r.b.id)), (5, .row 1 (Ls r.b.cs)), (6, .row 5 (Cs r.fb)), (7, .row 12 (Fs r.ch)), (8, .mix 7 [[.val (.int .i64 f.s.n), .own 9 0 f.s.fr.length, .own 10 0 f.s.to.length, .own 11 0 f.s.id.length, .own 12 0 f.s.cs.length, .own 13 0 f.sz.length, .own 14 0 f.ac.length]]), (9, .row 1 (Is f.s.fr)), (10, .row 1 (Is f.s.to)), (11, .row 1 (Is f.s.id)), (12, .row 1 (Ls f.s.cs)), (13, .row 1 (Is f.sz)), (14, .row 1 (Ls f.ac)), (15, .mix 7 [[.val (.int .i64 r.b.n), .own 16 0 r.b.fr.length, .own 17 0 r.b.to.length, .own 18 0 r.b.id.length, .own 19 0 r.b.cs.length, .own 20 0 r.fb.length, .own 21 0 r.ch.length]]), (16, .row 1 (Is r.b.fr)), (17, .row 1 (Is r.b.to)), (18, .row 1 (Is r.b.id)), (19, .row 1 (Ls r.b.cs)), (20, .row 5 (Cs r.fb)), (21, .row 12 (Fs r.ch))], 22⟩) (Wk.rel [(0, 0), (1, 1), (2, 2), (3, 3), (4, 4), (5, 5), (6, 6), (7, 7), (8, 8), (9, 9), (10, 10), (11, 11), (12, 12), (13, 13), (14, 14), (23, 15), (16, 16), (17, 17), (18, 18), (19, 19), (20, 20), (21, 21)] (by simp) (by simp) (by rw [hP]; simp) (by simp) (by simp) (by simp) (by simp [hhOk, back])) ?_
    refine w_seq ?_
    refine w_sr mo (by rw [hN]; decide) fun K hK => ?_ -- region 8
    simp
    refine callA_intro (c8 true true r) (.cons (.aggL (.cons .val (.cons (.whole rfl rfl (by simp)) (.cons (.whole rfl rfl (by simp)) (.cons (.whole rfl rfl (by simp)) (.cons (.whole rfl rfl (by simp)) (.cons (.whole rfl rfl (by simp)) (.cons (.whole rfl rfl (by simp)) .nil)))))))) (.cons (.aggL (.cons .val (.cons (.whole rfl rfl (by simp)) (.cons (.whole rfl rfl (by simp)) (.cons (.whole rfl rfl (by simp)) (.cons (.whole rfl rfl (by simp)) (.cons (.whole rfl rfl (by simp)) (.cons (.whole rfl rfl (by simp)) .nil)))))))) .nil)) ?_
    simp [unk, unA, unE, flat]
    refine hK _ ?_
    clear hK K
    refine w_cond rfl (fun h => by simp at h) fun _ => ?_
    refine w_skip ?_
    refine w_seq ?_
    refine w_sr mo (by rw [hN]; decide) fun K hK => ?_ -- region 10 DRAWN
    simp
    refine callA_intro (c6 u f hok) (.cons (.aggL SF.pur) .nil) ?_
    simp [unk, unA, unE, unC, flat, SF.cells]
    refine callA_intro (c9 true true f) (.cons (.aggL (.cons .val (.cons (.whole rfl rfl (by simp)) (.cons (.whole rfl rfl (by simp)) (.cons (.whole rfl rfl (by simp)) (.cons (.whole rfl rfl (by simp)) (.cons (.whole rfl rfl (by simp)) (.cons (.whole rfl rfl (by simp)) .nil)))))))) (.cons (.aggL (.cons .val (.cons (.whole rfl rfl (by simp)) (.cons (.whole rfl rfl (by simp)) (.cons (.whole rfl rfl (by simp)) (.cons (.whole rfl rfl (by simp)) (.cons (.whole rfl rfl (by simp)) (.cons (.whole rfl rfl (by simp)) .nil)))))))) .nil)) ?_
    simp [unk, unA, unE, flat]
    refine hK _ ?_
    clear hK K
    refine w_cond rfl (fun h => by simp at h) fun _ => ?_
    refine w_skip ?_
    refine w_weak (st' := ⟨[(1, .adr 0 0 0), (4, .adr 1 0 0), (5, .val (.int .i64 code)), (6, .adr 8 0 0), (7, .adr 15 0 0), (8, .val (.int .i64 code))], [(0, .mix 7 [[.val (.int .i64 f.s.n), .lst u 1 (Is f.s.fr), .lst u 1 (Is f.s.to), .lst u 1 (Is f.s.id), .lst u 1 (Ls f.s.cs), .lst u 1 (Is f.sz), .lst u 1 (Ls f.ac)]]), (1, .mix 7 [[.val (.int .i64 r.b.n), .own 2 0 r.b.fr.length, .own 3 0 r.b.to.length, .own 4 0 r.b.id.length, .own 5 0 r.b.cs.length, .own 6 0 r.fb.length, .own 7 0 r.ch.length]]), (2, .row 1 (Is r.b.fr)), (3, .row 1 (Is r.b.to)), (4, .row 1 (Is r.b.id)), (5, .row 1 (Ls r.b.cs)), (6, .row 5 (Cs r.fb)), (7, .row 12 (Fs r.ch)), (8, .mix 7 [[.val (.int .i64 f.s.n), .own 9 0 f.s.fr.length, .own 10 0 f.s.to.length, .own 11 0 f.s.id.length, .own 12 0 f.s.cs.length, .own 13 0 f.sz.length, .own 14 0 f.ac.length]]), (9, .row 1 (Is f.s.fr)), (10, .row 1 (Is f.s.to)), (11, .row 1 (Is f.s.id)), (12, .row 1 (Ls f.s.cs)), (13, .row 1 (Is f.sz)), (14, .row 1 (Ls f.ac)), (15, .mix 7 [[.val (.int .i64 r.b.n), .own 16 0 r.b.fr.length, .own 17 0 r.b.to.length, .own 18 0 r.b.id.length, .own 19 0 r.b.cs.length, .own 20 0 r.fb.length, .own 21 0 r.ch.length]]), (16, .row 1 (Is r.b.fr)), (17, .row 1 (Is r.b.to)), (18, .row 1 (Is r.b.id)), (19, .row 1 (Ls r.b.cs)), (20, .row 5 (Cs r.fb)), (21, .row 12 (Fs r.ch))], 22⟩) (Wk.rel [(0, 0), (1, 1), (2, 2), (3, 3), (4, 4), (5, 5), (6, 6), (7, 7), (8, 8), (9, 9), (10, 10), (11, 11), (12, 12), (13, 13), (14, 14), (15, 15), (16, 16), (17, 17), (18, 18), (19, 19), (20, 20), (21, 21)] (by simp) (by simp) (by rw [hP]; simp) (by simp) (by simp) (by simp) (by simp [hhOk, back])) ?_
    refine w_sr mo (by rw [hN]; decide) fun K hK => ?_ -- region 12
    simp
    refine hK _ ?_
    clear hK K
    refine w_srM mo (by rw [hN]; decide) fun K hK => ?_ -- region 13
    simp
    refine callA_roots (m := [9, 10, 11, 12, 13, 14]) (m10 f 1 hok (by omega) (by omega)) (by decide) (.cons rfl (.cons rfl (.cons rfl (.cons rfl (.cons rfl (.cons rfl .nil)))))) (.cons (.aggL (.cons .val (.cons (.own (j := 0) (by decide)) (.cons (.own (j := 1) (by decide)) (.cons (.own (j := 2) (by decide)) (.cons (.own (j := 3) (by decide)) (.cons (.own (j := 4) (by decide)) (.cons (.own (j := 5) (by decide)) .nil)))))))) (.cons .val .nil)) rfl (by simp) ?_
    simp [rsets, SF.mu]
    refine hK _ ?_
    clear hK K
    refine w_weak (st' := ⟨[(1, .adr 0 0 0), (4, .adr 1 0 0), (5, .val (.int .i64 code)), (7, .adr 15 0 0), (8, .val (.int .i64 code)), (9, .val (.int .i64 (1 + f.size)))], [(0, .mix 7 [[.val (.int .i64 f.s.n), .lst u 1 (Is f.s.fr), .lst u 1 (Is f.s.to), .lst u 1 (Is f.s.id), .lst u 1 (Ls f.s.cs), .lst u 1 (Is f.sz), .lst u 1 (Ls f.ac)]]), (1, .mix 7 [[.val (.int .i64 r.b.n), .own 2 0 r.b.fr.length, .own 3 0 r.b.to.length, .own 4 0 r.b.id.length, .own 5 0 r.b.cs.length, .own 6 0 r.fb.length, .own 7 0 r.ch.length]]), (2, .row 1 (Is r.b.fr)), (3, .row 1 (Is r.b.to)), (4, .row 1 (Is r.b.id)), (5, .row 1 (Ls r.b.cs)), (6, .row 5 (Cs r.fb)), (7, .row 12 (Fs r.ch)), (15, .mix 7 [[.val (.int .i64 r.b.n), .own 16 0 r.b.fr.length, .own 17 0 r.b.to.length, .own 18 0 r.b.id.length, .own 19 0 r.b.cs.length, .own 20 0 r.fb.length, .own 21 0 r.ch.length]]), (16, .row 1 (Is r.b.fr)), (17, .row 1 (Is r.b.to)), (18, .row 1 (Is r.b.id)), (19, .row 1 (Ls r.b.cs)), (20, .row 5 (Cs r.fb)), (21, .row 12 (Fs r.ch))], 22⟩) (Wk.rel [(0, 0), (1, 1), (2, 2), (3, 3), (4, 4), (5, 5), (6, 6), (7, 7), (15, 15), (16, 16), (17, 17), (18, 18), (19, 19), (20, 20), (21, 21)] (by simp) (by simp) (by rw [hP]; simp) (by simp) (by simp) (by simp) (by simp [hhOk, back])) ?_
    refine w_seq ?_
    refine w_sr mo (by rw [hN]; decide) fun K hK => ?_ -- region 14
    simp [show ¬ ((1 : Int) + f.size < 0) by omega]
    refine callA_intro (c8 true true r) (.cons (.aggL (.cons .val (.cons (.whole rfl rfl (by simp)) (.cons (.whole rfl rfl (by simp)) (.cons (.whole rfl rfl (by simp)) (.cons (.whole rfl rfl (by simp)) (.cons (.whole rfl rfl (by simp)) (.cons (.whole rfl rfl (by simp)) .nil)))))))) (.cons (.aggL (.cons .val (.cons (.whole rfl rfl (by simp)) (.cons (.whole rfl rfl (by simp)) (.cons (.whole rfl rfl (by simp)) (.cons (.whole rfl rfl (by simp)) (.cons (.whole rfl rfl (by simp)) (.cons (.whole rfl rfl (by simp)) .nil)))))))) .nil)) ?_
    simp [unk, unA, unE, flat]
    refine hK _ ?_
    clear hK K
    refine w_cond rfl (fun h => by simp at h) fun _ => ?_
    refine w_skip ?_
    refine w_weak (st' := ⟨[(1, .adr 0 0 0), (4, .adr 1 0 0), (5, .val (.int .i64 code)), (7, .adr 15 0 0)], [(0, .mix 7 [[.val (.int .i64 f.s.n), .lst u 1 (Is f.s.fr), .lst u 1 (Is f.s.to), .lst u 1 (Is f.s.id), .lst u 1 (Ls f.s.cs), .lst u 1 (Is f.sz), .lst u 1 (Ls f.ac)]]), (1, .mix 7 [[.val (.int .i64 r.b.n), .own 2 0 r.b.fr.length, .own 3 0 r.b.to.length, .own 4 0 r.b.id.length, .own 5 0 r.b.cs.length, .own 6 0 r.fb.length, .own 7 0 r.ch.length]]), (2, .row 1 (Is r.b.fr)), (3, .row 1 (Is r.b.to)), (4, .row 1 (Is r.b.id)), (5, .row 1 (Ls r.b.cs)), (6, .row 5 (Cs r.fb)), (7, .row 12 (Fs r.ch)), (15, .mix 7 [[.val (.int .i64 r.b.n), .own 16 0 r.b.fr.length, .own 17 0 r.b.to.length, .own 18 0 r.b.id.length, .own 19 0 r.b.cs.length, .own 20 0 r.fb.length, .own 21 0 r.ch.length]]), (16, .row 1 (Is r.b.fr)), (17, .row 1 (Is r.b.to)), (18, .row 1 (Is r.b.id)), (19, .row 1 (Ls r.b.cs)), (20, .row 5 (Cs r.fb)), (21, .row 12 (Fs r.ch))], 22⟩) (Wk.rel [(0, 0), (1, 1), (2, 2), (3, 3), (4, 4), (5, 5), (6, 6), (7, 7), (15, 15), (16, 16), (17, 17), (18, 18), (19, 19), (20, 20), (21, 21)] (by simp) (by simp) (by rw [hP]; simp) (by simp) (by simp) (by simp) (by simp [hhOk, back])) ?_
    refine w_sr mo (by rw [hN]; decide) fun K hK => ?_ -- region 16
    simp
    refine hK _ ?_
    clear hK K
    refine w_srM mo (by rw [hN]; decide) fun K hK => ?_ -- region 17
    simp
    refine callA_roots (m := [16, 17, 18, 19, 20, 21]) (m11 r 1 hr (by omega) (by omega)) (by decide) (.cons rfl (.cons rfl (.cons rfl (.cons rfl (.cons rfl (.cons rfl .nil)))))) (.cons (.aggL (.cons .val (.cons (.own (j := 0) (by decide)) (.cons (.own (j := 1) (by decide)) (.cons (.own (j := 2) (by decide)) (.cons (.own (j := 3) (by decide)) (.cons (.own (j := 4) (by decide)) (.cons (.own (j := 5) (by decide)) .nil)))))))) (.cons .val .nil)) rfl (by simp) ?_
    simp [rsets, Fam.mu]
    refine hK _ ?_
    clear hK K
    refine w_weak (st' := ⟨[(1, .adr 0 0 0), (4, .adr 1 0 0), (5, .val (.int .i64 code)), (7, .adr 15 0 0), (10, .val (.int .i64 (1 + r.size)))], [(0, .mix 7 [[.val (.int .i64 f.s.n), .lst u 1 (Is f.s.fr), .lst u 1 (Is f.s.to), .lst u 1 (Is f.s.id), .lst u 1 (Ls f.s.cs), .lst u 1 (Is f.sz), .lst u 1 (Ls f.ac)]]), (1, .mix 7 [[.val (.int .i64 r.b.n), .own 2 0 r.b.fr.length, .own 3 0 r.b.to.length, .own 4 0 r.b.id.length, .own 5 0 r.b.cs.length, .own 6 0 r.fb.length, .own 7 0 r.ch.length]]), (2, .row 1 (Is r.b.fr)), (3, .row 1 (Is r.b.to)), (4, .row 1 (Is r.b.id)), (5, .row 1 (Ls r.b.cs)), (6, .row 5 (Cs r.fb)), (7, .row 12 (Fs r.ch)), (15, .mix 7 [[.val (.int .i64 r.b.n), .own 16 0 r.b.fr.length, .own 17 0 r.b.to.length, .own 18 0 r.b.id.length, .own 19 0 r.b.cs.length, .own 20 0 r.fb.length, .own 21 0 r.ch.length]]), (16, .row 1 (Is (r.mark 1).b.fr)), (17, .row 1 (Is (r.mark 1).b.to)), (18, .row 1 (Is (r.mark 1).b.id)), (19, .row 1 (Ls (r.mark 1).b.cs)), (20, .row 5 (Cs (r.mark 1).fb)), (21, .row 12 (Fs (r.mark 1).ch))], 22⟩) (Wk.rel [(0, 0), (1, 1), (2, 2), (3, 3), (4, 4), (5, 5), (6, 6), (7, 7), (15, 15), (16, 16), (17, 17), (18, 18), (19, 19), (20, 20), (21, 21)] (by simp) (by simp) (by rw [hP]; simp) (by simp) (by simp) (by simp) (by simp [hhOk, back, Fam.mark, Cat.mark])) ?_
    refine w_sr mo (by rw [hN]; decide) fun K hK => ?_ -- region 18
    simp
    refine hK _ ?_
    clear hK K
    refine w_sr mo (by rw [hN]; decide) fun K hK => ?_ -- region 19
    simp
    refine callA_intro (c12 true r 1 hr (by omega) (by omega)) (.cons (.aggL (.cons .val (.cons (.whole rfl rfl (by simp [Fam.mark, Cat.mark])) (.cons (.whole rfl rfl (by simp [Fam.mark, Cat.mark])) (.cons (.whole rfl rfl (by simp [Fam.mark, Cat.mark])) (.cons (.whole rfl rfl (by simp [Fam.mark, Cat.mark])) (.cons (.whole rfl rfl (by simp [Fam.mark, Cat.mark])) (.cons (.whole rfl rfl (by simp [Fam.mark, Cat.mark])) .nil)))))))) (.cons .val .nil)) ?_
    simp [unk, unA, unE, flat]
    refine hK _ ?_
    clear hK K
    refine w_seq ?_
    refine w_sr mo (by rw [hN]; decide) fun K hK => ?_ -- region 20
    simp
    refine hK _ ?_
    clear hK K
    refine w_cond rfl (fun g => ?_) fun g => ?_
    · simp at g
      omega
    · refine w_skip ?_
      refine w_seq ?_
      refine w_sr mo (by rw [hN]; decide) fun K hK => ?_ -- region 22
      simp
      refine hK _ ?_
      clear hK K
      refine w_cond rfl (fun h => by simp at h) fun _ => ?_
      refine w_skip ?_
      refine w_weak (st' := ⟨[(1, .adr 0 0 0), (4, .adr 1 0 0), (5, .val (.int .i64 code)), (7, .adr 15 0 0), (10, .val (.int .i64 (1 + r.size)))], [(0, .mix 7 [[.val (.int .i64 f.s.n), .lst u 1 (Is f.s.fr), .lst u 1 (Is f.s.to), .lst u 1 (Is f.s.id), .lst u 1 (Ls f.s.cs), .lst u 1 (Is f.sz), .lst u 1 (Ls f.ac)]]), (1, .mix 7 [[.val (.int .i64 r.b.n), .own 2 0 r.b.fr.length, .own 3 0 r.b.to.length, .own 4 0 r.b.id.length, .own 5 0 r.b.cs.length, .own 6 0 r.fb.length, .own 7 0 r.ch.length]]), (2, .row 1 (Is r.b.fr)), (3, .row 1 (Is r.b.to)), (4, .row 1 (Is r.b.id)), (5, .row 1 (Ls r.b.cs)), (6, .row 5 (Cs r.fb)), (7, .row 12 (Fs r.ch)), (15, .mix 7 [[.val (.int .i64 r.b.n), .own 16 0 r.b.fr.length, .own 17 0 r.b.to.length, .own 18 0 r.b.id.length, .own 19 0 r.b.cs.length, .own 20 0 r.fb.length, .own 21 0 r.ch.length]]), (16, .row 1 (Is (r.mark 1).b.fr)), (17, .row 1 (Is (r.mark 1).b.to)), (18, .row 1 (Is (r.mark 1).b.id)), (19, .row 1 (Ls (r.mark 1).b.cs)), (20, .row 5 (Cs (r.mark 1).fb)), (21, .row 12 (Fs (r.mark 1).ch))], 22⟩) (Wk.rel [(0, 0), (1, 1), (2, 2), (3, 3), (4, 4), (5, 5), (6, 6), (7, 7), (15, 15), (16, 16), (17, 17), (18, 18), (19, 19), (20, 20), (21, 21)] (by simp) (by simp) (by rw [hP]; simp) (by simp) (by simp) (by simp) (by simp [hhOk, back])) ?_
      refine w_sr mo (by rw [hN]; decide) fun K hK => ?_ -- region 24
      simp
      refine callA_intro (c6 u f hok) (.cons (.aggL SF.pur) .nil) ?_
      simp [unk, unA, unE, unC, flat, SF.cells]
      refine callA_intro (h7 true) (.cons (.aggL (.cons .val (.cons (.whole rfl rfl (by simp)) (.cons (.whole rfl rfl (by simp)) (.cons (.whole rfl rfl (by simp)) (.cons (.whole rfl rfl (by simp)) (.cons (.whole rfl rfl (by simp)) (.cons (.whole rfl rfl (by simp)) .nil)))))))) .nil) ?_
      simp [unk, unA, unE, unT, unC, flat, Fam.cells]
      refine hK _ ?_
      clear hK K
      refine w_weak (st' := ⟨[(4, .adr 1 0 0), (5, .val (.int .i64 code)), (7, .adr 15 0 0), (10, .val (.int .i64 (1 + r.size))), (12, .adr 0 0 0), (13, .val (.int .i64 code))], [(0, .mix 7 [[.val (.int .i64 r.b.n), .own 8 0 r.b.fr.length, .own 9 0 r.b.to.length, .own 10 0 r.b.id.length, .own 11 0 r.b.cs.length, .own 12 0 r.fb.length, .own 13 0 r.ch.length]]), (8, .row 1 (Is r.b.fr)), (9, .row 1 (Is r.b.to)), (10, .row 1 (Is r.b.id)), (11, .row 1 (Ls r.b.cs)), (12, .row 5 (Cs r.fb)), (13, .row 12 (Fs r.ch)), (1, .mix 7 [[.val (.int .i64 r.b.n), .own 2 0 r.b.fr.length, .own 3 0 r.b.to.length, .own 4 0 r.b.id.length, .own 5 0 r.b.cs.length, .own 6 0 r.fb.length, .own 7 0 r.ch.length]]), (2, .row 1 (Is r.b.fr)), (3, .row 1 (Is r.b.to)), (4, .row 1 (Is r.b.id)), (5, .row 1 (Ls r.b.cs)), (6, .row 5 (Cs r.fb)), (7, .row 12 (Fs r.ch)), (15, .mix 7 [[.val (.int .i64 r.b.n), .own 16 0 r.b.fr.length, .own 17 0 r.b.to.length, .own 18 0 r.b.id.length, .own 19 0 r.b.cs.length, .own 20 0 r.fb.length, .own 21 0 r.ch.length]]), (16, .row 1 (Is (r.mark 1).b.fr)), (17, .row 1 (Is (r.mark 1).b.to)), (18, .row 1 (Is (r.mark 1).b.id)), (19, .row 1 (Ls (r.mark 1).b.cs)), (20, .row 5 (Cs (r.mark 1).fb)), (21, .row 12 (Fs (r.mark 1).ch))], 22⟩) (Wk.rel [(37, 0), (30, 8), (31, 9), (32, 10), (33, 11), (34, 12), (35, 13), (1, 1), (2, 2), (3, 3), (4, 4), (5, 5), (6, 6), (7, 7), (15, 15), (16, 16), (17, 17), (18, 18), (19, 19), (20, 20), (21, 21)] (by simp) (by simp) (by rw [hP]; simp) (by simp) (by simp) (by simp) (by simp [hhOk, back])) ?_
      refine w_seq ?_
      refine w_sr mo (by rw [hN]; decide) fun K hK => ?_ -- region 25
      simp
      refine callA_intro (c8 true true r) (.cons (.aggL (.cons .val (.cons (.whole rfl rfl (by simp)) (.cons (.whole rfl rfl (by simp)) (.cons (.whole rfl rfl (by simp)) (.cons (.whole rfl rfl (by simp)) (.cons (.whole rfl rfl (by simp)) (.cons (.whole rfl rfl (by simp)) .nil)))))))) (.cons (.aggL (.cons .val (.cons (.whole rfl rfl (by simp)) (.cons (.whole rfl rfl (by simp)) (.cons (.whole rfl rfl (by simp)) (.cons (.whole rfl rfl (by simp)) (.cons (.whole rfl rfl (by simp)) (.cons (.whole rfl rfl (by simp)) .nil)))))))) .nil)) ?_
      simp [unk, unA, unE, flat]
      refine hK _ ?_
      clear hK K
      refine w_cond rfl (fun h => by simp at h) fun _ => ?_
      refine w_skip ?_
      refine w_weak (st' := ⟨[(7, .adr 15 0 0), (10, .val (.int .i64 (1 + r.size)))], [(15, .mix 7 [[.val (.int .i64 r.b.n), .own 16 0 r.b.fr.length, .own 17 0 r.b.to.length, .own 18 0 r.b.id.length, .own 19 0 r.b.cs.length, .own 20 0 r.fb.length, .own 21 0 r.ch.length]]), (16, .row 1 (Is (r.mark 1).b.fr)), (17, .row 1 (Is (r.mark 1).b.to)), (18, .row 1 (Is (r.mark 1).b.id)), (19, .row 1 (Ls (r.mark 1).b.cs)), (20, .row 5 (Cs (r.mark 1).fb)), (21, .row 12 (Fs (r.mark 1).ch))], 22⟩) (Wk.rel [(15, 15), (16, 16), (17, 17), (18, 18), (19, 19), (20, 20), (21, 21)] (by simp) (by simp) (by rw [hP]; simp) (by simp) (by simp) (by simp) (by simp [hhOk, back])) ?_
      refine w_sr mo (by rw [hN]; decide) fun K hK => ?_ -- region 27
      simp
      refine hK _ ?_
      clear hK K
      refine w_sr mo (by rw [hN]; decide) fun K hK => ?_ -- region 28
      simp
      refine callA_intro (c12 true r 1 hr (by omega) (by omega)) (.cons (.aggL (.cons .val (.cons (.whole rfl rfl (by simp [Fam.mark, Cat.mark])) (.cons (.whole rfl rfl (by simp [Fam.mark, Cat.mark])) (.cons (.whole rfl rfl (by simp [Fam.mark, Cat.mark])) (.cons (.whole rfl rfl (by simp [Fam.mark, Cat.mark])) (.cons (.whole rfl rfl (by simp [Fam.mark, Cat.mark])) (.cons (.whole rfl rfl (by simp [Fam.mark, Cat.mark])) .nil)))))))) (.cons .val .nil)) ?_
      simp [unk, unA, unE, flat]
      refine hK _ ?_
      clear hK K
      refine w_seq ?_
      refine w_sr mo (by rw [hN]; decide) fun K hK => ?_ -- region 29
      simp
      refine hK _ ?_
      clear hK K
      refine w_cond rfl (fun g => ?_) fun g => ?_
      · simp at g
        omega
      · refine w_skip ?_
        refine w_seq ?_
        refine w_sr mo (by rw [hN]; decide) fun K hK => ?_ -- region 31
        simp
        refine hK _ ?_
        clear hK K
        refine w_cond rfl (fun h => by simp at h) fun _ => ?_
        refine w_skip ?_
        refine w_sr mo (by rw [hN]; decide) fun K hK => ?_ -- region 33
        simp
        refine hK _ ?_
        clear hK K
        refine w_ret (ret_val rfl rfl)

end Go.Vc.T
