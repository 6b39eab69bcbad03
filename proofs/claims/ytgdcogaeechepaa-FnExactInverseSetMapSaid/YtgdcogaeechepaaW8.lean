/- A part of the proof: a verified generator of conditions, and what each function of the program does. -/
import Derived.Test.YtgdcogaeechepaaW6
set_option maxRecDepth 100000
set_option linter.unusedSimpArgs false
set_option linter.unusedVariables false

set_option maxRecDepth 100000
set_option linter.unusedSimpArgs false
set_option linter.unusedVariables false
namespace Go.Vc.T
open Go Go.Vc Go.Proofs

@[simp] theorem ze93 : elm Try.prog 93 = some 4 := by kernel_rfl
@[simp] theorem z4 : tyi Try.prog 4 = some ⟨false, 1, 1, [.bool false]⟩ := by kernel_rfl

def backF (p : List Int) : Nat → List Int
  | 0 => List.replicate p.length 0
  | i + 1 => (backF p i).set (ix p i).toNat i
@[simp] theorem backF_length (p : List Int) : ∀ i, (backF p i).length = p.length := by
  intro i
  induction i with
  | zero => simp [backF]
  | succ i ih => simp [backF, ih]
def bsF (f : List Int) (n : Nat) : Nat → List Bool
  | 0 => List.replicate n false
  | i + 1 => (bsF f n i).set (ix f i).toNat true
@[simp] theorem bsF_length (f : List Int) (n : Nat) : ∀ i, (bsF f n i).length = n := by
  intro i
  induction i with
  | zero => simp [bsF]
  | succ i ih => simp [bsF, ih]
def mkF (bs : List Bool) (i : Nat) : List Int := ((List.range i).filter fun k => bs.getD k false).map fun k : Nat => (k : Int)
theorem mkF_succ (bs : List Bool) (i : Nat) : mkF bs (i + 1) = mkF bs i ++ (if bs.getD i false = true then [(i : Int)] else []) := by
  simp only [mkF, List.range_succ, List.filter_append, List.map_append]
  congr 1
  cases h : bs.getD i false
  · rw [List.filter_cons_of_neg (by rw [h]; decide)]; rfl
  · rw [List.filter_cons_of_pos (by rw [h])]; rfl
theorem mkF_len (bs : List Bool) : ∀ i, (mkF bs i).length ≤ i := by
  intro i
  simp only [mkF, List.length_map]
  exact Nat.le_trans (List.length_filter_le _ _) (by simp)
def imgL (n : Nat) (f : List Int) : List Int := mkF (bsF f n f.length) n

theorem bsF_get (f : List Int) (n : Nat) (hf : ∀ y, y < f.length → 0 ≤ ix f y ∧ ix f y < n) : ∀ i, i ≤ f.length → ∀ k, k < n → ((bsF f n i).getD k false = true ↔ ∃ y, y < i ∧ ix f y = k) := by
  intro i
  induction i with
  | zero => intro _ k hk; simp [bsF, List.getD_eq_getElem?_getD, hk]
  | succ i ih =>
    intro hi k hk
    obtain ⟨h1, h2⟩ := hf i (by omega)
    simp only [bsF, List.getD_eq_getElem?_getD, List.getElem?_set]
    by_cases h : (ix f i).toNat = k
    · rw [if_pos h, if_pos (by rw [bsF_length]; omega)]
      simp only [Option.getD_some, true_iff]
      exact ⟨i, by omega, by omega⟩
    · rw [if_neg h, ← List.getD_eq_getElem?_getD, ih (by omega) k hk]
      constructor
      · rintro ⟨y, hy, e⟩; exact ⟨y, by omega, e⟩
      · rintro ⟨y, hy, e⟩
        refine ⟨y, ?_, e⟩
        rcases Nat.lt_or_ge y i with q | q
        · exact q
        · have : y = i := by omega
          subst this; omega

theorem count_add (p q : Nat → Bool) (a : Nat) (h1 : p a = false) (h2 : ∀ k, q k = (p k || decide (k = a))) : ∀ n, ((List.range n).filter q).length = ((List.range n).filter p).length + (if a < n then 1 else 0) := by
  intro n
  induction n with
  | zero => simp
  | succ n ih =>
    simp only [List.range_succ, List.filter_append, List.length_append, ih, List.filter_cons, List.filter_nil, h2 n]
    by_cases h : n = a
    · subst h; simp [h1]
    · have : (a < n + 1) ↔ (a < n) := by omega
      simp only [h, decide_false, Bool.or_false, this]
      cases p n <;> simp <;> omega

/-- How many numbers below n a list has. -/
def cnt (n : Nat) (f : List Int) : Nat := ((List.range n).filter fun k : Nat => decide ((k : Int) ∈ f)).length
theorem cnt_cons {n : Nat} {a : Int} {f : List Int} (h0 : 0 ≤ a) (h1 : a < n) : cnt n (a :: f) = cnt n f + (if a ∈ f then 0 else 1) := by
  by_cases h : a ∈ f
  · simp only [cnt, if_pos h, Nat.add_zero]
    congr 1
    apply List.filter_congr
    intro k _
    simp only [List.mem_cons, decide_eq_decide]
    constructor
    · rintro (rfl | q)
      · exact h
      · exact q
    · exact .inr
  · simp only [cnt, if_neg h]
    have := count_add (fun k : Nat => decide ((k : Int) ∈ f)) (fun k : Nat => decide ((k : Int) ∈ a :: f)) a.toNat (by
      simp only [decide_eq_false_iff_not, Int.toNat_of_nonneg h0]; exact h) (fun k => by
      rw [Bool.eq_iff_iff]
      simp only [List.mem_cons, decide_eq_true_eq, Bool.or_eq_true]
      constructor
      · rintro (q | q)
        · exact .inr (by omega)
        · exact .inl q
      · rintro (q | q)
        · exact .inr q
        · exact .inl (by omega)) n
    rw [this, if_pos (by omega)]
theorem cnt_le {n : Nat} : ∀ {f : List Int}, (∀ y ∈ f, 0 ≤ y ∧ y < (n : Int)) → cnt n f ≤ f.length := by
  intro f
  induction f with
  | nil => intro _; simp [cnt]
  | cons a f ih =>
    intro h
    have h1 := h a (by simp)
    have h2 := ih fun y hy => h y (List.mem_cons_of_mem _ hy)
    rw [cnt_cons h1.1 h1.2]
    simp only [List.length_cons]
    split <;> omega
theorem cnt_nodup {n : Nat} : ∀ {f : List Int}, (∀ y ∈ f, 0 ≤ y ∧ y < (n : Int)) → (cnt n f = f.length ↔ f.Nodup) := by
  intro f
  induction f with
  | nil => intro _; simp [cnt]
  | cons a f ih =>
    intro h
    have h1 := h a (by simp)
    have h2 := ih fun y hy => h y (List.mem_cons_of_mem _ hy)
    have h3 := cnt_le fun y hy => h y (List.mem_cons_of_mem _ hy)
    rw [cnt_cons h1.1 h1.2, List.nodup_cons, ← h2]
    simp only [List.length_cons]
    by_cases q : a ∈ f
    · rw [if_pos q]
      constructor
      · intro e; omega
      · intro e; exact absurd q e.1
    · rw [if_neg q]
      constructor
      · intro e; exact ⟨q, by omega⟩
      · intro e; omega
theorem imgL_cnt {n : Nat} {f : List Int} (hf : ∀ y ∈ f, 0 ≤ y ∧ y < (n : Int)) : (imgL n f).length = cnt n f := by
  simp only [imgL, mkF, cnt, List.length_map]
  congr 1
  apply List.filter_congr
  intro k hk
  have hk' : k < n := by simpa using hk
  have h1 := bsF_get f n (fun y hy => by
    rw [← at_ix _ _ hy]; exact hf _ (List.getElem_mem hy)) f.length (Nat.le_refl _) k hk'
  rw [Bool.eq_iff_iff, h1, decide_eq_true_eq]
  constructor
  · rintro ⟨y, hy, e⟩
    rw [← e, ← at_ix _ _ hy]; exact List.getElem_mem hy
  · intro q
    obtain ⟨y, hy, e⟩ := List.getElem_of_mem q
    exact ⟨y, hy, by rw [← at_ix _ _ hy]; exact e⟩

def SM.Inv (m : SM) : Prop := ∀ x : Nat, x < m.p.length → ((rx m.p x).length : Int) = ix m.t.sz x ∧ (rx m.p x).Nodup
def SM.I1 (m : SM) : Prop := ∀ x : Nat, x < m.p.length → (imgL (ix m.t.sz x).toNat (rx m.p x)).length = (rx m.p x).length
def SM.I2 (m : SM) : Prop := ∀ x : Nat, x < m.p.length → ((imgL (ix m.t.sz x).toNat (rx m.p x)).length : Int) = ix m.t.sz x
theorem SM.inv_iff {m : SM} (hm : m.Sh) : m.Inv ↔ m.I1 ∧ m.I2 := by
  have hv : ∀ x : Nat, x < m.p.length → ∀ y ∈ rx m.p x, 0 ≤ y ∧ y < ((ix m.t.sz x).toNat : Int) := by
    intro x hx y hy
    have := (hm.pt x hx).2 y hy
    simp only [inR, Bool.and_eq_true, decide_eq_true_eq] at this
    omega
  constructor
  · intro h
    refine ⟨fun x hx => ?_, fun x hx => ?_⟩
    · rw [imgL_cnt (hv x hx)]; exact (cnt_nodup (hv x hx)).2 (h x hx).2
    · rw [imgL_cnt (hv x hx), (cnt_nodup (hv x hx)).2 (h x hx).2]; exact (h x hx).1
  · rintro ⟨h1, h2⟩ x hx
    have a1 := h1 x hx
    have a2 := h2 x hx
    refine ⟨by omega, (cnt_nodup (hv x hx)).1 ?_⟩
    rw [← imgL_cnt (hv x hx)]; exact a1

def invP (p : List (List Int)) (n : Nat) : List (List Int) := (List.range n).map fun x : Nat => backF (rx p x) (rx p x).length
@[simp] theorem invP_length (p : List (List Int)) (n : Nat) : (invP p n).length = n := by simp [invP]
theorem invP_succ (p : List (List Int)) (n : Nat) : invP p (n + 1) = invP p n ++ [backF (rx p n) (rx p n).length] := by simp [invP, List.range_succ]
def invM (m : SM) : SM := ⟨m.t, m.s, invP m.p m.p.length⟩
open Classical in
noncomputable def ires (m : SM) : SM × Int := if m.Is then (if m.Inv then (invM m, 0) else (sm0, 4)) else (sm0, 1)
theorem ires1 {m : SM} (h : ¬ m.Is) : ires m = (sm0, 1) := by unfold ires; rw [if_neg h]
theorem ires2 {m : SM} (h : m.Is) (h2 : ¬ m.Inv) : ires m = (sm0, 4) := by unfold ires; rw [if_pos h, if_neg h2]
theorem ires3 {m : SM} (h : m.Is) (h2 : m.Inv) : ires m = (invM m, 0) := by unfold ires; rw [if_pos h, if_pos h2]
theorem inv_ok {m : SM} (hm : m.Sh) : (invM m).ok ∧ (invM m).size ≤ 1000000 := by
  refine smok hm.ht.1 hm.hs.1 (by simpa using hm.plen) fun xs hx => ?_
  simp only [invP, List.mem_map, List.mem_range] at hx
  obtain ⟨x, hx, rfl⟩ := hx
  rw [backF_length]
  exact hm.rows hx
theorem ires_ok (m : SM) : (ires m).1.ok ∧ (ires m).1.size ≤ 1000000 := by
  by_cases h1 : m.Is
  · by_cases h2 : m.Inv
    · rw [ires3 h1 h2]; exact inv_ok h1.1
    · rw [ires2 h1 h2]; exact sm0_ok
  · rw [ires1 h1]; exact sm0_ok
/-- The values of a part that goes backwards. -/
theorem SM.Inv.vals {m : SM} (hm : m.Sh) {x : Nat} (hx : x < m.p.length) (hl : ((rx m.p x).length : Int) = ix m.t.sz x) : ∀ y : Nat, y < (rx m.p x).length → 0 ≤ ix (rx m.p x) y ∧ ix (rx m.p x) y < ((rx m.p x).length : Int) := by
  intro y hy
  have := (hm.part' (j := x) (by omega) (by omega)).2 y (by omega) (by omega)
  omega

def Bs (bs : List Bool) : List (List AV) := bs.map fun b => [.val (.bool b)]
@[simp] theorem Bs_length (bs : List Bool) : (Bs bs).length = bs.length := by simp [Bs]
@[simp] theorem Bs_at (bs : List Bool) (i : Nat) (h : i < bs.length) : (Bs bs)[i]? = some [.val (.bool bs[i])] := by simp [Bs, h]
@[simp] theorem Bs_at' (bs : List Bool) (i : Nat) (h : i < (Bs bs).length) : (Bs bs)[i] = [.val (.bool (bs[i]'(by simpa using h)))] := by simp [Bs]
@[simp] theorem Bs_set (bs : List Bool) (i : Nat) (b : Bool) : (Bs bs).set i [.val (.bool b)] = Bs (bs.set i b) := by simp [Bs, List.map_set]
@[simp] theorem Bs_rep (n : Nat) (b : Bool) : List.replicate n [.val (.bool b)] = Bs (List.replicate n b) := by simp [Bs]

theorem iq72 (u : Bool) (xs : List Int) (n : Int) : Contract Try.prog 72 [.lst u 1 (Is xs), .val (.int .i64 n)] (.val (.bool (bo (n ∈ xs)))) := by
  refine contract_intro (rs := [.val (.bool (bo (n ∈ xs)))]) Try.func72 rfl rfl rfl rfl (by simp [Try.f72]) fun F hN hP => ?_
  refine w_good 0 fun h0 => ?_
  simp at h0
  obtain ⟨hl0, hb0⟩ := h0.is
  refine w_sr mo (by rw [hN]; decide) fun K hK => ?_ -- region 0
  simp
  refine hK _ ?_
  clear hK K
  refine w_seq ?_
  refine w_sr mo (by rw [hN]; decide) fun K hK => ?_ -- region 1
  simp
  refine hK _ ?_
  clear hK K
  refine w_block ?_
  refine w_loop (fun i : Nat => ⟨[(0, .lst u 1 (Is xs)), (1, .val (.int .i64 n)), (5, .val (.int .i64 i))], [], 0⟩) (fun i => i ≤ xs.length ∧ ∀ y : Nat, y < i → ix xs y ≠ n) (fun i => xs.length - i) 0 (by simp) (Wk.cut (by simp) (by simp) rfl) ?_
  rintro i ⟨hi, ht⟩
  refine w_seq ?_
  refine w_sr mo (by rw [hN]; decide) fun K hK => ?_ -- region 2
  simp
  refine hK _ ?_
  clear hK K
  refine w_cond rfl (fun h => ?_) fun h => ?_
  · simp at h
    refine w_skip ?_
    refine w_seq ?_
    refine w_block ?_
    refine w_sr mo (by rw [hN]; decide) fun K hK => ?_ -- region 4
    simp [h, at_ix]
    refine hK _ ?_
    clear hK K
    refine w_cond rfl (fun h2 => ?_) fun h2 => ?_
    · simp at h2
      refine w_sr mo (by rw [hN]; decide) fun K hK => ?_ -- region 5
      simp
      refine hK _ ?_
      clear hK K
      refine w_ret (ret_val rfl (bo_t ?_))
      rw [← h2, ← at_ix _ _ h]
      exact List.getElem_mem h
    · simp at h2
      refine w_skip ?_
      refine w_run mo (by rw [hN]; decide) fun K hK => ?_ -- region 3
      simp
      refine hK _ ?_
      clear hK K
      rw [wrap_succ (n := xs.length) (by omega) (by omega)]
      refine ⟨i + 1, ⟨by omega, all_succ ht h2⟩, by dsimp only; omega, (Wk.relabel [] (by simp) (by simp) (by rw [hP]; simp) (by simp) (by simp) (by simp) (by simp))⟩
  · simp at h
    have hi2 : i = xs.length := by omega
    refine w_exit ?_
    simp
    refine w_sr mo (by rw [hN]; decide) fun K hK => ?_ -- region 6
    simp
    refine hK _ ?_
    clear hK K
    refine w_ret (ret_val rfl (bo_f fun hm => ?_))
    obtain ⟨y, hy, e⟩ := List.getElem_of_mem hm
    exact ht y (by omega) (by rw [← at_ix _ _ hy]; exact e)

theorem nodup_take {xs : List Int} {i : Nat} (h : i < xs.length) : (xs.take (i + 1)).Nodup ↔ (xs.take i).Nodup ∧ xs[i] ∉ xs.take i := by
  rw [List.take_succ_eq_append_getElem h, List.nodup_append]
  constructor
  · rintro ⟨h1, _, h3⟩; exact ⟨h1, fun q => h3 _ q _ (by simp) rfl⟩
  · rintro ⟨h1, h2⟩
    refine ⟨h1, by simp, fun a ha b hb => ?_⟩
    simp only [List.mem_cons, List.not_mem_nil, or_false] at hb
    rintro rfl; subst hb; exact h2 ha
theorem Is_take (xs : List Int) (i : Nat) : List.take i (Is xs) = Is (xs.take i) := by simp [Is, List.map_take]
theorem nodup_sub {xs : List Int} {i : Nat} (h : xs.Nodup) : (xs.take i).Nodup := h.sublist (List.take_sublist _ _)

theorem iq35 (u : Bool) (xs : List Int) : Contract Try.prog 35 [.lst u 1 (Is xs)] (.val (.bool (bo xs.Nodup))) := by
  refine contract_intro (rs := [.val (.bool (bo xs.Nodup))]) Try.func35 rfl rfl rfl rfl (by simp [Try.f35]) fun F hN hP => ?_
  refine w_good 0 fun h0 => ?_
  simp at h0
  obtain ⟨hl0, hb0⟩ := h0.is
  refine w_sr mo (by rw [hN]; decide) fun K hK => ?_ -- region 0
  simp
  refine hK _ ?_
  clear hK K
  refine w_seq ?_
  refine w_sr mo (by rw [hN]; decide) fun K hK => ?_ -- region 1
  simp
  refine hK _ ?_
  clear hK K
  refine w_block ?_
  refine w_loop (fun i : Nat => ⟨[(0, .lst u 1 (Is xs)), (3, .val (.int .i64 i))], [], 0⟩) (fun i => i ≤ xs.length ∧ (xs.take i).Nodup) (fun i => xs.length - i) 0 (by simp) (Wk.cut (by simp) (by simp) rfl) ?_
  rintro i ⟨hi, ht⟩
  refine w_seq ?_
  refine w_sr mo (by rw [hN]; decide) fun K hK => ?_ -- region 2
  simp
  refine hK _ ?_
  clear hK K
  refine w_cond rfl (fun h => ?_) fun h => ?_
  · simp at h
    refine w_skip ?_
    refine w_seq ?_
    refine w_block ?_
    refine w_sr mo (by rw [hN]; decide) fun K hK => ?_ -- region 4 DRAWN
    simp [h, Is_take, hi, show (i : Int) ≤ xs.length by omega]
    refine callA_intro (iq72 u (xs.take i) xs[i]) (.cons .lst (.cons .val .nil)) ?_
    simp [unk, unA, unE, flat]
    refine hK _ ?_
    clear hK K
    refine w_cond rfl (fun h2 => ?_) fun h2 => ?_
    · have hm : xs[i] ∈ xs.take i := by simpa using h2
      refine w_sr mo (by rw [hN]; decide) fun K hK => ?_ -- region 5
      simp
      refine hK _ ?_
      clear hK K
      refine w_ret (ret_val rfl (bo_f fun hn => ?_))
      exact ((nodup_take h).1 (nodup_sub hn)).2 hm
    · have hm : xs[i] ∉ xs.take i := by simpa using h2
      refine w_skip ?_
      refine w_run mo (by rw [hN]; decide) fun K hK => ?_ -- region 3
      simp
      refine hK _ ?_
      clear hK K
      rw [wrap_succ (n := xs.length) (by omega) (by omega)]
      refine ⟨i + 1, ⟨by omega, (nodup_take h).2 ⟨ht, hm⟩⟩, by dsimp only; omega, (Wk.relabel [] (by simp) (by simp) (by rw [hP]; simp) (by simp) (by simp) (by simp) (by simp))⟩
  · simp at h
    have hi2 : i = xs.length := by omega
    refine w_exit ?_
    simp
    refine w_sr mo (by rw [hN]; decide) fun K hK => ?_ -- region 6
    simp
    refine hK _ ?_
    clear hK K
    refine w_ret (ret_val rfl (bo_t ?_))
    rw [hi2, List.take_length] at ht
    exact ht

theorem iq36 (u : Bool) (p : List Int) (hx : p.length ≤ 1048576) (hg : ∀ y : Nat, y < p.length → 0 ≤ ix p y ∧ ix p y < (p.length : Int)) : Contract Try.prog 36 [.lst u 1 (Is p)] (.lst true 1 (Is (backF p p.length))) := by
  refine contract_intro (rs := [.lst true 1 (Is (backF p p.length))]) Try.func36 rfl rfl rfl rfl (by simp [Try.f36]) fun F hN hP => ?_
  refine w_sr mo (by rw [hN]; decide) fun K hK => ?_ -- region 0
  simp
  refine hK _ ?_
  clear hK K
  refine w_sr mo (by rw [hN]; decide) fun K hK => ?_ -- region 1
  simp
  refine ⟨by omega, hK _ ?_⟩
  clear hK K
  refine w_seq ?_
  refine w_sr mo (by rw [hN]; decide) fun K hK => ?_ -- region 2
  simp
  refine hK _ ?_
  clear hK K
  refine w_block ?_
  refine w_loop (fun i : Nat => ⟨[(0, .lst u 1 (Is p)), (3, .own 0 0 p.length), (4, .val (.int .i64 i))], [(0, .row 1 (Is (backF p i)))], 1⟩) (fun i => i ≤ p.length) (fun i => p.length - i) 0 (by simp) (Wk.cut (by simp) (by simp [backF]) rfl) ?_
  intro i hi
  refine w_seq ?_
  refine w_sr mo (by rw [hN]; decide) fun K hK => ?_ -- region 3
  simp
  refine hK _ ?_
  clear hK K
  refine w_cond rfl (fun h => ?_) fun h => ?_
  · simp at h
    have h1 := hg i h
    have h2 : (ix p i).toNat < p.length := by omega
    refine w_skip ?_
    refine w_seq ?_
    refine w_block ?_
    refine w_run mo (by rw [hN]; decide) fun K hK => ?_ -- region 5
    simp [at_ix, at_rx, ix_max, rx_max, h, h1.1, h1.2, h2]
    refine hK _ ?_
    clear hK K
    refine w_run mo (by rw [hN]; decide) fun K hK => ?_ -- region 4
    simp
    refine hK _ ?_
    clear hK K
    rw [wrap_succ (n := p.length) (by omega) (by omega)]
    refine ⟨i + 1, by omega, by dsimp only; omega, Wk.cut (by simp) (by simp [backF]) rfl⟩
  · simp at h
    have hi2 : i = p.length := by omega
    subst hi2
    refine w_exit ?_
    simp
    refine w_sr mo (by rw [hN]; decide) fun K hK => ?_ -- region 6
    simp
    refine hK _ ?_
    clear hK K
    refine w_ret (ret_row rfl rfl (by simp) rfl)

theorem iq40 (u : Bool) (p : List Int) (hx : p.length ≤ 1048576) (hg : ∀ y : Nat, y < p.length → 0 ≤ ix p y ∧ ix p y < (p.length : Int)) : Contract Try.prog 40 [.lst u 1 (Is p)] (.lst true 1 (Is (backF p p.length))) := by
  refine contract_intro (rs := [.lst true 1 (Is (backF p p.length))]) Try.func40 rfl rfl rfl rfl (by simp [Try.f40]) fun F hN hP => ?_
  refine w_sr mo (by rw [hN]; decide) fun K hK => ?_ -- region 0
  simp
  refine hK _ ?_
  clear hK K
  refine w_sr mo (by rw [hN]; decide) fun K hK => ?_ -- region 1
  simp
  refine ⟨by omega, hK _ ?_⟩
  clear hK K
  refine w_seq ?_
  refine w_sr mo (by rw [hN]; decide) fun K hK => ?_ -- region 2
  simp
  refine hK _ ?_
  clear hK K
  refine w_block ?_
  refine w_loop (fun i : Nat => ⟨[(3, .own 0 0 p.length), (9, .lst u 1 (Is p)), (10, .val (.int .i64 p.length)), (11, .val (.int .i64 i))], [(0, .row 1 (Is (backF p i)))], 1⟩) (fun i => i ≤ p.length) (fun i => p.length - i) 0 (by simp) (Wk.cut (by simp) (by simp [backF]) rfl) ?_
  intro i hi
  refine w_sr mo (by rw [hN]; decide) fun K hK => ?_ -- region 3
  simp
  refine hK _ ?_
  clear hK K
  refine w_seq ?_
  refine w_cond rfl (fun h => ?_) fun h => ?_
  · simp at h
    have h1 := hg i h
    have h2 : (ix p i).toNat < p.length := by omega
    refine w_skip ?_
    refine w_seq ?_
    refine w_block ?_
    refine w_sr mo (by rw [hN]; decide) fun K hK => ?_ -- region 4
    simp [at_ix, at_rx, ix_max, rx_max, h]
    refine hK _ ?_
    clear hK K
    refine w_run mo (by rw [hN]; decide) fun K hK => ?_ -- region 5
    simp [at_ix, at_rx, ix_max, rx_max, h1.1, h1.2, h2]
    refine hK _ ?_
    clear hK K
    refine w_run mo (by rw [hN]; decide) fun K hK => ?_ -- region 6
    simp
    refine hK _ ?_
    clear hK K
    rw [wrap_succ (n := p.length) (by omega) (by omega)]
    refine ⟨i + 1, by omega, by dsimp only; omega, Wk.cut (by simp) (by simp [backF]) rfl⟩
  · simp at h
    have hi2 : i = p.length := by omega
    subst hi2
    refine w_exit ?_
    simp
    refine w_sr mo (by rw [hN]; decide) fun K hK => ?_ -- region 7
    simp
    refine hK _ ?_
    clear hK K
    refine w_ret (ret_row rfl rfl (by simp) rfl)

theorem iq86 (u : Bool) (bs : List Bool) (hb : bs.length ≤ 1048576) : Contract Try.prog 86 [.lst u 1 (Bs bs)] (.lst true 1 (Is (mkF bs bs.length))) := by
  refine contract_intro (rs := [.lst true 1 (Is (mkF bs bs.length))]) Try.func86 rfl rfl rfl rfl (by simp [Try.f86]) fun F hN hP => ?_
  refine w_sr mo (by rw [hN]; decide) fun K hK => ?_ -- region 0
  simp
  refine hK _ ?_
  clear hK K
  refine w_sr mo (by rw [hN]; decide) fun K hK => ?_ -- region 1
  simp
  refine hK _ ?_
  clear hK K
  refine w_seq ?_
  refine w_sr mo (by rw [hN]; decide) fun K hK => ?_ -- region 2
  simp
  refine hK _ ?_
  clear hK K
  refine w_block ?_
  refine w_loop (fun i : Nat => ⟨[(3, .own 0 0 (mkF bs i).length), (7, .lst u 1 (Bs bs)), (8, .val (.int .i64 bs.length)), (9, .val (.int .i64 i))], [(0, .row 1 (Is (mkF bs i)))], 1⟩) (fun i => i ≤ bs.length) (fun i => bs.length - i) 0 (by simp) (Wk.nils [] (by simp) (by simp) (by simp [nlA, mkF]) (by simp [entN, mkF]) (by simp)) ?_
  intro i hi
  refine w_sr mo (by rw [hN]; decide) fun K hK => ?_ -- region 3
  simp
  refine hK _ ?_
  clear hK K
  refine w_seq ?_
  refine w_cond rfl (fun h => ?_) fun h => ?_
  · simp at h
    have hm := mkF_succ bs i
    have hml := mkF_len bs i
    rw [List.getD_eq_getElem?_getD, List.getElem?_eq_getElem h, Option.getD_some] at hm
    refine w_skip ?_
    refine w_seq ?_
    refine w_block ?_
    refine w_sr mo (by rw [hN]; decide) fun K hK => ?_ -- region 4
    simp [h]
    refine hK _ ?_
    clear hK K
    refine w_sr mo (by rw [hN]; decide) fun K hK => ?_ -- region 5
    simp
    refine hK _ ?_
    clear hK K
    refine w_cond rfl (fun h2 => ?_) fun h2 => ?_
    · rw [if_pos h2] at hm
      refine w_run mo (by rw [hN]; decide) fun K hK => ?_ -- region 6
      simp
      refine ⟨by omega, hK _ ?_⟩
      clear hK K
      refine w_run mo (by rw [hN]; decide) fun K hK => ?_ -- region 7
      simp
      refine hK _ ?_
      clear hK K
      rw [wrap_succ (n := bs.length) (by omega) (by omega)]
      refine ⟨i + 1, by omega, by dsimp only; omega, ?_⟩
      dsimp only
      rw [hm]
      exact Wk.relabel [(2, 0)] (by simp) (by simp) (by rw [hP]; simp) (by simp) (by simp) (by simp) (by simp [List.take_of_length_le (l := Is (mkF bs i)) (i := (mkF bs i).length) (by simp), Is_snoc])
    · rw [if_neg (by simp [h2])] at hm
      refine w_skip ?_
      refine w_run mo (by rw [hN]; decide) fun K hK => ?_ -- region 7
      simp
      refine hK _ ?_
      clear hK K
      rw [wrap_succ (n := bs.length) (by omega) (by omega)]
      refine ⟨i + 1, by omega, by dsimp only; omega, ?_⟩
      dsimp only
      rw [hm, List.append_nil]
      exact Wk.relabel [(0, 0)] (by simp) (by simp) (by rw [hP]; simp) (by simp) (by simp) (by simp) (by simp)
  · simp at h
    have hi2 : i = bs.length := by omega
    subst hi2
    refine w_exit ?_
    simp
    refine w_sr mo (by rw [hN]; decide) fun K hK => ?_ -- region 8
    simp
    refine hK _ ?_
    clear hK K
    refine w_ret (ret_row rfl rfl (by simp) rfl)

theorem iq75 (u : Bool) (n : Nat) (f : List Int) (hn : n ≤ 1048576) (hx : f.length ≤ 1048576) (hg : ∀ y : Nat, y < f.length → 0 ≤ ix f y ∧ ix f y < (n : Int)) : Contract Try.prog 75 [.val (.int .i64 n), .lst u 1 (Is f)] (.lst true 1 (Is (imgL n f))) := by
  refine contract_intro (rs := [.lst true 1 (Is (imgL n f))]) Try.func75 rfl rfl rfl rfl (by simp [Try.f75]) fun F hN hP => ?_
  refine w_sr mo (by rw [hN]; decide) fun K hK => ?_ -- region 0
  simp
  refine hK _ ?_
  clear hK K
  refine w_sr mo (by rw [hN]; decide) fun K hK => ?_ -- region 1
  simp
  refine ⟨by omega, hK _ ?_⟩
  clear hK K
  refine w_seq ?_
  refine w_sr mo (by rw [hN]; decide) fun K hK => ?_ -- region 2
  simp
  refine hK _ ?_
  clear hK K
  refine w_block ?_
  refine w_loop (fun i : Nat => ⟨[(5, .own 0 0 n), (10, .lst u 1 (Is f)), (11, .val (.int .i64 f.length)), (12, .val (.int .i64 i))], [(0, .row 1 (Bs (bsF f n i)))], 1⟩) (fun i => i ≤ f.length) (fun i => f.length - i) 0 (by simp) (Wk.cut (by simp) (by simp [bsF]) rfl) ?_
  intro i hi
  refine w_sr mo (by rw [hN]; decide) fun K hK => ?_ -- region 3
  simp
  refine hK _ ?_
  clear hK K
  refine w_seq ?_
  refine w_cond rfl (fun h => ?_) fun h => ?_
  · simp at h
    have h1 := hg i h
    have h2 : (ix f i).toNat < n := by omega
    refine w_skip ?_
    refine w_seq ?_
    refine w_block ?_
    refine w_sr mo (by rw [hN]; decide) fun K hK => ?_ -- region 4
    simp [at_ix, at_rx, ix_max, rx_max, h]
    refine hK _ ?_
    clear hK K
    refine w_run mo (by rw [hN]; decide) fun K hK => ?_ -- region 5
    simp [at_ix, at_rx, ix_max, rx_max, h1.1, h1.2, h2]
    refine hK _ ?_
    clear hK K
    refine w_run mo (by rw [hN]; decide) fun K hK => ?_ -- region 6
    simp
    refine hK _ ?_
    clear hK K
    rw [wrap_succ (n := f.length) (by omega) (by omega)]
    refine ⟨i + 1, by omega, by dsimp only; omega, Wk.cut (by simp) (by simp [bsF]) rfl⟩
  · simp at h
    have hi2 : i = f.length := by omega
    subst hi2
    refine w_exit ?_
    simp
    refine w_sr mo (by rw [hN]; decide) fun K hK => ?_ -- region 7
    simp
    refine callA_intro (iq86 true (bsF f n f.length) (by simpa using hn)) (.cons (.whole rfl rfl (by simp)) .nil) ?_
    simp [unk, unA, unE, flat]
    refine hK _ ?_
    clear hK K
    refine w_ret (ret_row rfl rfl (by simp) (by simp [imgL]))

theorem iq38 (u : Bool) (m : SM) (hm : m.Sh) : Contract Try.prog 38 [.rptr (m.cells u)] (.val (.bool (bo m.I1))) := by
  refine contract_intro (rs := [.val (.bool (bo m.I1))]) Try.func38 rfl rfl rfl rfl (by simp [Try.f38]) fun F hN hP => ?_
  obtain ⟨l1, l2, l3, l4, l5, l6, l7, l8⟩ := hm.lens
  have hp := hm.lp
  simp only [SM.cells]
  refine w_sr mo (by rw [hN]; decide) fun K hK => ?_ -- region 0
  simp
  refine hK _ ?_
  clear hK K
  refine w_seq ?_
  refine w_sr mo (by rw [hN]; decide) fun K hK => ?_ -- region 1
  simp
  refine hK _ ?_
  clear hK K
  refine w_block ?_
  refine w_loop (fun x : Nat => ⟨[(0, .rptr [.val (.int .i64 m.s.s.n), .lst u 1 (Is m.s.s.fr), .lst u 1 (Is m.s.s.to), .lst u 1 (Is m.s.s.id), .lst u 1 (Ls m.s.s.cs), .lst u 1 (Is m.s.sz), .lst u 1 (Ls m.s.ac), .val (.int .i64 m.t.s.n), .lst u 1 (Is m.t.s.fr), .lst u 1 (Is m.t.s.to), .lst u 1 (Is m.t.s.id), .lst u 1 (Ls m.t.s.cs), .lst u 1 (Is m.t.sz), .lst u 1 (Ls m.t.ac), .lst u 1 (Ls m.p)]), (8, .lst u 1 (Ls m.p)), (9, .val (.int .i64 m.p.length)), (10, .val (.int .i64 x))], [], 0⟩) (fun x => x ≤ m.p.length ∧ ∀ y : Nat, y < x → (imgL (ix m.t.sz y).toNat (rx m.p y)).length = (rx m.p y).length) (fun x => m.p.length - x) 0 (by simp) (Wk.relabel [] (by simp) (by simp) (by rw [hP]; simp) (by simp) (by simp) (by simp) (by simp)) ?_
  rintro x ⟨hx0, hi⟩
  refine w_sr mo (by rw [hN]; decide) fun K hK => ?_ -- region 2
  simp
  refine hK _ ?_
  clear hK K
  refine w_seq ?_
  refine w_cond rfl (fun h2 => ?_) fun h2 => ?_
  · simp at h2
    have hx : x < m.p.length := by omega
    have s1 := all_ix hm.ht.1.sz (j := x) (by omega) (by omega)
    have p1 := hm.part' (j := x) (by omega) (by omega)
    have r1 := hm.rows hx
    refine w_skip ?_
    refine w_seq ?_
    refine w_block ?_
    refine w_sr mo (by rw [hN]; decide) fun K hK => ?_ -- region 3
    simp [at_ix, at_rx, ix_max, rx_max, hx]
    refine hK _ ?_
    clear hK K
    refine w_sr mo (by rw [hN]; decide) fun K hK => ?_ -- region 4
    simp [at_ix, at_rx, ix_max, rx_max, show x < m.t.sz.length by omega]
    refine callA_intro (iq75 true (ix m.t.sz x).toNat (rx m.p x) (by omega) (by omega) (fun y hy => by have := p1.2 y (by omega) (by omega); omega)) (by rw [Int.toNat_of_nonneg s1.1]; exact .cons .val (.cons .lst .nil)) ?_
    simp [unk, unA, unE, flat]
    refine hK _ ?_
    clear hK K
    refine w_cond rfl (fun h3 => ?_) fun h3 => ?_
    · have hn : ¬ ((imgL (ix m.t.sz x).toNat (rx m.p x)).length = (rx m.p x).length) := by simp at h3; omega
      refine w_sr mo (by rw [hN]; decide) fun K hK => ?_ -- region 5
      simp
      refine hK _ ?_
      clear hK K
      refine w_ret (ret_val rfl (bo_f fun hq => ?_))
      exact hn (hq x hx)
    · have hc : (imgL (ix m.t.sz x).toNat (rx m.p x)).length = (rx m.p x).length := by simp at h3; omega
      refine w_skip ?_
      refine w_run mo (by rw [hN]; decide) fun K hK => ?_ -- region 6
      simp
      refine hK _ ?_
      clear hK K
      rw [wrap_succ (n := m.p.length) (by omega) (by omega)]
      refine ⟨x + 1, ⟨by omega, all_succ hi hc⟩, by dsimp only; omega, (Wk.relabel [] (by simp) (by simp) (by rw [hP]; simp) (by simp) (by simp) (by simp) (by simp))⟩
  · simp at h2
    have hx2 : m.p.length ≤ x := by omega
    refine w_exit ?_
    simp
    refine w_sr mo (by rw [hN]; decide) fun K hK => ?_ -- region 7
    simp
    refine hK _ ?_
    clear hK K
    refine w_ret (ret_val rfl (bo_t ?_))
    exact fun y hy => hi y (by omega)

theorem iq39 (u : Bool) (m : SM) (hm : m.Sh) : Contract Try.prog 39 [.rptr (m.cells u)] (.val (.bool (bo m.I2))) := by
  refine contract_intro (rs := [.val (.bool (bo m.I2))]) Try.func39 rfl rfl rfl rfl (by simp [Try.f39]) fun F hN hP => ?_
  obtain ⟨l1, l2, l3, l4, l5, l6, l7, l8⟩ := hm.lens
  have hp := hm.lp
  simp only [SM.cells]
  refine w_sr mo (by rw [hN]; decide) fun K hK => ?_ -- region 0
  simp
  refine hK _ ?_
  clear hK K
  refine w_seq ?_
  refine w_sr mo (by rw [hN]; decide) fun K hK => ?_ -- region 1
  simp
  refine hK _ ?_
  clear hK K
  refine w_block ?_
  refine w_loop (fun x : Nat => ⟨[(0, .rptr [.val (.int .i64 m.s.s.n), .lst u 1 (Is m.s.s.fr), .lst u 1 (Is m.s.s.to), .lst u 1 (Is m.s.s.id), .lst u 1 (Ls m.s.s.cs), .lst u 1 (Is m.s.sz), .lst u 1 (Ls m.s.ac), .val (.int .i64 m.t.s.n), .lst u 1 (Is m.t.s.fr), .lst u 1 (Is m.t.s.to), .lst u 1 (Is m.t.s.id), .lst u 1 (Ls m.t.s.cs), .lst u 1 (Is m.t.sz), .lst u 1 (Ls m.t.ac), .lst u 1 (Ls m.p)]), (8, .lst u 1 (Ls m.p)), (9, .val (.int .i64 m.p.length)), (10, .val (.int .i64 x))], [], 0⟩) (fun x => x ≤ m.p.length ∧ ∀ y : Nat, y < x → ((imgL (ix m.t.sz y).toNat (rx m.p y)).length : Int) = ix m.t.sz y) (fun x => m.p.length - x) 0 (by simp) (Wk.relabel [] (by simp) (by simp) (by rw [hP]; simp) (by simp) (by simp) (by simp) (by simp)) ?_
  rintro x ⟨hx0, hi⟩
  refine w_sr mo (by rw [hN]; decide) fun K hK => ?_ -- region 2
  simp
  refine hK _ ?_
  clear hK K
  refine w_seq ?_
  refine w_cond rfl (fun h2 => ?_) fun h2 => ?_
  · simp at h2
    have hx : x < m.p.length := by omega
    have s1 := all_ix hm.ht.1.sz (j := x) (by omega) (by omega)
    have p1 := hm.part' (j := x) (by omega) (by omega)
    have r1 := hm.rows hx
    refine w_skip ?_
    refine w_seq ?_
    refine w_block ?_
    refine w_sr mo (by rw [hN]; decide) fun K hK => ?_ -- region 3
    simp [at_ix, at_rx, ix_max, rx_max, hx]
    refine hK _ ?_
    clear hK K
    refine w_sr mo (by rw [hN]; decide) fun K hK => ?_ -- region 4 DRAWN
    simp [at_ix, at_rx, ix_max, rx_max, show x < m.t.sz.length by omega]
    refine callA_intro (iq75 true (ix m.t.sz x).toNat (rx m.p x) (by omega) (by omega) (fun y hy => by have := p1.2 y (by omega) (by omega); omega)) (by rw [Int.toNat_of_nonneg s1.1]; exact .cons .val (.cons .lst .nil)) ?_
    simp [unk, unA, unE, flat, at_ix, at_rx, ix_max, rx_max, show x < m.t.sz.length by omega]
    refine hK _ ?_
    clear hK K
    refine w_cond rfl (fun h3 => ?_) fun h3 => ?_
    · have hn : ¬ (((imgL (ix m.t.sz x).toNat (rx m.p x)).length : Int) = ix m.t.sz x) := by simp at h3; omega
      refine w_sr mo (by rw [hN]; decide) fun K hK => ?_ -- region 5
      simp
      refine hK _ ?_
      clear hK K
      refine w_ret (ret_val rfl (bo_f fun hq => ?_))
      exact hn (hq x hx)
    · have hc : ((imgL (ix m.t.sz x).toNat (rx m.p x)).length : Int) = ix m.t.sz x := by simp at h3; omega
      refine w_skip ?_
      refine w_run mo (by rw [hN]; decide) fun K hK => ?_ -- region 6
      simp
      refine hK _ ?_
      clear hK K
      rw [wrap_succ (n := m.p.length) (by omega) (by omega)]
      refine ⟨x + 1, ⟨by omega, all_succ hi hc⟩, by dsimp only; omega, (Wk.relabel [] (by simp) (by simp) (by rw [hP]; simp) (by simp) (by simp) (by simp) (by simp))⟩
  · simp at h2
    have hx2 : m.p.length ≤ x := by omega
    refine w_exit ?_
    simp
    refine w_sr mo (by rw [hN]; decide) fun K hK => ?_ -- region 7
    simp
    refine hK _ ?_
    clear hK K
    refine w_ret (ret_val rfl (bo_t ?_))
    exact fun y hy => hi y (by omega)

end Go.Vc.T

set_option maxRecDepth 100000
set_option linter.unusedSimpArgs false
set_option linter.unusedVariables false
namespace Go.Vc.T
open Go Go.Vc Go.Proofs

theorem iq13 (u : Bool) (m : SM) : Contract Try.prog 13 [.agg (m.cells u)] (.tup (smout (ires m))) := by
  refine contract_introG (rvs := [.cell 2 35, .tmp 3]) (rs := smout (ires m)) Try.func13 rfl rfl rfl rfl (by simp [Try.f13]) fun F hN hP => ?_
  refine w_sr mo (by rw [hN]; decide) fun K hK => ?_ -- region 0
  simp [SM.cells]
  refine hK _ ?_
  clear hK K
  refine w_seq ?_
  refine w_sr mo (by rw [hN]; decide) fun K hK => ?_ -- region 1
  simp
  refine callA_intro (n19 u m) (.cons (.aggL SM.pur) .nil) ?_
  simp [unk, unA, unE, flat]
  refine hK _ ?_
  clear hK K
  refine w_cond rfl (fun h => ?_) fun h => ?_
  · have hn : ¬ m.Is := bo_not h
    refine w_sr mo (by rw [hN]; decide) fun K hK => ?_ -- region 2
    simp
    refine hK _ ?_
    clear hK K
    refine w_ret ⟨_, .cell z35 rfl rfl rfl (by simp) (by simp) (.tmp .nil), ?_⟩
    rw [ires1 hn]
    refine ⟨.agg rfl (.one rfl rfl .nil), [.val (.int .i64 0), .val (.slice none 0 0), .val (.slice none 0 0), .val (.slice none 0 0), .val (.slice none 0 0), .val (.slice none 0 0), .val (.slice none 0 0), .val (.int .i64 0), .val (.slice none 0 0), .val (.slice none 0 0), .val (.slice none 0 0), .val (.slice none 0 0), .val (.slice none 0 0), .val (.slice none 0 0), .val (.slice none 0 0), _], [], rfl, by simp, ?_⟩
    exact .cons .refl (.cons .nil (.cons .nil (.cons .nil (.cons .nil (.cons .nil (.cons .nil (.cons .refl (.cons .nil (.cons .nil (.cons .nil (.cons .nil (.cons .nil (.cons .nil (.cons .nil (.cons .refl (.nil))))))))))))))))
  · have hs : m.Is := bo_yes h
    have hm := hs.1
    obtain ⟨l1, l2, l3, l4, l5, l6, l7, l8⟩ := hm.lens
    have hp := hm.lp
    have hpl := hm.plen
    refine w_skip ?_
    refine w_weak (st' := ⟨[(1, .adr 0 0 0), (2, .adr 1 0 0)], [(0, .mix 15 [[.val (.int .i64 m.s.s.n), .lst u 1 (Is m.s.s.fr), .lst u 1 (Is m.s.s.to), .lst u 1 (Is m.s.s.id), .lst u 1 (Ls m.s.s.cs), .lst u 1 (Is m.s.sz), .lst u 1 (Ls m.s.ac), .val (.int .i64 m.t.s.n), .lst u 1 (Is m.t.s.fr), .lst u 1 (Is m.t.s.to), .lst u 1 (Is m.t.s.id), .lst u 1 (Ls m.t.s.cs), .lst u 1 (Is m.t.sz), .lst u 1 (Ls m.t.ac), .lst u 1 (Ls m.p)]]), (1, .mix 15 [[.val (.int .i64 0), .val (.slice none 0 0), .val (.slice none 0 0), .val (.slice none 0 0), .val (.slice none 0 0), .val (.slice none 0 0), .val (.slice none 0 0), .val (.int .i64 0), .val (.slice none 0 0), .val (.slice none 0 0), .val (.slice none 0 0), .val (.slice none 0 0), .val (.slice none 0 0), .val (.slice none 0 0), .val (.slice none 0 0)]])], 2⟩) (Wk.rel [(0, 0), (1, 1)] (by simp) (by simp) (by rw [hP]; simp) (by simp) (by simp) (by simp) (by simp [hhOk, back])) ?_
    refine w_sr mo (by rw [hN]; decide) fun K hK => ?_ -- region 3
    simp
    refine hK _ ?_
    clear hK K
    refine w_seq ?_
    refine w_sr mo (by rw [hN]; decide) fun K hK => ?_ -- region 4
    simp
    refine hK _ ?_
    clear hK K
    refine w_block ?_
    refine w_loop (fun x : Nat => ⟨[(1, .adr 0 0 0), (2, .adr 1 0 0), (4, .own 2 0 x), (5, .val (.int .i64 x))], [(0, .mix 15 [[.val (.int .i64 m.s.s.n), .lst u 1 (Is m.s.s.fr), .lst u 1 (Is m.s.s.to), .lst u 1 (Is m.s.s.id), .lst u 1 (Ls m.s.s.cs), .lst u 1 (Is m.s.sz), .lst u 1 (Ls m.s.ac), .val (.int .i64 m.t.s.n), .lst u 1 (Is m.t.s.fr), .lst u 1 (Is m.t.s.to), .lst u 1 (Is m.t.s.id), .lst u 1 (Ls m.t.s.cs), .lst u 1 (Is m.t.sz), .lst u 1 (Ls m.t.ac), .lst u 1 (Ls m.p)]]), (1, .mix 15 [[.val (.int .i64 0), .val (.slice none 0 0), .val (.slice none 0 0), .val (.slice none 0 0), .val (.slice none 0 0), .val (.slice none 0 0), .val (.slice none 0 0), .val (.int .i64 0), .val (.slice none 0 0), .val (.slice none 0 0), .val (.slice none 0 0), .val (.slice none 0 0), .val (.slice none 0 0), .val (.slice none 0 0), .val (.slice none 0 0)]]), (2, .row 1 (Ls (invP m.p x)))], 3⟩) (fun x => x ≤ m.p.length ∧ ∀ y : Nat, y < x → ((rx m.p y).length : Int) = ix m.t.sz y ∧ (rx m.p y).Nodup) (fun x => m.p.length - x) 0 (by simp) (Wk.nils [] (by simp) (by simp) (by simp [nlA]) (by simp [entN, invP, Ls, nlL, nlA]) (by simp)) ?_
    rintro x ⟨hx0, hi⟩
    refine w_seq ?_
    refine w_sr mo (by rw [hN]; decide) fun K hK => ?_ -- region 5
    simp
    refine hK _ ?_
    clear hK K
    refine w_cond rfl (fun h2 => ?_) fun h2 => ?_
    · simp at h2
      have hx : x < m.p.length := by omega
      have r1 := hm.rows hx
      refine w_skip ?_
      refine w_seq ?_
      refine w_block ?_
      refine w_seq ?_
      refine w_sr mo (by rw [hN]; decide) fun K hK => ?_ -- region 7 DRAWN
      refine join hK (fun b => ⟨[(1, .adr 0 0 0), (2, .adr 1 0 0), (4, .own 2 0 x), (5, .val (.int .i64 x)), (39, .val (.bool b))], [(0, .mix 15 [[.val (.int .i64 m.s.s.n), .lst u 1 (Is m.s.s.fr), .lst u 1 (Is m.s.s.to), .lst u 1 (Is m.s.s.id), .lst u 1 (Ls m.s.s.cs), .lst u 1 (Is m.s.sz), .lst u 1 (Ls m.s.ac), .val (.int .i64 m.t.s.n), .lst u 1 (Is m.t.s.fr), .lst u 1 (Is m.t.s.to), .lst u 1 (Is m.t.s.id), .lst u 1 (Ls m.t.s.cs), .lst u 1 (Is m.t.sz), .lst u 1 (Ls m.t.ac), .lst u 1 (Ls m.p)]]), (1, .mix 15 [[.val (.int .i64 0), .val (.slice none 0 0), .val (.slice none 0 0), .val (.slice none 0 0), .val (.slice none 0 0), .val (.slice none 0 0), .val (.slice none 0 0), .val (.int .i64 0), .val (.slice none 0 0), .val (.slice none 0 0), .val (.slice none 0 0), .val (.slice none 0 0), .val (.slice none 0 0), .val (.slice none 0 0), .val (.slice none 0 0)]]), (2, .row 1 (Ls (invP m.p x)))], 3⟩) (¬ (((rx m.p x).length : Int) = ix m.t.sz x ∧ (rx m.p x).Nodup)) (fun hJ => ?_) fun b hb => ?_
      · simp [at_ix, at_rx, ix_max, rx_max, hx, show x < m.t.sz.length by omega]
        refine ⟨fun a => ?_, fun a => ?_⟩
        · refine callA_intro (iq35 true (rx m.p x)) (.cons .lst .nil) ?_
          simp [unk, unA, unE, flat]
          exact hJ (!bo (rx m.p x).Nodup) (by simp [a]) _ (Wk.rel [(0, 0), (1, 1), (2, 2)] (by simp) (by simp) (by rw [hP]; simp) (by simp) (by simp) (by simp) (by simp [hhOk, back]))
        · exact hJ true (yes fun hq => a hq.1) _ (Wk.rel [(0, 0), (1, 1), (2, 2)] (by simp) (by simp) (by rw [hP]; simp) (by simp) (by simp) (by simp) (by simp [hhOk, back]))
      clear hK K
      refine w_cond rfl (fun h3 => ?_) fun h3 => ?_
      · have hI : ¬ m.Inv := fun q => hb.1 h3 (q x hx)
        refine w_sr mo (by rw [hN]; decide) fun K hK => ?_ -- region 8
        simp
        refine hK _ ?_
        clear hK K
        refine w_ret ⟨_, .cell z35 rfl rfl rfl (by simp) (by simp) (.tmp .nil), ?_⟩
        rw [ires2 hs hI]
        refine ⟨.agg rfl (.one rfl rfl .nil), [.val (.int .i64 0), .val (.slice none 0 0), .val (.slice none 0 0), .val (.slice none 0 0), .val (.slice none 0 0), .val (.slice none 0 0), .val (.slice none 0 0), .val (.int .i64 0), .val (.slice none 0 0), .val (.slice none 0 0), .val (.slice none 0 0), .val (.slice none 0 0), .val (.slice none 0 0), .val (.slice none 0 0), .val (.slice none 0 0), _], [], rfl, by simp, ?_⟩
        exact .cons .refl (.cons .nil (.cons .nil (.cons .nil (.cons .nil (.cons .nil (.cons .nil (.cons .refl (.cons .nil (.cons .nil (.cons .nil (.cons .nil (.cons .nil (.cons .nil (.cons .nil (.cons .refl (.nil))))))))))))))))
      · have hc : ((rx m.p x).length : Int) = ix m.t.sz x ∧ (rx m.p x).Nodup := Classical.byContradiction fun hn => by rw [hb.2 hn] at h3; cases h3
        refine w_skip ?_
        refine w_run mo (by rw [hN]; decide) fun K hK => ?_ -- region 9
        simp [at_ix, at_rx, ix_max, rx_max, hx]
        refine callA_intro (iq36 true (rx m.p x) (by omega) (SM.Inv.vals hm hx hc.1)) (.cons .lst .nil) ?_
        simp [unk, unA, unE, flat]
        refine ⟨by omega, hK _ ?_⟩
        clear hK K
        refine w_run mo (by rw [hN]; decide) fun K hK => ?_ -- region 6
        simp
        refine hK _ ?_
        clear hK K
        rw [wrap_succ (n := m.p.length) (by omega) (by omega)]
        rw [List.take_of_length_le (l := Ls (invP m.p x)) (by simp), Ls_snoc, ← invP_succ]
        refine ⟨x + 1, ⟨by omega, all_succ hi hc⟩, by dsimp only; omega, (Wk.rel [(0, 0), (1, 1), (5, 2)] (by simp) (by simp) (by rw [hP]; simp) (by simp) (by simp) (by simp) (by simp [hhOk, back]))⟩
    · simp at h2
      have hx2 : x = m.p.length := by omega
      subst hx2
      have hI : m.Inv := fun y hy => hi y hy
      refine w_exit ?_
      simp
      refine w_sr mo (by rw [hN]; decide) fun K hK => ?_ -- region 10
      simp
      refine callA_intro (n21 u u true (invM m) (inv_ok hm).1) (.cons (.aggL SF.pur) (.cons (.aggL SF.pur) (.cons (.whole rfl rfl (by simp [invM])) .nil))) ?_
      simp [unk, unA, unE, unC, flat, SM.cells]
      refine hK _ ?_
      clear hK K
      refine w_ret ⟨_, .cell z35 rfl rfl rfl (by simp) (by simp) (.tmp .nil), ?_⟩
      rw [ires3 hs hI]
      refine ⟨.agg rfl (.one rfl rfl .nil), [.val (.int .i64 (invM m).s.s.n), .lst true 1 (Is (invM m).s.s.fr), .lst true 1 (Is (invM m).s.s.to), .lst true 1 (Is (invM m).s.s.id), .lst true 1 (Ls (invM m).s.s.cs), .lst true 1 (Is (invM m).s.sz), .lst true 1 (Ls (invM m).s.ac), .val (.int .i64 (invM m).t.s.n), .lst true 1 (Is (invM m).t.s.fr), .lst true 1 (Is (invM m).t.s.to), .lst true 1 (Is (invM m).t.s.id), .lst true 1 (Ls (invM m).t.s.cs), .lst true 1 (Is (invM m).t.sz), .lst true 1 (Ls (invM m).t.ac), .lst true 1 (Ls (invM m).p), .val (.int .i64 0)], [4, 5, 6, 7, 8, 9, 11, 12, 13, 14, 15, 16, 17], ?_, by simp, UpL.refl _⟩
      simp [invM]

theorem iq14 (u : Bool) (m : SM) : Contract Try.prog 14 [.agg (m.cells u)] (.tup (smout (ires m))) := by
  refine contract_introG (rvs := [.cell 2 35, .tmp 3]) (rs := smout (ires m)) Try.func14 rfl rfl rfl rfl (by simp [Try.f14]) fun F hN hP => ?_
  refine w_sr mo (by rw [hN]; decide) fun K hK => ?_ -- region 0
  simp [SM.cells]
  refine hK _ ?_
  clear hK K
  refine w_seq ?_
  refine w_sr mo (by rw [hN]; decide) fun K hK => ?_ -- region 1
  simp
  refine callA_intro (n37 u m) (.cons (.var rfl (by simp) (.cons .val (.cons .lst (.cons .lst (.cons .lst (.cons .lst (.cons .lst (.cons .lst (.cons .val (.cons .lst (.cons .lst (.cons .lst (.cons .lst (.cons .lst (.cons .lst (.cons .lst .nil)))))))))))))))) .nil) ?_
  simp [unk, unA, unE, flat]
  refine hK _ ?_
  clear hK K
  refine w_cond rfl (fun h => ?_) fun h => ?_
  · have hn : ¬ m.Is := bo_not h
    refine w_sr mo (by rw [hN]; decide) fun K hK => ?_ -- region 2
    simp
    refine hK _ ?_
    clear hK K
    refine w_ret ⟨_, .cell z35 rfl rfl rfl (by simp) (by simp) (.tmp .nil), ?_⟩
    rw [ires1 hn]
    refine ⟨.agg rfl (.one rfl rfl .nil), [.val (.int .i64 0), .val (.slice none 0 0), .val (.slice none 0 0), .val (.slice none 0 0), .val (.slice none 0 0), .val (.slice none 0 0), .val (.slice none 0 0), .val (.int .i64 0), .val (.slice none 0 0), .val (.slice none 0 0), .val (.slice none 0 0), .val (.slice none 0 0), .val (.slice none 0 0), .val (.slice none 0 0), .val (.slice none 0 0), _], [], rfl, by simp, ?_⟩
    exact .cons .refl (.cons .nil (.cons .nil (.cons .nil (.cons .nil (.cons .nil (.cons .nil (.cons .refl (.cons .nil (.cons .nil (.cons .nil (.cons .nil (.cons .nil (.cons .nil (.cons .nil (.cons .refl (.nil))))))))))))))))
  · have hs : m.Is := bo_yes h
    have hm := hs.1
    obtain ⟨l1, l2, l3, l4, l5, l6, l7, l8⟩ := hm.lens
    have hp := hm.lp
    have hpl := hm.plen
    refine w_skip ?_
    refine w_seq ?_
    refine w_weak (st' := ⟨[(1, .adr 0 0 0), (2, .adr 1 0 0)], [(0, .mix 15 [[.val (.int .i64 m.s.s.n), .lst u 1 (Is m.s.s.fr), .lst u 1 (Is m.s.s.to), .lst u 1 (Is m.s.s.id), .lst u 1 (Ls m.s.s.cs), .lst u 1 (Is m.s.sz), .lst u 1 (Ls m.s.ac), .val (.int .i64 m.t.s.n), .lst u 1 (Is m.t.s.fr), .lst u 1 (Is m.t.s.to), .lst u 1 (Is m.t.s.id), .lst u 1 (Ls m.t.s.cs), .lst u 1 (Is m.t.sz), .lst u 1 (Ls m.t.ac), .lst u 1 (Ls m.p)]]), (1, .mix 15 [[.val (.int .i64 0), .val (.slice none 0 0), .val (.slice none 0 0), .val (.slice none 0 0), .val (.slice none 0 0), .val (.slice none 0 0), .val (.slice none 0 0), .val (.int .i64 0), .val (.slice none 0 0), .val (.slice none 0 0), .val (.slice none 0 0), .val (.slice none 0 0), .val (.slice none 0 0), .val (.slice none 0 0), .val (.slice none 0 0)]])], 2⟩) (Wk.rel [(0, 0), (1, 1)] (by simp) (by simp) (by rw [hP]; simp) (by simp) (by simp) (by simp) (by simp [hhOk, back])) ?_
    refine w_sr mo (by rw [hN]; decide) fun K hK => ?_ -- region 3
    refine join hK (fun b => ⟨[(1, .adr 0 0 0), (2, .adr 1 0 0), (15, .val (.bool b))], [(0, .mix 15 [[.val (.int .i64 m.s.s.n), .lst u 1 (Is m.s.s.fr), .lst u 1 (Is m.s.s.to), .lst u 1 (Is m.s.s.id), .lst u 1 (Ls m.s.s.cs), .lst u 1 (Is m.s.sz), .lst u 1 (Ls m.s.ac), .val (.int .i64 m.t.s.n), .lst u 1 (Is m.t.s.fr), .lst u 1 (Is m.t.s.to), .lst u 1 (Is m.t.s.id), .lst u 1 (Ls m.t.s.cs), .lst u 1 (Is m.t.sz), .lst u 1 (Ls m.t.ac), .lst u 1 (Ls m.p)]]), (1, .mix 15 [[.val (.int .i64 0), .val (.slice none 0 0), .val (.slice none 0 0), .val (.slice none 0 0), .val (.slice none 0 0), .val (.slice none 0 0), .val (.slice none 0 0), .val (.int .i64 0), .val (.slice none 0 0), .val (.slice none 0 0), .val (.slice none 0 0), .val (.slice none 0 0), .val (.slice none 0 0), .val (.slice none 0 0), .val (.slice none 0 0)]])], 2⟩) (¬ m.Inv) (fun hJ => ?_) fun b hb => ?_
    · simp
      rw [SM.inv_iff hm] at hJ
      refine callA_intro (iq38 u m hm) (.cons (.var rfl (by simp) (.cons .val (.cons .lst (.cons .lst (.cons .lst (.cons .lst (.cons .lst (.cons .lst (.cons .val (.cons .lst (.cons .lst (.cons .lst (.cons .lst (.cons .lst (.cons .lst (.cons .lst .nil)))))))))))))))) .nil) ?_
      simp [unk, unA, unE, flat]
      refine ⟨fun a => ?_, fun a => ?_⟩
      · refine callA_intro (iq39 u m hm) (.cons (.var rfl (by simp) (.cons .val (.cons .lst (.cons .lst (.cons .lst (.cons .lst (.cons .lst (.cons .lst (.cons .val (.cons .lst (.cons .lst (.cons .lst (.cons .lst (.cons .lst (.cons .lst (.cons .lst .nil)))))))))))))))) .nil) ?_
        simp [unk, unA, unE, flat]
        exact hJ (!bo m.I2) (by simp [a]) _ (Wk.rel [(0, 0), (1, 1)] (by simp) (by simp) (by rw [hP]; simp) (by simp) (by simp) (by simp) (by simp [hhOk, back]))
      · exact hJ (true) (yes fun hq => a hq.1) _ (Wk.rel [(0, 0), (1, 1)] (by simp) (by simp) (by rw [hP]; simp) (by simp) (by simp) (by simp) (by simp [hhOk, back]))
    clear hK K
    refine w_cond rfl (fun h3 => ?_) fun h3 => ?_
    · have hI : ¬ m.Inv := hb.1 h3
      refine w_sr mo (by rw [hN]; decide) fun K hK => ?_ -- region 4
      simp
      refine hK _ ?_
      clear hK K
      refine w_ret ⟨_, .cell z35 rfl rfl rfl (by simp) (by simp) (.tmp .nil), ?_⟩
      rw [ires2 hs hI]
      refine ⟨.agg rfl (.one rfl rfl .nil), [.val (.int .i64 0), .val (.slice none 0 0), .val (.slice none 0 0), .val (.slice none 0 0), .val (.slice none 0 0), .val (.slice none 0 0), .val (.slice none 0 0), .val (.int .i64 0), .val (.slice none 0 0), .val (.slice none 0 0), .val (.slice none 0 0), .val (.slice none 0 0), .val (.slice none 0 0), .val (.slice none 0 0), .val (.slice none 0 0), _], [], rfl, by simp, ?_⟩
      exact .cons .refl (.cons .nil (.cons .nil (.cons .nil (.cons .nil (.cons .nil (.cons .nil (.cons .refl (.cons .nil (.cons .nil (.cons .nil (.cons .nil (.cons .nil (.cons .nil (.cons .nil (.cons .refl (.nil))))))))))))))))
    · have hI : m.Inv := Classical.byContradiction fun hn => by rw [hb.2 hn] at h3; cases h3
      refine w_skip ?_
      refine w_sr mo (by rw [hN]; decide) fun K hK => ?_ -- region 5
      simp
      refine hK _ ?_
      clear hK K
      refine w_seq ?_
      refine w_sr mo (by rw [hN]; decide) fun K hK => ?_ -- region 6
      simp
      refine hK _ ?_
      clear hK K
      refine w_block ?_
      refine w_loop (fun x : Nat => ⟨[(1, .adr 0 0 0), (2, .adr 1 0 0), (4, .own 2 0 x), (19, .lst u 1 (Ls m.p)), (20, .val (.int .i64 m.p.length)), (21, .val (.int .i64 x))], [(0, .mix 15 [[.val (.int .i64 m.s.s.n), .lst u 1 (Is m.s.s.fr), .lst u 1 (Is m.s.s.to), .lst u 1 (Is m.s.s.id), .lst u 1 (Ls m.s.s.cs), .lst u 1 (Is m.s.sz), .lst u 1 (Ls m.s.ac), .val (.int .i64 m.t.s.n), .lst u 1 (Is m.t.s.fr), .lst u 1 (Is m.t.s.to), .lst u 1 (Is m.t.s.id), .lst u 1 (Ls m.t.s.cs), .lst u 1 (Is m.t.sz), .lst u 1 (Ls m.t.ac), .lst u 1 (Ls m.p)]]), (1, .mix 15 [[.val (.int .i64 0), .val (.slice none 0 0), .val (.slice none 0 0), .val (.slice none 0 0), .val (.slice none 0 0), .val (.slice none 0 0), .val (.slice none 0 0), .val (.int .i64 0), .val (.slice none 0 0), .val (.slice none 0 0), .val (.slice none 0 0), .val (.slice none 0 0), .val (.slice none 0 0), .val (.slice none 0 0), .val (.slice none 0 0)]]), (2, .row 1 (Ls (invP m.p x)))], 3⟩) (fun x => x ≤ m.p.length) (fun x => m.p.length - x) 0 (by simp) (Wk.nils [] (by simp) (by simp) (by simp [nlA]) (by simp [entN, invP, Ls, nlL, nlA]) (by simp)) ?_
      intro x hx0
      refine w_sr mo (by rw [hN]; decide) fun K hK => ?_ -- region 7
      simp
      refine hK _ ?_
      clear hK K
      refine w_seq ?_
      refine w_cond rfl (fun h2 => ?_) fun h2 => ?_
      · simp at h2
        have hx : x < m.p.length := by omega
        have r1 := hm.rows hx
        refine w_skip ?_
        refine w_seq ?_
        refine w_block ?_
        refine w_sr mo (by rw [hN]; decide) fun K hK => ?_ -- region 8
        simp [at_ix, at_rx, ix_max, rx_max, hx]
        refine hK _ ?_
        clear hK K
        refine w_run mo (by rw [hN]; decide) fun K hK => ?_ -- region 9
        simp
        refine callA_intro (iq40 true (rx m.p x) (by omega) (SM.Inv.vals hm hx (hI x hx).1)) (.cons .lst .nil) ?_
        simp [unk, unA, unE, flat]
        refine ⟨by omega, hK _ ?_⟩
        clear hK K
        refine w_run mo (by rw [hN]; decide) fun K hK => ?_ -- region 10
        simp
        refine hK _ ?_
        clear hK K
        rw [wrap_succ (n := m.p.length) (by omega) (by omega)]
        rw [List.take_of_length_le (l := Ls (invP m.p x)) (by simp), Ls_snoc, ← invP_succ]
        refine ⟨x + 1, by omega, by dsimp only; omega, (Wk.rel [(0, 0), (1, 1), (5, 2)] (by simp) (by simp) (by rw [hP]; simp) (by simp) (by simp) (by simp) (by simp [hhOk, back]))⟩
      · simp at h2
        have hx2 : x = m.p.length := by omega
        subst hx2
        refine w_exit ?_
        simp
        refine w_sr mo (by rw [hN]; decide) fun K hK => ?_ -- region 11
        simp
        refine callA_intro (n27 u u true (invM m) [.lst u 1 (Ls m.p)] [] (inv_ok hm).1) (.cons (.field (k := 7) rfl (by simp [SF.cells]) (.cons .val (.cons .lst (.cons .lst (.cons .lst (.cons .lst (.cons .lst (.cons .lst (.cons .lst .nil))))))))) (.cons (.field (k := 0) rfl (by simp [SF.cells]) (.cons .val (.cons .lst (.cons .lst (.cons .lst (.cons .lst (.cons .lst (.cons .lst .nil)))))))) (.cons (.whole rfl rfl (by simp [invM])) .nil))) ?_
        simp [unk, unA, unE, unC, flat, SM.cells]
        refine hK _ ?_
        clear hK K
        refine w_ret ⟨_, .cell z35 rfl rfl rfl (by simp) (by simp) (.tmp .nil), ?_⟩
        rw [ires3 hs hI]
        refine ⟨.agg rfl (.one rfl rfl .nil), [.val (.int .i64 (invM m).s.s.n), .lst true 1 (Is (invM m).s.s.fr), .lst true 1 (Is (invM m).s.s.to), .lst true 1 (Is (invM m).s.s.id), .lst true 1 (Ls (invM m).s.s.cs), .lst true 1 (Is (invM m).s.sz), .lst true 1 (Ls (invM m).s.ac), .val (.int .i64 (invM m).t.s.n), .lst true 1 (Is (invM m).t.s.fr), .lst true 1 (Is (invM m).t.s.to), .lst true 1 (Is (invM m).t.s.id), .lst true 1 (Ls (invM m).t.s.cs), .lst true 1 (Is (invM m).t.sz), .lst true 1 (Ls (invM m).t.ac), .lst true 1 (Ls (invM m).p), .val (.int .i64 0)], [4, 5, 6, 7, 8, 9, 11, 12, 13, 14, 15, 16, 17], ?_, by simp, UpL.refl _⟩
        simp [invM]

end Go.Vc.T
