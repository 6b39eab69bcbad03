/- A part of the proof: a verified generator of conditions, and what each function of the program does. -/
import Derived.Test.YtkafionfghoggaaQ6
set_option maxRecDepth 100000
set_option linter.unusedSimpArgs false
set_option linter.unusedVariables false

set_option maxRecDepth 100000
set_option linter.unusedSimpArgs false
set_option linter.unusedVariables false
namespace Go.Vc.T
open Go Go.Vc Go.Proofs
theorem e_l07Square {f g : Fn} (h : Para f g) {p : List Int} (lp : p.length = f.ob.length) (bd : ∀ j : Nat, j < p.length → 0 ≤ ix p j ∧ ix p j < f.t.fr.length) {a : Nat} (ha : a < f.s.fr.length) :
   s_s_l07Square f g p a = some (bo (ix (rx f.t.cs (ix f.ar a)) (ix p (ix f.s.to a)) = ix (rx f.t.cs (ix p (ix f.s.fr a))) (ix g.ar a))) := by
 obtain ⟨k1, k2, k3, k4, k5, k6, k7, k8, k9, k10⟩ := h.fact
 obtain ⟨m1, m2, m3, m4, m5, m6, m7, m8⟩ := h.sqok lp bd ha
 unfold s_s_l07Square
 by_cases hq : ix (rx f.t.cs (ix f.ar a)) (ix p (ix f.s.to a)) = ix (rx f.t.cs (ix p (ix f.s.fr a))) (ix g.ar a) <;> simp (disch := omega) [ass_pos, hq, bo]
theorem e_l07Fault {f g : Fn} (h : Para f g) {p : List Int} (lp : p.length = f.ob.length) (bd : ∀ j : Nat, j < p.length → 0 ≤ ix p j ∧ ix p j < f.t.fr.length) :
   ∃ v, s_s_l07Fault f g p = some v ∧ (v < 0 ↔ ∀ a : Nat, a < f.s.fr.length → ix (rx f.t.cs (ix f.ar a)) (ix p (ix f.s.to a)) = ix (rx f.t.cs (ix p (ix f.s.fr a))) (ix g.ar a)) := by
 obtain ⟨k1, k2, k3, k4, k5, k6, k7, k8, k9, k10⟩ := h.fact
 unfold s_s_l07Fault
 rcases loop_fst (body := fun s6 : Int => if s6 < (f.ar.length : Int) then (s_s_l07Square f g p s6).bind fun v8 => if ¬ (v8 = true) then some (Ctl.ret (Sum.inr s6)) else ass (B64 (s6 + 1)) <| some (Ctl.next (s6 + 1)) else some (Ctl.ret (Sum.inl ()))) (ε := Unit ⊕ Int)
     f.s.fr.length (fun a : Nat => ix (rx f.t.cs (ix f.ar a)) (ix p (ix f.s.to a)) = ix (rx f.t.cs (ix p (ix f.s.fr a))) (ix g.ar a)) (eb := fun i => Sum.inr (i : Int)) (eg := Sum.inl ()) (by omega)
     (fun a hi hp => by simp (disch := omega) [ass_pos, B64, e_l07Square h lp bd hi, hp, bo]; omega) (fun a hi hp => by simp (disch := omega) [ass_pos, B64, e_l07Square h lp bd hi, hp, bo]; omega) (by simp; omega) with ⟨h1, h2⟩ | ⟨m, h1, h2, h3, h4⟩
 · refine ⟨-1, ?_, by simpa using h1⟩
   rw [h2]; rfl
 refine ⟨m, ?_, ⟨fun q => by omega, fun q => absurd (q m h1) h2⟩⟩
 rw [h4]; rfl
structure Tra.Sh (t : Tra) : Prop where
 p : Para t.s t.t
 lp : t.p.length = t.s.ob.length
 bd : ∀ j : Nat, j < t.p.length → 0 ≤ ix t.p j ∧ ix t.p j < t.s.t.fr.length
 en : ∀ x : Nat, x < t.p.length → ix t.s.t.fr (ix t.p x) = ix t.s.ob x ∧ ix t.s.t.to (ix t.p x) = ix t.t.ob x
theorem e_l07Shape (t : Tra) : s_s_l07Shape t = some (bo t.Sh) := by
 unfold s_s_l07Shape s_s_l07Parallel s_s_l02Same
 rw [e_l06Is, e_l06Is]
 by_cases hf : t.s.Is
 case neg => rw [bo_neg hf, bo_neg (show ¬ t.Sh from fun q => hf q.p.hf)]; simp
 by_cases hg : t.t.Is
 case neg => rw [bo_pos hf, bo_neg hg, bo_neg (show ¬ t.Sh from fun q => hg q.p.hg)]; simp
 by_cases hs : t.s.s = t.t.s
 case neg => rw [bo_pos hf, bo_pos hg, bo_neg hs, bo_neg (show ¬ t.Sh from fun q => hs q.p.s)]; simp
 by_cases ht : t.s.t = t.t.t
 case neg => rw [bo_pos hf, bo_pos hg, bo_pos hs, bo_neg ht, bo_neg (show ¬ t.Sh from fun q => ht q.p.t)]; simp
 rw [bo_pos hf, bo_pos hg, bo_pos hs, bo_pos ht]
 have hP : Para t.s t.t := ⟨hf, hg, hs, ht⟩
 obtain ⟨k1, k2, k3, k4, k5, k6, k7, k8, k9, k10⟩ := hP.fact
 have lo := hf.lo
 simp only [Option.bind_some, if_true]
 unfold s_s_l07Ends s_s_l01Map
 by_cases h1 : (t.p.length : Int) = t.s.s.n
 case neg => rw [bo_neg (show ¬ t.Sh from fun q => h1 (by rw [q.lp, lo]))]; simp [h1]
 by_cases h2 : t.p.all (inR t.s.t.fr.length) = true
 case neg => rw [bo_neg (show ¬ t.Sh from fun q => h2 (all_inR.2 q.bd))]; simp [h1, h2]
 have bd := all_inR.1 h2
 simp only [h1, h2, not_true_eq_false, if_false, Option.bind_some, Bool.not_true, Bool.false_eq_true]
 have fin : ∀ b : Bool, (some b).bind (fun v8 => some v8) = some b := fun _ => rfl
 rw [Option.bind_assoc, Option.bind_assoc]
 refine chk_bind t.p.length (fun x : Nat => ix t.s.t.fr (ix t.p x) = ix t.s.ob x ∧ ix t.s.t.to (ix t.p x) = ix t.t.ob x) (eb := Sum.inr false) (eg := Sum.inl ()) (by omega) (fun a hi hp => ?_) (fun a hi hp => ?_) (by simp; try omega) (fun hx => ?_) fun q1 => ?_
 · have := bd a hi
   simp (disch := omega) [ass_pos, B64, hp.1, hp.2]; omega
 · have := bd a hi
   by_cases hp1 : ix t.s.t.fr (ix t.p a) = ix t.s.ob a
   · have hp2 : ¬ ix t.s.t.to (ix t.p a) = ix t.t.ob a := fun q => hp ⟨hp1, q⟩
     simp (disch := omega) [ass_pos, B64, hp1, hp2]; try omega
   simp (disch := omega) [ass_pos, B64, hp1]; try omega
 · rw [bo_neg (show ¬ t.Sh from fun q => hx q.en)]; rfl
 rw [bo_pos (show t.Sh from ⟨hP, by omega, bd, q1⟩)]; rfl
theorem e_l07Is (t : Tra) : s_s_l07Is t = some (bo t.Is) := by
 unfold s_s_l07Is
 rw [e_l07Shape]
 by_cases h : t.Sh
 case neg => rw [bo_neg h, bo_neg (show ¬ t.Is from fun q => h ⟨q.p, q.n.lp, q.n.bd, q.n.ends⟩)]; simp
 rw [bo_pos h]
 obtain ⟨hP, lp, bd, en⟩ := h
 obtain ⟨v, hv, hiff⟩ := e_l07Fault hP lp bd
 by_cases hn : v < 0
 · rw [bo_pos (show t.Is from ⟨hP, lp, bd, en, hiff.1 hn⟩)]; simp [hv, hn]
 rw [bo_neg (show ¬ t.Is from fun q => hn (hiff.2 q.n.sq))]; simp [hv, hn]
theorem e_l07Make {f g : Fn} {p : List Int} (hf : f.Is) (hg : g.Is) (hp : p.length ≤ 1048576) : s_s_l07Make f g p = some ⟨f, g, p⟩ := by
 unfold s_s_l07Make s_s_l07Own s_s_l01Own
 have := hf.lob
 have := hf.lar
 have := hg.lob
 have := hg.lar
 rw [e_l06Make hf.s.ok hf.t.ok (by omega) (by omega), e_l06Make hg.s.ok hg.t.ok (by omega) (by omega), ass_pos hp]
 rfl
theorem e_transformation {f g : Fn} {p : List Int} (hf : f.Is) (hg : g.Is) (hp : p.length ≤ 1048576) : s_i_transformation f g p = some ⟨f, g, p⟩ := by
 unfold s_i_transformation s_i_clone
 rw [e_Fcopy hf, e_Fcopy hg, ass_pos hp]
 rfl
theorem Tra.Is.ok {t : Tra} (h : t.Is) : t.ok ∧ t.size ≤ 9000 := by
 have h1 := h.p.hf.ok
 have h2 := h.p.hg.ok
 have h3 := h.n.lp
 have h4 := h.p.hf.lob
 exact ⟨⟨h1.1, h2.1, by omega⟩, by simp only [Tra.size]; omega⟩
noncomputable def invs (c : Cat) (p : List Int) : List Int := tab p.length fun i => inv c (ix p i)
theorem e_l07Inverse {c : Cat} (h : c.Is) {p : List Int} (hl : p.length ≤ 1048576) (bd : ∀ j : Nat, j < p.length → 0 ≤ ix p j ∧ ix p j < c.fr.length) :
   ((∀ i : Nat, i < p.length → 0 ≤ inv c (ix p i)) → s_s_l07Inverse c p = some (invs c p, true)) ∧ ((¬ ∀ i : Nat, i < p.length → 0 ≤ inv c (ix p i)) → s_s_l07Inverse c p = some ([], false)) := by
 constructor <;> intro hx <;> unfold s_s_l07Inverse <;>
   refine acx_bind p.length (fun i => 0 ≤ inv c (ix p i)) (fun i => tab i fun i => inv c (ix p i)) (e := Sum.inl (invs c p)) (eb := Sum.inr ([], false)) rfl (by omega) (fun i hi hp => ?_) (fun i hi hp => ?_) (by simp [invs]; try omega) (fun q => ?_) (fun q => ?_)
 all_goals first
   | exact absurd hx q
   | exact absurd q hx
   | rfl
   | (have := bd i hi; have hq : ¬ inv c (ix p i) < 0 := by omega
      simp (disch := omega) [ass_pos, B64, e_l05Inverse h, tab_succ, hq, hi]; done)
   | (have := bd i hi; have hq : inv c (ix p i) < 0 := by omega
      simp (disch := omega) [ass_pos, B64, e_l05Inverse h, tab_succ, hq, hi]; done)
theorem e_isIso {t : Tra} (h : t.s.t.Is) (hl : t.p.length ≤ 1048576) (bd : ∀ j : Nat, j < t.p.length → 0 ≤ ix t.p j ∧ ix t.p j < t.s.t.fr.length) : s_i_Transformation_isIso t = some (bo (∀ i : Nat, i < t.p.length → 0 ≤ inv t.s.t (ix t.p i))) := by
 unfold s_i_Transformation_isIso
 refine chk_bind t.p.length (fun i : Nat => 0 ≤ inv t.s.t (ix t.p i)) (eb := Sum.inr false) (eg := Sum.inl ()) (by omega) (fun i hi hp => ?_) (fun i hi hp => ?_) (by simp; try omega) (fun hx => by rw [bo_neg hx]) fun hx => by rw [bo_pos hx]
 · have := bd i hi
   have hq : ¬ inv t.s.t (ix t.p i) < 0 := by omega
   simp (disch := omega) [ass_pos, B64, e_inverse h, hq, hi]
 have := bd i hi
 have hq : inv t.s.t (ix t.p i) < 0 := by omega
 simp (disch := omega) [ass_pos, B64, e_inverse h, hq, hi]
theorem fill_tab {α : Type} (n i : Nat) (g : Nat → α) (z : α) (h : i < n) : (tab i g ++ List.replicate (n - i) z).set i (g i) = tab (i + 1) g ++ List.replicate (n - (i + 1)) z := by
 obtain ⟨k, hk⟩ : ∃ k, n - i = k + 1 := ⟨n - i - 1, by omega⟩
 rw [hk, set_fill _ _ _ _ (by simp), tab_succ, show n - (i + 1) = k by omega]
theorem m_InverseTransformation (t : Tra) : ∃ r, s_s_InverseTransformation t = some r ∧ s_i_InverseTransformation t = some r ∧ r.1.ok ∧ r.1.size ≤ 10000 := by
 have zo : (⟨zeroF, zeroF, []⟩ : Tra).ok ∧ (⟨zeroF, zeroF, []⟩ : Tra).size ≤ 10000 := ⟨by simp [Tra.ok, Fn.ok, Cat.ok, zeroF, sumL], by simp [Tra.size, Fn.size, Cat.size, zeroF, sumL]⟩
 unfold s_s_InverseTransformation s_i_InverseTransformation
 rw [e_l07Is, e_isNatural]
 by_cases h : t.Is
 case neg => exact ⟨(⟨zeroF, zeroF, []⟩, 1), by simp [bo_neg h, zeroF], by simp [bo_neg h, zeroF], zo⟩
 obtain ⟨k1, k2, k3, k4, k5, k6, k7, k8, k9, k10⟩ := h.p.fact
 have lp := h.n.lp
 have hc := h.p.hf.t
 have hok := h.ok
 have q := e_l07Inverse hc (by omega) h.n.bd
 simp only [bo_pos h, Option.bind_some, not_true_eq_false, if_false]
 rw [e_isIso hc (by omega) h.n.bd]
 by_cases hi : ∀ i : Nat, i < t.p.length → 0 ≤ inv t.s.t (ix t.p i)
 case neg => exact ⟨(⟨zeroF, zeroF, []⟩, 4), by simp [q.2 hi, zeroF], by simp [bo_neg hi, zeroF], zo⟩
 refine ⟨(⟨t.t, t.s, invs t.s.t t.p⟩, 0), ?_, ?_, ⟨hok.1.2.1, hok.1.1, by simp [invs]; omega⟩, by have := hok.2; simp only [Tra.size, invs, tab_length] at this ⊢; omega⟩
 · rw [q.1 hi]
   simp only [Option.bind_some, not_true_eq_false, if_false]
   rw [e_l07Make h.p.hg h.p.hf (by simp [invs]; omega)]
   rfl
 simp only [bo_pos hi, Option.bind_some, not_true_eq_false, if_false]
 rw [ass_pos (by omega)]
 refine acc_bind t.p.length (fun i => tab i (fun i => inv t.s.t (ix t.p i)) ++ List.replicate (t.p.length - i) 0) (e := invs t.s.t t.p) (by simp [tab_zero]) (by omega) (fun i hi => ?_) (by simp [invs]) ?_
 · have := h.n.bd i hi
   have hl : (tab i (fun i => inv t.s.t (ix t.p i)) ++ List.replicate (t.p.length - i) 0).length = t.p.length := by simp; omega
   simp (disch := omega) only [ass_pos, B64, e_inverse hc, Option.bind_some, hl, if_pos, Int.toNat_natCast]
   rw [fill_tab _ _ (fun i : Nat => inv t.s.t (ix t.p i)) _ hi]
 rw [e_transformation h.p.hg h.p.hf (by simp [invs]; omega)]
 rfl
end Go.Vc.T
