/- A part of the proof: a verified generator of conditions, and what each function of the program does. -/
import Derived.Test.YtkafionfghoggaaQ5
set_option maxRecDepth 100000
set_option linter.unusedSimpArgs false
set_option linter.unusedVariables false

set_option maxRecDepth 100000
set_option linter.unusedSimpArgs false
set_option linter.unusedVariables false
namespace Go.Vc.T
open Go Go.Vc Go.Proofs
noncomputable def s_i_Functor_fits (f_ : Fn) : Option Bool :=
 (
   if ¬ ((f_.ob.length : Int) = f_.s.n) then
     some true
   else
     (s_i_Category_arrows f_.s).bind fun v3 =>
     if ¬ ((f_.ar.length : Int) = v3) then
       some true
     else
       (s_i_within f_.ob f_.t.n).bind fun v5 =>
       if ¬ (v5 = true) then
         some true
       else
         (s_i_Category_arrows f_.t).bind fun v7 =>
         (s_i_within f_.ar v7).bind fun v8 =>
         some (!v8) : Option (Bool)).bind fun b1 =>
 if b1 = true then
   some false
 else
   (loopF (σ := Int) (ε := Unit ⊕ Bool) (fun s23 =>
     if s23 < (f_.ar.length : Int) then
       ass (0 ≤ s23 ∧ s23 < (f_.ar.length : Int)) <|
       (
         ass (0 ≤ ix f_.ar s23 ∧ ix f_.ar s23 < (f_.t.fr.length : Int)) <|
         ass (0 ≤ s23 ∧ s23 < (f_.s.fr.length : Int)) <|
         ass (0 ≤ ix f_.s.fr s23 ∧ ix f_.s.fr s23 < (f_.ob.length : Int)) <|
         if ¬ ((ix f_.t.fr (ix f_.ar s23)) = (ix f_.ob (ix f_.s.fr s23))) then
           some true
         else
           ass (0 ≤ ix f_.ar s23 ∧ ix f_.ar s23 < (f_.t.to.length : Int)) <|
           ass (0 ≤ s23 ∧ s23 < (f_.s.to.length : Int)) <|
           ass (0 ≤ ix f_.s.to s23 ∧ ix f_.s.to s23 < (f_.ob.length : Int)) <|
           some ((ix f_.t.to (ix f_.ar s23)) != (ix f_.ob (ix f_.s.to s23))) : Option (Bool)).bind fun b26 =>
       if b26 = true then
         some (Ctl.ret (Sum.inr false))
       else
         ass (B64 (s23 + 1)) <|
         some (Ctl.next (s23 + 1))
     else
       some (Ctl.ret (Sum.inl ()))) fuel 0).bind fun e10 =>
   match e10 with
   | .inl b10 =>
     (loopF (σ := Int) (ε := Unit ⊕ Bool) (fun s44 =>
       if s44 < (f_.s.id.length : Int) then
         ass (0 ≤ s44 ∧ s44 < (f_.s.id.length : Int)) <|
         ass (0 ≤ ix f_.s.id s44 ∧ ix f_.s.id s44 < (f_.ar.length : Int)) <|
         ass (0 ≤ s44 ∧ s44 < (f_.ob.length : Int)) <|
         ass (0 ≤ ix f_.ob s44 ∧ ix f_.ob s44 < (f_.t.id.length : Int)) <|
         if ¬ ((ix f_.ar (ix f_.s.id s44)) = (ix f_.t.id (ix f_.ob s44))) then
           some (Ctl.ret (Sum.inr false))
         else
           ass (B64 (s44 + 1)) <|
           some (Ctl.next (s44 + 1))
       else
         some (Ctl.ret (Sum.inl ()))) fuel 0).bind fun e36 =>
     match e36 with
     | .inl b36 =>
       (loopF (σ := Int) (ε := Unit ⊕ Bool) (fun s78 =>
         if s78 < (f_.s.cs.length : Int) then
           (
             ass (0 ≤ s78 ∧ s78 < (f_.s.cs.length : Int)) <|
             (loopF (σ := Int) (ε := Bool ⊕ Unit) (fun s92 =>
               if s92 < ((rx f_.s.cs s78).length : Int) then
                 ass (0 ≤ s92 ∧ s92 < ((rx f_.s.cs s78).length : Int)) <|
                 (
                   if (ix (rx f_.s.cs s78) s92) ≥ 0 then
                     ass (0 ≤ ix (rx f_.s.cs s78) s92 ∧ ix (rx f_.s.cs s78) s92 < (f_.ar.length : Int)) <|
                     ass (0 ≤ s78 ∧ s78 < (f_.ar.length : Int)) <|
                     ass (0 ≤ s92 ∧ s92 < (f_.ar.length : Int)) <|
                     (s_i_Category_then f_.t (ix f_.ar s78) (ix f_.ar s92)).bind fun v100 =>
                     some ((ix f_.ar (ix (rx f_.s.cs s78) s92)) != v100)
                   else
                     some false : Option (Bool)).bind fun b95 =>
                 if b95 = true then
                   some (Ctl.ret (Sum.inl false))
                 else
                   ass (B64 (s92 + 1)) <|
                   some (Ctl.next (s92 + 1))
               else
                 some (Ctl.ret (Sum.inr ()))) fuel 0).bind fun e92 =>
             match e92 with
             | .inl p92 =>
               some (Sum.inr p92)
             | .inr p92 =>
               some (Sum.inl p92) : Option (Unit ⊕ Bool)).bind fun e80 =>
           match e80 with
           | .inl b80 =>
             ass (B64 (s78 + 1)) <|
             some (Ctl.next (s78 + 1))
           | .inr p80 =>
             some (Ctl.ret (Sum.inr p80))
         else
           some (Ctl.ret (Sum.inl ()))) fuel 0).bind fun e52 =>
       match e52 with
       | .inl b52 =>
         some true
       | .inr p52 =>
         some p52
     | .inr p36 =>
       some p36
   | .inr p10 =>
     some p10
set_option maxHeartbeats 4000000 in
theorem w_i_Functor_fits (f_ : Fn) (r : Bool) (h : s_i_Functor_fits f_ = some r) : Contract Try.prog 225 [.rptr (f_.cells true)] (.val (.bool r)) := by
 refine contract_introG (rvs := [.tmp 2]) (rs := [.val (.bool r)]) Try.func225 rfl rfl rfl rfl (by simp [Try.f225]) fun F hN hP => ?_
 unfold s_i_Functor_fits at h
 refine w_seq ?_
 refine w_run mo (by rw [hN]; decide) fun K hK => ?_
 simp [-guardE_b, -Is_at, -Is_at', -Ls_at, -Ls_at', eL, eI, allInts, eP_Cat, eP_Fn, Cat.cells, Fn.cells]
 repeat (with_reducible refine And.intro ?_ ?_; · first | assumption | omega | (simp; done) | (simp; omega) | simp_all)
 refine hK _ ?_
 clear hK K
 refine tn ?_
 refine w_weak (st' := ⟨[(0, .rptr [.val (.int .i64 f_.s.n), .lst true 1 (Is f_.s.fr), .lst true 1 (Is f_.s.to), .lst true 1 (Is f_.s.id), .lst true 1 (Ls f_.s.cs), .val (.int .i64 f_.t.n), .lst true 1 (Is f_.t.fr), .lst true 1 (Is f_.t.to), .lst true 1 (Is f_.t.id), .lst true 1 (Ls f_.t.cs), .lst true 1 (Is f_.ob), .lst true 1 (Is f_.ar)])], [], 0⟩) (Wk.rel [] (by simp) (by simp) (by rw [hP]; simp) (by simp) (by simp) (by simp [Cat.cells, Fn.cells, Is_append, Is_one, Ls_append, Ls_one, Bs_append, Bs_one, Es_append, Es_one, Es_set', eB, eI, eL]) (by simp [hhOk, back, Cat.cells, Fn.cells, Is_append, Is_one, Ls_append, Ls_one, Bs_append, Bs_one, Es_append, Es_one, Es_set', eB, eI, eL])) ?_
 refine w_seq ?_
 refine w_run mo (by rw [hN]; decide) fun K hK => ?_
 simp [-guardE_b, -Is_at, -Is_at', -Ls_at, -Ls_at', eL, eI, allInts, eP_Cat, eP_Fn, Cat.cells, Fn.cells]
 repeat (with_reducible refine And.intro ?_ ?_; · first | assumption | omega | (simp; done) | (simp; omega) | simp_all)
 refine hK _ ?_
 clear hK K
 refine tn ?_
 refine w_weak (st' := ⟨[(0, .rptr [.val (.int .i64 f_.s.n), .lst true 1 (Is f_.s.fr), .lst true 1 (Is f_.s.to), .lst true 1 (Is f_.s.id), .lst true 1 (Ls f_.s.cs), .val (.int .i64 f_.t.n), .lst true 1 (Is f_.t.fr), .lst true 1 (Is f_.t.to), .lst true 1 (Is f_.t.id), .lst true 1 (Ls f_.t.cs), .lst true 1 (Is f_.ob), .lst true 1 (Is f_.ar)]), (3, .rptr [.val (.int .i64 f_.s.n), .lst true 1 (Is f_.s.fr), .lst true 1 (Is f_.s.to), .lst true 1 (Is f_.s.id), .lst true 1 (Ls f_.s.cs), .val (.int .i64 f_.t.n), .lst true 1 (Is f_.t.fr), .lst true 1 (Is f_.t.to), .lst true 1 (Is f_.t.id), .lst true 1 (Ls f_.t.cs), .lst true 1 (Is f_.ob), .lst true 1 (Is f_.ar)]), (4, .rptr [.val (.int .i64 f_.t.n), .lst true 1 (Is f_.t.fr), .lst true 1 (Is f_.t.to), .lst true 1 (Is f_.t.id), .lst true 1 (Ls f_.t.cs), .lst true 1 (Is f_.ob), .lst true 1 (Is f_.ar)])], [], 0⟩) (Wk.rel [] (by simp) (by simp) (by rw [hP]; simp) (by simp) (by simp) (by simp [Cat.cells, Fn.cells, Is_append, Is_one, Ls_append, Ls_one, Bs_append, Bs_one, Es_append, Es_one, Es_set', eB, eI, eL]) (by simp [hhOk, back, Cat.cells, Fn.cells, Is_append, Is_one, Ls_append, Ls_one, Bs_append, Bs_one, Es_append, Es_one, Es_set', eB, eI, eL])) ?_
 refine w_seq ?_
 refine w_seq ?_
 replace h := bind_some h
 obtain ⟨e1, h, h1⟩ := h
 refine w_joinT (fun b1 : Bool => ⟨[(0, .rptr [.val (.int .i64 f_.s.n), .lst true 1 (Is f_.s.fr), .lst true 1 (Is f_.s.to), .lst true 1 (Is f_.s.id), .lst true 1 (Ls f_.s.cs), .val (.int .i64 f_.t.n), .lst true 1 (Is f_.t.fr), .lst true 1 (Is f_.t.to), .lst true 1 (Is f_.t.id), .lst true 1 (Ls f_.t.cs), .lst true 1 (Is f_.ob), .lst true 1 (Is f_.ar)]), (3, .rptr [.val (.int .i64 f_.s.n), .lst true 1 (Is f_.s.fr), .lst true 1 (Is f_.s.to), .lst true 1 (Is f_.s.id), .lst true 1 (Ls f_.s.cs), .val (.int .i64 f_.t.n), .lst true 1 (Is f_.t.fr), .lst true 1 (Is f_.t.to), .lst true 1 (Is f_.t.id), .lst true 1 (Ls f_.t.cs), .lst true 1 (Is f_.ob), .lst true 1 (Is f_.ar)]), (4, .rptr [.val (.int .i64 f_.t.n), .lst true 1 (Is f_.t.fr), .lst true 1 (Is f_.t.to), .lst true 1 (Is f_.t.id), .lst true 1 (Ls f_.t.cs), .lst true 1 (Is f_.ob), .lst true 1 (Is f_.ar)]), (60, .val (.bool b1))], [], 0⟩) (fun b1 => b1 = e1) ?_ ?_
 · refine w_run mo (by rw [hN]; decide) fun K hK => ?_
   simp [-guardE_b, -Is_at, -Is_at', -Ls_at, -Ls_at', eL, eI, allInts, eP_Cat, eP_Fn, Cat.cells, Fn.cells]
   repeat (with_reducible refine And.intro ?_ ?_; · first | assumption | omega | (simp; done) | (simp; omega) | simp_all)
   refine guard_intro (fun g => ?_) (fun g => ?_)
   · have g2 : ¬ (¬ ((f_.ob.length : Int) = f_.s.n)) := by first | simpa using g | (simp at g; exact g) | (simp at g; omega)
     clear g
     replace h := if_r g2 h
     simp [-guardE_b, -Is_at, -Is_at', -Ls_at, -Ls_at', eL, eI, allInts, eP_Cat, eP_Fn, Cat.cells, Fn.cells]
     repeat (with_reducible refine And.intro ?_ ?_; · first | assumption | omega | (simp; done) | (simp; omega) | simp_all)
     replace h := bind_some h
     obtain ⟨v3, hv3, h⟩ := h
     refine callA_intro (w_i_Category_arrows _ v3 hv3) (.cons (.preT (by simp [Cat.cells, Fn.cells])) .nil) ?_
     simp [-guardE_b, -Is_at, -Is_at', -Ls_at, -Ls_at', unk, unA, unE, unT, unC, flat, eL, eI, allInts, eP_Cat, eP_Fn, Cat.cells, Fn.cells]
     repeat (with_reducible refine And.intro ?_ ?_; · first | assumption | omega | (simp; done) | (simp; omega) | simp_all)
     refine guard_intro (fun g => ?_) (fun g => ?_)
     · have g4 : ¬ (¬ ((f_.ar.length : Int) = v3)) := by first | simpa using g | (simp at g; exact g) | (simp at g; omega)
       clear g
       replace h := if_r g4 h
       simp [-guardE_b, -Is_at, -Is_at', -Ls_at, -Ls_at', eL, eI, allInts, eP_Cat, eP_Fn, Cat.cells, Fn.cells]
       repeat (with_reducible refine And.intro ?_ ?_; · first | assumption | omega | (simp; done) | (simp; omega) | simp_all)
       replace h := bind_some h
       obtain ⟨v5, hv5, h⟩ := h
       refine callA_intro (w_i_within _ _ v5 hv5) (.cons .lst (.cons .val .nil)) ?_
       simp [-guardE_b, -Is_at, -Is_at', -Ls_at, -Ls_at', unk, unA, unE, unT, unC, flat, eL, eI, allInts, eP_Cat, eP_Fn, Cat.cells, Fn.cells]
       repeat (with_reducible refine And.intro ?_ ?_; · first | assumption | omega | (simp; done) | (simp; omega) | simp_all)
       refine guard_intro (fun g => ?_) (fun g => ?_)
       · have g6 : ¬ (¬ (v5 = true)) := by first | simpa using g | (simp at g; exact g) | (simp at g; omega)
         clear g
         replace h := if_r g6 h
         simp [-guardE_b, -Is_at, -Is_at', -Ls_at, -Ls_at', eL, eI, allInts, eP_Cat, eP_Fn, Cat.cells, Fn.cells]
         repeat (with_reducible refine And.intro ?_ ?_; · first | assumption | omega | (simp; done) | (simp; omega) | simp_all)
         replace h := bind_some h
         obtain ⟨v7, hv7, h⟩ := h
         refine callA_intro (w_i_Category_arrows _ v7 hv7) (.cons (.preT (by simp [Cat.cells, Fn.cells])) .nil) ?_
         simp [-guardE_b, -Is_at, -Is_at', -Ls_at, -Ls_at', unk, unA, unE, unT, unC, flat, eL, eI, allInts, eP_Cat, eP_Fn, Cat.cells, Fn.cells]
         repeat (with_reducible refine And.intro ?_ ?_; · first | assumption | omega | (simp; done) | (simp; omega) | simp_all)
         replace h := bind_some h
         obtain ⟨v8, hv8, h⟩ := h
         refine callA_intro (w_i_within _ _ v8 hv8) (.cons .lst (.cons .val .nil)) ?_
         simp [-guardE_b, -Is_at, -Is_at', -Ls_at, -Ls_at', unk, unA, unE, unT, unC, flat, eL, eI, allInts, eP_Cat, eP_Fn, Cat.cells, Fn.cells]
         repeat (with_reducible refine And.intro ?_ ?_; · first | assumption | omega | (simp; done) | (simp; omega) | simp_all)
         refine hK _ ?_
         exact jn (b := !v8) (Option.some.inj h) (Wk.rel [] (by simp) (by simp) (by rw [hP]; simp) (by simp) (by simp) (by simp [Cat.cells, Fn.cells, Is_append, Is_one, Ls_append, Ls_one, Bs_append, Bs_one, Es_append, Es_one, Es_set', eB, eI, eL]) (by simp [hhOk, back, Cat.cells, Fn.cells, Is_append, Is_one, Ls_append, Ls_one, Bs_append, Bs_one, Es_append, Es_one, Es_set', eB, eI, eL]))
       have g6 : ¬ (v5 = true) := by first | simpa using g | (simp at g; exact g) | (simp at g; omega)
       clear g
       replace h := if_l g6 h
       simp [-guardE_b, -Is_at, -Is_at', -Ls_at, -Ls_at', eL, eI, allInts, eP_Cat, eP_Fn, Cat.cells, Fn.cells]
       repeat (with_reducible refine And.intro ?_ ?_; · first | assumption | omega | (simp; done) | (simp; omega) | simp_all)
       refine hK _ ?_
       exact jn (b := true) (Option.some.inj h) (Wk.rel [] (by simp) (by simp) (by rw [hP]; simp) (by simp) (by simp) (by simp [Cat.cells, Fn.cells, Is_append, Is_one, Ls_append, Ls_one, Bs_append, Bs_one, Es_append, Es_one, Es_set', eB, eI, eL]) (by simp [hhOk, back, Cat.cells, Fn.cells, Is_append, Is_one, Ls_append, Ls_one, Bs_append, Bs_one, Es_append, Es_one, Es_set', eB, eI, eL]))
     have g4 : ¬ ((f_.ar.length : Int) = v3) := by first | simpa using g | (simp at g; exact g) | (simp at g; omega)
     clear g
     replace h := if_l g4 h
     simp [-guardE_b, -Is_at, -Is_at', -Ls_at, -Ls_at', eL, eI, allInts, eP_Cat, eP_Fn, Cat.cells, Fn.cells]
     repeat (with_reducible refine And.intro ?_ ?_; · first | assumption | omega | (simp; done) | (simp; omega) | simp_all)
     refine hK _ ?_
     exact jn (b := true) (Option.some.inj h) (Wk.rel [] (by simp) (by simp) (by rw [hP]; simp) (by simp) (by simp) (by simp [Cat.cells, Fn.cells, Is_append, Is_one, Ls_append, Ls_one, Bs_append, Bs_one, Es_append, Es_one, Es_set', eB, eI, eL]) (by simp [hhOk, back, Cat.cells, Fn.cells, Is_append, Is_one, Ls_append, Ls_one, Bs_append, Bs_one, Es_append, Es_one, Es_set', eB, eI, eL]))
   have g2 : ¬ ((f_.ob.length : Int) = f_.s.n) := by first | simpa using g | (simp at g; exact g) | (simp at g; omega)
   clear g
   replace h := if_l g2 h
   simp [-guardE_b, -Is_at, -Is_at', -Ls_at, -Ls_at', eL, eI, allInts, eP_Cat, eP_Fn, Cat.cells, Fn.cells]
   repeat (with_reducible refine And.intro ?_ ?_; · first | assumption | omega | (simp; done) | (simp; omega) | simp_all)
   refine hK _ ?_
   exact jn (b := true) (Option.some.inj h) (Wk.rel [] (by simp) (by simp) (by rw [hP]; simp) (by simp) (by simp) (by simp [Cat.cells, Fn.cells, Is_append, Is_one, Ls_append, Ls_one, Bs_append, Bs_one, Es_append, Es_one, Es_set', eB, eI, eL]) (by simp [hhOk, back, Cat.cells, Fn.cells, Is_append, Is_one, Ls_append, Ls_one, Bs_append, Bs_one, Es_append, Es_one, Es_set', eB, eI, eL]))
 intro b1 hb1
 have h := h1
 rw [← hb1] at h
 clear h1
 try dsimp only at h
 refine w_cond rfl (fun g => ?_) fun g => ?_
 · have g9 : b1 = true := by first | simpa using g | (simp at g; exact g) | (simp at g; omega)
   clear g
   replace h := if_l g9 h
   refine w_seq ?_
   refine w_run mo (by rw [hN]; decide) fun K hK => ?_
   simp [-guardE_b, -Is_at, -Is_at', -Ls_at, -Ls_at', eL, eI, allInts, eP_Cat, eP_Fn, Cat.cells, Fn.cells]
   repeat (with_reducible refine And.intro ?_ ?_; · first | assumption | omega | (simp; done) | (simp; omega) | simp_all)
   refine hK _ ?_
   clear hK K
   refine tn ?_
   refine w_weak (st' := ⟨[(2, .val (.bool false))], [], 0⟩) (Wk.rel [] (by simp) (by simp) (by rw [hP]; simp) (by simp) (by simp) (by simp [Cat.cells, Fn.cells, Is_append, Is_one, Ls_append, Ls_one, Bs_append, Bs_one, Es_append, Es_one, Es_set', eB, eI, eL]) (by simp [hhOk, back, Cat.cells, Fn.cells, Is_append, Is_one, Ls_append, Ls_one, Bs_append, Bs_one, Es_append, Es_one, Es_set', eB, eI, eL])) ?_
   refine w_ret ?_
   refine tr ?_
   have hr := Option.some.inj h
   rw [← hr]
   refine ⟨_, (.tmp .nil), ?_⟩
   refine ⟨(.one rfl rfl .nil), [.val (.bool false)], [], by simp [Cat.cells, Fn.cells, Is_append, Is_one, Ls_append, Ls_one, Bs_append, Bs_one, Es_append, Es_one, Es_set', eB, eI, eL], by simp, (UpL.refl _)⟩
 have g9 : ¬ (b1 = true) := by first | simpa using g | (simp at g; exact g) | (simp at g; omega)
 clear g
 replace h := if_r g9 h
 refine w_skip ?_
 refine tn ?_
 refine w_seq ?_
 refine w_seq ?_
 refine w_run mo (by rw [hN]; decide) fun K hK => ?_
 simp [-guardE_b, -Is_at, -Is_at', -Ls_at, -Ls_at', eL, eI, allInts, eP_Cat, eP_Fn, Cat.cells, Fn.cells]
 repeat (with_reducible refine And.intro ?_ ?_; · first | assumption | omega | (simp; done) | (simp; omega) | simp_all)
 refine hK _ ?_
 clear hK K
 refine tn ?_
 refine w_weak (st' := ⟨[(0, .rptr [.val (.int .i64 f_.s.n), .lst true 1 (Is f_.s.fr), .lst true 1 (Is f_.s.to), .lst true 1 (Is f_.s.id), .lst true 1 (Ls f_.s.cs), .val (.int .i64 f_.t.n), .lst true 1 (Is f_.t.fr), .lst true 1 (Is f_.t.to), .lst true 1 (Is f_.t.id), .lst true 1 (Ls f_.t.cs), .lst true 1 (Is f_.ob), .lst true 1 (Is f_.ar)]), (3, .rptr [.val (.int .i64 f_.s.n), .lst true 1 (Is f_.s.fr), .lst true 1 (Is f_.s.to), .lst true 1 (Is f_.s.id), .lst true 1 (Ls f_.s.cs), .val (.int .i64 f_.t.n), .lst true 1 (Is f_.t.fr), .lst true 1 (Is f_.t.to), .lst true 1 (Is f_.t.id), .lst true 1 (Ls f_.t.cs), .lst true 1 (Is f_.ob), .lst true 1 (Is f_.ar)]), (4, .rptr [.val (.int .i64 f_.t.n), .lst true 1 (Is f_.t.fr), .lst true 1 (Is f_.t.to), .lst true 1 (Is f_.t.id), .lst true 1 (Ls f_.t.cs), .lst true 1 (Is f_.ob), .lst true 1 (Is f_.ar)]), (64, .lst true 1 (Is f_.ar)), (65, .val (.int .i64 (f_.ar.length : Int))), (66, .val (.int .i64 0))], [], 0⟩) (Wk.rel [] (by simp) (by simp) (by rw [hP]; simp) (by simp) (by simp) (by simp [Cat.cells, Fn.cells, Is_append, Is_one, Ls_append, Ls_one, Bs_append, Bs_one, Es_append, Es_one, Es_set', eB, eI, eL]) (by simp [hhOk, back, Cat.cells, Fn.cells, Is_append, Is_one, Ls_append, Ls_one, Bs_append, Bs_one, Es_append, Es_one, Es_set', eB, eI, eL])) ?_
 replace h := bind_some h
 obtain ⟨e10, h, h10⟩ := h
 refine w_joinT (fun b10 : Unit => ⟨[(0, .rptr [.val (.int .i64 f_.s.n), .lst true 1 (Is f_.s.fr), .lst true 1 (Is f_.s.to), .lst true 1 (Is f_.s.id), .lst true 1 (Ls f_.s.cs), .val (.int .i64 f_.t.n), .lst true 1 (Is f_.t.fr), .lst true 1 (Is f_.t.to), .lst true 1 (Is f_.t.id), .lst true 1 (Ls f_.t.cs), .lst true 1 (Is f_.ob), .lst true 1 (Is f_.ar)]), (3, .rptr [.val (.int .i64 f_.s.n), .lst true 1 (Is f_.s.fr), .lst true 1 (Is f_.s.to), .lst true 1 (Is f_.s.id), .lst true 1 (Ls f_.s.cs), .val (.int .i64 f_.t.n), .lst true 1 (Is f_.t.fr), .lst true 1 (Is f_.t.to), .lst true 1 (Is f_.t.id), .lst true 1 (Ls f_.t.cs), .lst true 1 (Is f_.ob), .lst true 1 (Is f_.ar)]), (4, .rptr [.val (.int .i64 f_.t.n), .lst true 1 (Is f_.t.fr), .lst true 1 (Is f_.t.to), .lst true 1 (Is f_.t.id), .lst true 1 (Ls f_.t.cs), .lst true 1 (Is f_.ob), .lst true 1 (Is f_.ar)])], [], 0⟩) (fun b10 => Sum.inl b10 = e10) ?_ ?_
 · refine w_block ?_
   refine w_loopF h (fun s23 : Int => ⟨[(0, .rptr [.val (.int .i64 f_.s.n), .lst true 1 (Is f_.s.fr), .lst true 1 (Is f_.s.to), .lst true 1 (Is f_.s.id), .lst true 1 (Ls f_.s.cs), .val (.int .i64 f_.t.n), .lst true 1 (Is f_.t.fr), .lst true 1 (Is f_.t.to), .lst true 1 (Is f_.t.id), .lst true 1 (Ls f_.t.cs), .lst true 1 (Is f_.ob), .lst true 1 (Is f_.ar)]), (3, .rptr [.val (.int .i64 f_.s.n), .lst true 1 (Is f_.s.fr), .lst true 1 (Is f_.s.to), .lst true 1 (Is f_.s.id), .lst true 1 (Ls f_.s.cs), .val (.int .i64 f_.t.n), .lst true 1 (Is f_.t.fr), .lst true 1 (Is f_.t.to), .lst true 1 (Is f_.t.id), .lst true 1 (Ls f_.t.cs), .lst true 1 (Is f_.ob), .lst true 1 (Is f_.ar)]), (4, .rptr [.val (.int .i64 f_.t.n), .lst true 1 (Is f_.t.fr), .lst true 1 (Is f_.t.to), .lst true 1 (Is f_.t.id), .lst true 1 (Ls f_.t.cs), .lst true 1 (Is f_.ob), .lst true 1 (Is f_.ar)]), (64, .lst true 1 (Is f_.ar)), (65, .val (.int .i64 (f_.ar.length : Int))), (66, .val (.int .i64 s23))], [], 0⟩) (Wk.rel [] (by simp) (by simp) (by rw [hP]; simp) (by simp) (by simp) (by simp [Cat.cells, Fn.cells, Is_append, Is_one, Ls_append, Ls_one, Bs_append, Bs_one, Es_append, Es_one, Es_set', eB, eI, eL]) (by simp [hhOk, back, Cat.cells, Fn.cells, Is_append, Is_one, Ls_append, Ls_one, Bs_append, Bs_one, Es_append, Es_one, Es_set', eB, eI, eL])) ?_
   clear h
   intro k23 s23 c23 h hk23
   refine w_seq ?_
   refine w_run mo (by rw [hN]; decide) fun K hK => ?_
   simp [-guardE_b, -Is_at, -Is_at', -Ls_at, -Ls_at', eL, eI, allInts, eP_Cat, eP_Fn, Cat.cells, Fn.cells]
   repeat (with_reducible refine And.intro ?_ ?_; · first | assumption | omega | (simp; done) | (simp; omega) | simp_all)
   refine hK _ ?_
   clear hK K
   refine tn ?_
   refine w_weak (st' := ⟨[(0, .rptr [.val (.int .i64 f_.s.n), .lst true 1 (Is f_.s.fr), .lst true 1 (Is f_.s.to), .lst true 1 (Is f_.s.id), .lst true 1 (Ls f_.s.cs), .val (.int .i64 f_.t.n), .lst true 1 (Is f_.t.fr), .lst true 1 (Is f_.t.to), .lst true 1 (Is f_.t.id), .lst true 1 (Ls f_.t.cs), .lst true 1 (Is f_.ob), .lst true 1 (Is f_.ar)]), (3, .rptr [.val (.int .i64 f_.s.n), .lst true 1 (Is f_.s.fr), .lst true 1 (Is f_.s.to), .lst true 1 (Is f_.s.id), .lst true 1 (Ls f_.s.cs), .val (.int .i64 f_.t.n), .lst true 1 (Is f_.t.fr), .lst true 1 (Is f_.t.to), .lst true 1 (Is f_.t.id), .lst true 1 (Ls f_.t.cs), .lst true 1 (Is f_.ob), .lst true 1 (Is f_.ar)]), (4, .rptr [.val (.int .i64 f_.t.n), .lst true 1 (Is f_.t.fr), .lst true 1 (Is f_.t.to), .lst true 1 (Is f_.t.id), .lst true 1 (Ls f_.t.cs), .lst true 1 (Is f_.ob), .lst true 1 (Is f_.ar)]), (64, .lst true 1 (Is f_.ar)), (65, .val (.int .i64 (f_.ar.length : Int))), (66, .val (.int .i64 s23)), (67, .val (.bool (decide (s23 < (f_.ar.length : Int)))))], [], 0⟩) (Wk.rel [] (by simp) (by simp) (by rw [hP]; simp) (by simp) (by simp) (by simp [Cat.cells, Fn.cells, Is_append, Is_one, Ls_append, Ls_one, Bs_append, Bs_one, Es_append, Es_one, Es_set', eB, eI, eL]) (by simp [hhOk, back, Cat.cells, Fn.cells, Is_append, Is_one, Ls_append, Ls_one, Bs_append, Bs_one, Es_append, Es_one, Es_set', eB, eI, eL])) ?_
   refine w_seq ?_
   refine w_cond rfl (fun g => ?_) fun g => ?_
   · have g24 : s23 < (f_.ar.length : Int) := by first | simpa using g | (simp at g; exact g) | (simp at g; omega)
     clear g
     replace h := if_l g24 h
     refine w_skip ?_
     refine tn ?_
     refine w_seq ?_
     refine w_block ?_
     refine w_seq ?_
     refine w_run mo (by rw [hN]; decide) fun K hK => ?_
     replace h := ass_some h
     obtain ⟨a25, h⟩ := h
     simp [-guardE_b, -Is_at, -Is_at', -Ls_at, -Ls_at', eL, eI, allInts, eP_Cat, eP_Fn, Cat.cells, Fn.cells, at_I a25]
     repeat (with_reducible refine And.intro ?_ ?_; · first | assumption | omega | (simp; done) | (simp; omega) | simp_all)
     refine hK _ ?_
     clear hK K
     refine tn ?_
     refine w_weak (st' := ⟨[(0, .rptr [.val (.int .i64 f_.s.n), .lst true 1 (Is f_.s.fr), .lst true 1 (Is f_.s.to), .lst true 1 (Is f_.s.id), .lst true 1 (Ls f_.s.cs), .val (.int .i64 f_.t.n), .lst true 1 (Is f_.t.fr), .lst true 1 (Is f_.t.to), .lst true 1 (Is f_.t.id), .lst true 1 (Ls f_.t.cs), .lst true 1 (Is f_.ob), .lst true 1 (Is f_.ar)]), (3, .rptr [.val (.int .i64 f_.s.n), .lst true 1 (Is f_.s.fr), .lst true 1 (Is f_.s.to), .lst true 1 (Is f_.s.id), .lst true 1 (Ls f_.s.cs), .val (.int .i64 f_.t.n), .lst true 1 (Is f_.t.fr), .lst true 1 (Is f_.t.to), .lst true 1 (Is f_.t.id), .lst true 1 (Ls f_.t.cs), .lst true 1 (Is f_.ob), .lst true 1 (Is f_.ar)]), (4, .rptr [.val (.int .i64 f_.t.n), .lst true 1 (Is f_.t.fr), .lst true 1 (Is f_.t.to), .lst true 1 (Is f_.t.id), .lst true 1 (Ls f_.t.cs), .lst true 1 (Is f_.ob), .lst true 1 (Is f_.ar)]), (5, .val (.int .i64 s23)), (6, .val (.int .i64 (ix f_.ar s23))), (64, .lst true 1 (Is f_.ar)), (65, .val (.int .i64 (f_.ar.length : Int))), (66, .val (.int .i64 s23))], [], 0⟩) (Wk.rel [] (by simp) (by simp) (by rw [hP]; simp) (by simp) (by simp) (by simp [Cat.cells, Fn.cells, Is_append, Is_one, Ls_append, Ls_one, Bs_append, Bs_one, Es_append, Es_one, Es_set', eB, eI, eL]) (by simp [hhOk, back, Cat.cells, Fn.cells, Is_append, Is_one, Ls_append, Ls_one, Bs_append, Bs_one, Es_append, Es_one, Es_set', eB, eI, eL])) ?_
     refine w_seq ?_
     replace h := bind_some h
     obtain ⟨e26, h, h26⟩ := h
     refine w_joinT (fun b26 : Bool => ⟨[(0, .rptr [.val (.int .i64 f_.s.n), .lst true 1 (Is f_.s.fr), .lst true 1 (Is f_.s.to), .lst true 1 (Is f_.s.id), .lst true 1 (Ls f_.s.cs), .val (.int .i64 f_.t.n), .lst true 1 (Is f_.t.fr), .lst true 1 (Is f_.t.to), .lst true 1 (Is f_.t.id), .lst true 1 (Ls f_.t.cs), .lst true 1 (Is f_.ob), .lst true 1 (Is f_.ar)]), (3, .rptr [.val (.int .i64 f_.s.n), .lst true 1 (Is f_.s.fr), .lst true 1 (Is f_.s.to), .lst true 1 (Is f_.s.id), .lst true 1 (Ls f_.s.cs), .val (.int .i64 f_.t.n), .lst true 1 (Is f_.t.fr), .lst true 1 (Is f_.t.to), .lst true 1 (Is f_.t.id), .lst true 1 (Ls f_.t.cs), .lst true 1 (Is f_.ob), .lst true 1 (Is f_.ar)]), (4, .rptr [.val (.int .i64 f_.t.n), .lst true 1 (Is f_.t.fr), .lst true 1 (Is f_.t.to), .lst true 1 (Is f_.t.id), .lst true 1 (Ls f_.t.cs), .lst true 1 (Is f_.ob), .lst true 1 (Is f_.ar)]), (64, .lst true 1 (Is f_.ar)), (65, .val (.int .i64 (f_.ar.length : Int))), (66, .val (.int .i64 s23)), (114, .val (.bool b26))], [], 0⟩) (fun b26 => b26 = e26) ?_ ?_
     · refine w_run mo (by rw [hN]; decide) fun K hK => ?_
       replace h := ass_some h
       obtain ⟨a27, h⟩ := h
       replace h := ass_some h
       obtain ⟨a28, h⟩ := h
       replace h := ass_some h
       obtain ⟨a29, h⟩ := h
       simp [-guardE_b, -Is_at, -Is_at', -Ls_at, -Ls_at', eL, eI, allInts, eP_Cat, eP_Fn, Cat.cells, Fn.cells, at_I a27, at_I a28, at_I a29]
       repeat (with_reducible refine And.intro ?_ ?_; · first | assumption | omega | (simp; done) | (simp; omega) | simp_all)
       refine guard_intro (fun g => ?_) (fun g => ?_)
       · have g30 : ¬ (¬ ((ix f_.t.fr (ix f_.ar s23)) = (ix f_.ob (ix f_.s.fr s23)))) := by first | simpa using g | (simp at g; exact g) | (simp at g; omega)
         clear g
         replace h := if_r g30 h
         replace h := ass_some h
         obtain ⟨a31, h⟩ := h
         replace h := ass_some h
         obtain ⟨a32, h⟩ := h
         replace h := ass_some h
         obtain ⟨a33, h⟩ := h
         simp [-guardE_b, -Is_at, -Is_at', -Ls_at, -Ls_at', eL, eI, allInts, eP_Cat, eP_Fn, Cat.cells, Fn.cells, at_I a31, at_I a32, at_I a33]
         repeat (with_reducible refine And.intro ?_ ?_; · first | assumption | omega | (simp; done) | (simp; omega) | simp_all)
         refine hK _ ?_
         exact jn (b := (ix f_.t.to (ix f_.ar s23)) != (ix f_.ob (ix f_.s.to s23))) (Option.some.inj h) (Wk.rel [] (by simp) (by simp) (by rw [hP]; simp) (by simp) (by simp) (by simp [Cat.cells, Fn.cells, Is_append, Is_one, Ls_append, Ls_one, Bs_append, Bs_one, Es_append, Es_one, Es_set', eB, eI, eL]) (by simp [hhOk, back, Cat.cells, Fn.cells, Is_append, Is_one, Ls_append, Ls_one, Bs_append, Bs_one, Es_append, Es_one, Es_set', eB, eI, eL]))
       have g30 : ¬ ((ix f_.t.fr (ix f_.ar s23)) = (ix f_.ob (ix f_.s.fr s23))) := by first | simpa using g | (simp at g; exact g) | (simp at g; omega)
       clear g
       replace h := if_l g30 h
       simp [-guardE_b, -Is_at, -Is_at', -Ls_at, -Ls_at', eL, eI, allInts, eP_Cat, eP_Fn, Cat.cells, Fn.cells]
       repeat (with_reducible refine And.intro ?_ ?_; · first | assumption | omega | (simp; done) | (simp; omega) | simp_all)
       refine hK _ ?_
       exact jn (b := true) (Option.some.inj h) (Wk.rel [] (by simp) (by simp) (by rw [hP]; simp) (by simp) (by simp) (by simp [Cat.cells, Fn.cells, Is_append, Is_one, Ls_append, Ls_one, Bs_append, Bs_one, Es_append, Es_one, Es_set', eB, eI, eL]) (by simp [hhOk, back, Cat.cells, Fn.cells, Is_append, Is_one, Ls_append, Ls_one, Bs_append, Bs_one, Es_append, Es_one, Es_set', eB, eI, eL]))
     intro b26 hb26
     have h := h26
     rw [← hb26] at h
     clear h26
     try dsimp only at h
     refine w_cond rfl (fun g => ?_) fun g => ?_
     · have g34 : b26 = true := by first | simpa using g | (simp at g; exact g) | (simp at g; omega)
       clear g
       replace h := if_l g34 h
       refine w_seq ?_
       refine w_run mo (by rw [hN]; decide) fun K hK => ?_
       simp [-guardE_b, -Is_at, -Is_at', -Ls_at, -Ls_at', eL, eI, allInts, eP_Cat, eP_Fn, Cat.cells, Fn.cells]
       repeat (with_reducible refine And.intro ?_ ?_; · first | assumption | omega | (simp; done) | (simp; omega) | simp_all)
       refine hK _ ?_
       clear hK K
       refine tn ?_
       refine w_weak (st' := ⟨[(2, .val (.bool false))], [], 0⟩) (Wk.rel [] (by simp) (by simp) (by rw [hP]; simp) (by simp) (by simp) (by simp [Cat.cells, Fn.cells, Is_append, Is_one, Ls_append, Ls_one, Bs_append, Bs_one, Es_append, Es_one, Es_set', eB, eI, eL]) (by simp [hhOk, back, Cat.cells, Fn.cells, Is_append, Is_one, Ls_append, Ls_one, Bs_append, Bs_one, Es_append, Es_one, Es_set', eB, eI, eL])) ?_
       refine w_ret ?_
       refine br ?_
       refine tr ?_
       refine lr ?_
       refine br ?_
       refine tr ?_
       cases h
       have q : _ = e10 := hk23
       have h := h10
       rw [← q] at h
       clear q
       try dsimp only at h
       have hr := Option.some.inj h
       rw [← hr]
       refine ⟨_, (.tmp .nil), ?_⟩
       refine ⟨(.one rfl rfl .nil), [.val (.bool false)], [], by simp [Cat.cells, Fn.cells, Is_append, Is_one, Ls_append, Ls_one, Bs_append, Bs_one, Es_append, Es_one, Es_set', eB, eI, eL], by simp, (UpL.refl _)⟩
     have g34 : ¬ (b26 = true) := by first | simpa using g | (simp at g; exact g) | (simp at g; omega)
     clear g
     replace h := if_r g34 h
     refine w_skip ?_
     refine bn ?_
     refine tn ?_
     refine w_run mo (by rw [hN]; decide) fun K hK => ?_
     replace h := ass_some h
     obtain ⟨a35, h⟩ := h
     simp [-guardE_b, -Is_at, -Is_at', -Ls_at, -Ls_at', eL, eI, allInts, eP_Cat, eP_Fn, Cat.cells, Fn.cells, wrap_id a35]
     repeat (with_reducible refine And.intro ?_ ?_; · first | assumption | omega | (simp; done) | (simp; omega) | simp_all)
     refine hK _ ?_
     clear hK K
     cases h
     exact rn (s' := s23 + 1) hk23 (Wk.rel [] (by simp) (by simp) (by rw [hP]; simp) (by simp) (by simp) (by simp [Cat.cells, Fn.cells, Is_append, Is_one, Ls_append, Ls_one, Bs_append, Bs_one, Es_append, Es_one, Es_set', eB, eI, eL]) (by simp [hhOk, back, Cat.cells, Fn.cells, Is_append, Is_one, Ls_append, Ls_one, Bs_append, Bs_one, Es_append, Es_one, Es_set', eB, eI, eL]))
   have g24 : ¬ (s23 < (f_.ar.length : Int)) := by first | simpa using g | (simp at g; exact g) | (simp at g; omega)
   clear g
   replace h := if_r g24 h
   refine w_exit ?_
   refine tx ?_
   refine lx ?_
   refine bh ?_
   cases h
   exact jn (b := ()) hk23 (Wk.rel [] (by simp) (by simp) (by rw [hP]; simp) (by simp) (by simp) (by simp [Cat.cells, Fn.cells, Is_append, Is_one, Ls_append, Ls_one, Bs_append, Bs_one, Es_append, Es_one, Es_set', eB, eI, eL]) (by simp [hhOk, back, Cat.cells, Fn.cells, Is_append, Is_one, Ls_append, Ls_one, Bs_append, Bs_one, Es_append, Es_one, Es_set', eB, eI, eL]))
 intro b10 hb10
 have h := h10
 rw [← hb10] at h
 clear h10
 try dsimp only at h
 refine w_seq ?_
 refine w_seq ?_
 refine w_run mo (by rw [hN]; decide) fun K hK => ?_
 simp [-guardE_b, -Is_at, -Is_at', -Ls_at, -Ls_at', eL, eI, allInts, eP_Cat, eP_Fn, Cat.cells, Fn.cells]
 repeat (with_reducible refine And.intro ?_ ?_; · first | assumption | omega | (simp; done) | (simp; omega) | simp_all)
 refine hK _ ?_
 clear hK K
 refine tn ?_
 refine w_weak (st' := ⟨[(0, .rptr [.val (.int .i64 f_.s.n), .lst true 1 (Is f_.s.fr), .lst true 1 (Is f_.s.to), .lst true 1 (Is f_.s.id), .lst true 1 (Ls f_.s.cs), .val (.int .i64 f_.t.n), .lst true 1 (Is f_.t.fr), .lst true 1 (Is f_.t.to), .lst true 1 (Is f_.t.id), .lst true 1 (Ls f_.t.cs), .lst true 1 (Is f_.ob), .lst true 1 (Is f_.ar)]), (3, .rptr [.val (.int .i64 f_.s.n), .lst true 1 (Is f_.s.fr), .lst true 1 (Is f_.s.to), .lst true 1 (Is f_.s.id), .lst true 1 (Ls f_.s.cs), .val (.int .i64 f_.t.n), .lst true 1 (Is f_.t.fr), .lst true 1 (Is f_.t.to), .lst true 1 (Is f_.t.id), .lst true 1 (Ls f_.t.cs), .lst true 1 (Is f_.ob), .lst true 1 (Is f_.ar)]), (4, .rptr [.val (.int .i64 f_.t.n), .lst true 1 (Is f_.t.fr), .lst true 1 (Is f_.t.to), .lst true 1 (Is f_.t.id), .lst true 1 (Ls f_.t.cs), .lst true 1 (Is f_.ob), .lst true 1 (Is f_.ar)]), (119, .lst true 1 (Is f_.s.id)), (120, .val (.int .i64 (f_.s.id.length : Int))), (121, .val (.int .i64 0))], [], 0⟩) (Wk.rel [] (by simp) (by simp) (by rw [hP]; simp) (by simp) (by simp) (by simp [Cat.cells, Fn.cells, Is_append, Is_one, Ls_append, Ls_one, Bs_append, Bs_one, Es_append, Es_one, Es_set', eB, eI, eL]) (by simp [hhOk, back, Cat.cells, Fn.cells, Is_append, Is_one, Ls_append, Ls_one, Bs_append, Bs_one, Es_append, Es_one, Es_set', eB, eI, eL])) ?_
 replace h := bind_some h
 obtain ⟨e36, h, h36⟩ := h
 refine w_joinT (fun b36 : Unit => ⟨[(0, .rptr [.val (.int .i64 f_.s.n), .lst true 1 (Is f_.s.fr), .lst true 1 (Is f_.s.to), .lst true 1 (Is f_.s.id), .lst true 1 (Ls f_.s.cs), .val (.int .i64 f_.t.n), .lst true 1 (Is f_.t.fr), .lst true 1 (Is f_.t.to), .lst true 1 (Is f_.t.id), .lst true 1 (Ls f_.t.cs), .lst true 1 (Is f_.ob), .lst true 1 (Is f_.ar)]), (3, .rptr [.val (.int .i64 f_.s.n), .lst true 1 (Is f_.s.fr), .lst true 1 (Is f_.s.to), .lst true 1 (Is f_.s.id), .lst true 1 (Ls f_.s.cs), .val (.int .i64 f_.t.n), .lst true 1 (Is f_.t.fr), .lst true 1 (Is f_.t.to), .lst true 1 (Is f_.t.id), .lst true 1 (Ls f_.t.cs), .lst true 1 (Is f_.ob), .lst true 1 (Is f_.ar)]), (4, .rptr [.val (.int .i64 f_.t.n), .lst true 1 (Is f_.t.fr), .lst true 1 (Is f_.t.to), .lst true 1 (Is f_.t.id), .lst true 1 (Ls f_.t.cs), .lst true 1 (Is f_.ob), .lst true 1 (Is f_.ar)])], [], 0⟩) (fun b36 => Sum.inl b36 = e36) ?_ ?_
 · refine w_block ?_
   refine w_loopF h (fun s44 : Int => ⟨[(0, .rptr [.val (.int .i64 f_.s.n), .lst true 1 (Is f_.s.fr), .lst true 1 (Is f_.s.to), .lst true 1 (Is f_.s.id), .lst true 1 (Ls f_.s.cs), .val (.int .i64 f_.t.n), .lst true 1 (Is f_.t.fr), .lst true 1 (Is f_.t.to), .lst true 1 (Is f_.t.id), .lst true 1 (Ls f_.t.cs), .lst true 1 (Is f_.ob), .lst true 1 (Is f_.ar)]), (3, .rptr [.val (.int .i64 f_.s.n), .lst true 1 (Is f_.s.fr), .lst true 1 (Is f_.s.to), .lst true 1 (Is f_.s.id), .lst true 1 (Ls f_.s.cs), .val (.int .i64 f_.t.n), .lst true 1 (Is f_.t.fr), .lst true 1 (Is f_.t.to), .lst true 1 (Is f_.t.id), .lst true 1 (Ls f_.t.cs), .lst true 1 (Is f_.ob), .lst true 1 (Is f_.ar)]), (4, .rptr [.val (.int .i64 f_.t.n), .lst true 1 (Is f_.t.fr), .lst true 1 (Is f_.t.to), .lst true 1 (Is f_.t.id), .lst true 1 (Ls f_.t.cs), .lst true 1 (Is f_.ob), .lst true 1 (Is f_.ar)]), (119, .lst true 1 (Is f_.s.id)), (120, .val (.int .i64 (f_.s.id.length : Int))), (121, .val (.int .i64 s44))], [], 0⟩) (Wk.rel [] (by simp) (by simp) (by rw [hP]; simp) (by simp) (by simp) (by simp [Cat.cells, Fn.cells, Is_append, Is_one, Ls_append, Ls_one, Bs_append, Bs_one, Es_append, Es_one, Es_set', eB, eI, eL]) (by simp [hhOk, back, Cat.cells, Fn.cells, Is_append, Is_one, Ls_append, Ls_one, Bs_append, Bs_one, Es_append, Es_one, Es_set', eB, eI, eL])) ?_
   clear h
   intro k44 s44 c44 h hk44
   refine w_seq ?_
   refine w_run mo (by rw [hN]; decide) fun K hK => ?_
   simp [-guardE_b, -Is_at, -Is_at', -Ls_at, -Ls_at', eL, eI, allInts, eP_Cat, eP_Fn, Cat.cells, Fn.cells]
   repeat (with_reducible refine And.intro ?_ ?_; · first | assumption | omega | (simp; done) | (simp; omega) | simp_all)
   refine hK _ ?_
   clear hK K
   refine tn ?_
   refine w_weak (st' := ⟨[(0, .rptr [.val (.int .i64 f_.s.n), .lst true 1 (Is f_.s.fr), .lst true 1 (Is f_.s.to), .lst true 1 (Is f_.s.id), .lst true 1 (Ls f_.s.cs), .val (.int .i64 f_.t.n), .lst true 1 (Is f_.t.fr), .lst true 1 (Is f_.t.to), .lst true 1 (Is f_.t.id), .lst true 1 (Ls f_.t.cs), .lst true 1 (Is f_.ob), .lst true 1 (Is f_.ar)]), (3, .rptr [.val (.int .i64 f_.s.n), .lst true 1 (Is f_.s.fr), .lst true 1 (Is f_.s.to), .lst true 1 (Is f_.s.id), .lst true 1 (Ls f_.s.cs), .val (.int .i64 f_.t.n), .lst true 1 (Is f_.t.fr), .lst true 1 (Is f_.t.to), .lst true 1 (Is f_.t.id), .lst true 1 (Ls f_.t.cs), .lst true 1 (Is f_.ob), .lst true 1 (Is f_.ar)]), (4, .rptr [.val (.int .i64 f_.t.n), .lst true 1 (Is f_.t.fr), .lst true 1 (Is f_.t.to), .lst true 1 (Is f_.t.id), .lst true 1 (Ls f_.t.cs), .lst true 1 (Is f_.ob), .lst true 1 (Is f_.ar)]), (119, .lst true 1 (Is f_.s.id)), (120, .val (.int .i64 (f_.s.id.length : Int))), (121, .val (.int .i64 s44)), (122, .val (.bool (decide (s44 < (f_.s.id.length : Int)))))], [], 0⟩) (Wk.rel [] (by simp) (by simp) (by rw [hP]; simp) (by simp) (by simp) (by simp [Cat.cells, Fn.cells, Is_append, Is_one, Ls_append, Ls_one, Bs_append, Bs_one, Es_append, Es_one, Es_set', eB, eI, eL]) (by simp [hhOk, back, Cat.cells, Fn.cells, Is_append, Is_one, Ls_append, Ls_one, Bs_append, Bs_one, Es_append, Es_one, Es_set', eB, eI, eL])) ?_
   refine w_seq ?_
   refine w_cond rfl (fun g => ?_) fun g => ?_
   · have g45 : s44 < (f_.s.id.length : Int) := by first | simpa using g | (simp at g; exact g) | (simp at g; omega)
     clear g
     replace h := if_l g45 h
     refine w_skip ?_
     refine tn ?_
     refine w_seq ?_
     refine w_block ?_
     refine w_seq ?_
     refine w_run mo (by rw [hN]; decide) fun K hK => ?_
     replace h := ass_some h
     obtain ⟨a46, h⟩ := h
     simp [-guardE_b, -Is_at, -Is_at', -Ls_at, -Ls_at', eL, eI, allInts, eP_Cat, eP_Fn, Cat.cells, Fn.cells, at_I a46]
     repeat (with_reducible refine And.intro ?_ ?_; · first | assumption | omega | (simp; done) | (simp; omega) | simp_all)
     refine hK _ ?_
     clear hK K
     refine tn ?_
     refine w_weak (st' := ⟨[(0, .rptr [.val (.int .i64 f_.s.n), .lst true 1 (Is f_.s.fr), .lst true 1 (Is f_.s.to), .lst true 1 (Is f_.s.id), .lst true 1 (Ls f_.s.cs), .val (.int .i64 f_.t.n), .lst true 1 (Is f_.t.fr), .lst true 1 (Is f_.t.to), .lst true 1 (Is f_.t.id), .lst true 1 (Ls f_.t.cs), .lst true 1 (Is f_.ob), .lst true 1 (Is f_.ar)]), (3, .rptr [.val (.int .i64 f_.s.n), .lst true 1 (Is f_.s.fr), .lst true 1 (Is f_.s.to), .lst true 1 (Is f_.s.id), .lst true 1 (Ls f_.s.cs), .val (.int .i64 f_.t.n), .lst true 1 (Is f_.t.fr), .lst true 1 (Is f_.t.to), .lst true 1 (Is f_.t.id), .lst true 1 (Ls f_.t.cs), .lst true 1 (Is f_.ob), .lst true 1 (Is f_.ar)]), (4, .rptr [.val (.int .i64 f_.t.n), .lst true 1 (Is f_.t.fr), .lst true 1 (Is f_.t.to), .lst true 1 (Is f_.t.id), .lst true 1 (Ls f_.t.cs), .lst true 1 (Is f_.ob), .lst true 1 (Is f_.ar)]), (7, .val (.int .i64 s44)), (8, .val (.int .i64 (ix f_.s.id s44))), (119, .lst true 1 (Is f_.s.id)), (120, .val (.int .i64 (f_.s.id.length : Int))), (121, .val (.int .i64 s44))], [], 0⟩) (Wk.rel [] (by simp) (by simp) (by rw [hP]; simp) (by simp) (by simp) (by simp [Cat.cells, Fn.cells, Is_append, Is_one, Ls_append, Ls_one, Bs_append, Bs_one, Es_append, Es_one, Es_set', eB, eI, eL]) (by simp [hhOk, back, Cat.cells, Fn.cells, Is_append, Is_one, Ls_append, Ls_one, Bs_append, Bs_one, Es_append, Es_one, Es_set', eB, eI, eL])) ?_
     refine w_seq ?_
     refine w_run mo (by rw [hN]; decide) fun K hK => ?_
     replace h := ass_some h
     obtain ⟨a47, h⟩ := h
     replace h := ass_some h
     obtain ⟨a48, h⟩ := h
     replace h := ass_some h
     obtain ⟨a49, h⟩ := h
     simp [-guardE_b, -Is_at, -Is_at', -Ls_at, -Ls_at', eL, eI, allInts, eP_Cat, eP_Fn, Cat.cells, Fn.cells, at_I a47, at_I a48, at_I a49]
     repeat (with_reducible refine And.intro ?_ ?_; · first | assumption | omega | (simp; done) | (simp; omega) | simp_all)
     refine hK _ ?_
     clear hK K
     refine tn ?_
     refine w_weak (st' := ⟨[(0, .rptr [.val (.int .i64 f_.s.n), .lst true 1 (Is f_.s.fr), .lst true 1 (Is f_.s.to), .lst true 1 (Is f_.s.id), .lst true 1 (Ls f_.s.cs), .val (.int .i64 f_.t.n), .lst true 1 (Is f_.t.fr), .lst true 1 (Is f_.t.to), .lst true 1 (Is f_.t.id), .lst true 1 (Ls f_.t.cs), .lst true 1 (Is f_.ob), .lst true 1 (Is f_.ar)]), (3, .rptr [.val (.int .i64 f_.s.n), .lst true 1 (Is f_.s.fr), .lst true 1 (Is f_.s.to), .lst true 1 (Is f_.s.id), .lst true 1 (Ls f_.s.cs), .val (.int .i64 f_.t.n), .lst true 1 (Is f_.t.fr), .lst true 1 (Is f_.t.to), .lst true 1 (Is f_.t.id), .lst true 1 (Ls f_.t.cs), .lst true 1 (Is f_.ob), .lst true 1 (Is f_.ar)]), (4, .rptr [.val (.int .i64 f_.t.n), .lst true 1 (Is f_.t.fr), .lst true 1 (Is f_.t.to), .lst true 1 (Is f_.t.id), .lst true 1 (Ls f_.t.cs), .lst true 1 (Is f_.ob), .lst true 1 (Is f_.ar)]), (119, .lst true 1 (Is f_.s.id)), (120, .val (.int .i64 (f_.s.id.length : Int))), (121, .val (.int .i64 s44)), (146, .val (.bool ((ix f_.ar (ix f_.s.id s44)) != (ix f_.t.id (ix f_.ob s44)))))], [], 0⟩) (Wk.rel [] (by simp) (by simp) (by rw [hP]; simp) (by simp) (by simp) (by simp [Cat.cells, Fn.cells, Is_append, Is_one, Ls_append, Ls_one, Bs_append, Bs_one, Es_append, Es_one, Es_set', eB, eI, eL]) (by simp [hhOk, back, Cat.cells, Fn.cells, Is_append, Is_one, Ls_append, Ls_one, Bs_append, Bs_one, Es_append, Es_one, Es_set', eB, eI, eL])) ?_
     refine w_cond rfl (fun g => ?_) fun g => ?_
     · have g50 : ¬ ((ix f_.ar (ix f_.s.id s44)) = (ix f_.t.id (ix f_.ob s44))) := by first | simpa using g | (simp at g; exact g) | (simp at g; omega)
       clear g
       replace h := if_l g50 h
       refine w_seq ?_
       refine w_run mo (by rw [hN]; decide) fun K hK => ?_
       simp [-guardE_b, -Is_at, -Is_at', -Ls_at, -Ls_at', eL, eI, allInts, eP_Cat, eP_Fn, Cat.cells, Fn.cells]
       repeat (with_reducible refine And.intro ?_ ?_; · first | assumption | omega | (simp; done) | (simp; omega) | simp_all)
       refine hK _ ?_
       clear hK K
       refine tn ?_
       refine w_weak (st' := ⟨[(2, .val (.bool false))], [], 0⟩) (Wk.rel [] (by simp) (by simp) (by rw [hP]; simp) (by simp) (by simp) (by simp [Cat.cells, Fn.cells, Is_append, Is_one, Ls_append, Ls_one, Bs_append, Bs_one, Es_append, Es_one, Es_set', eB, eI, eL]) (by simp [hhOk, back, Cat.cells, Fn.cells, Is_append, Is_one, Ls_append, Ls_one, Bs_append, Bs_one, Es_append, Es_one, Es_set', eB, eI, eL])) ?_
       refine w_ret ?_
       refine br ?_
       refine tr ?_
       refine lr ?_
       refine br ?_
       refine tr ?_
       cases h
       have q : _ = e36 := hk44
       have h := h36
       rw [← q] at h
       clear q
       try dsimp only at h
       have hr := Option.some.inj h
       rw [← hr]
       refine ⟨_, (.tmp .nil), ?_⟩
       refine ⟨(.one rfl rfl .nil), [.val (.bool false)], [], by simp [Cat.cells, Fn.cells, Is_append, Is_one, Ls_append, Ls_one, Bs_append, Bs_one, Es_append, Es_one, Es_set', eB, eI, eL], by simp, (UpL.refl _)⟩
     have g50 : ¬ (¬ ((ix f_.ar (ix f_.s.id s44)) = (ix f_.t.id (ix f_.ob s44)))) := by first | simpa using g | (simp at g; exact g) | (simp at g; omega)
     clear g
     replace h := if_r g50 h
     refine w_skip ?_
     refine bn ?_
     refine tn ?_
     refine w_run mo (by rw [hN]; decide) fun K hK => ?_
     replace h := ass_some h
     obtain ⟨a51, h⟩ := h
     simp [-guardE_b, -Is_at, -Is_at', -Ls_at, -Ls_at', eL, eI, allInts, eP_Cat, eP_Fn, Cat.cells, Fn.cells, wrap_id a51]
     repeat (with_reducible refine And.intro ?_ ?_; · first | assumption | omega | (simp; done) | (simp; omega) | simp_all)
     refine hK _ ?_
     clear hK K
     cases h
     exact rn (s' := s44 + 1) hk44 (Wk.rel [] (by simp) (by simp) (by rw [hP]; simp) (by simp) (by simp) (by simp [Cat.cells, Fn.cells, Is_append, Is_one, Ls_append, Ls_one, Bs_append, Bs_one, Es_append, Es_one, Es_set', eB, eI, eL]) (by simp [hhOk, back, Cat.cells, Fn.cells, Is_append, Is_one, Ls_append, Ls_one, Bs_append, Bs_one, Es_append, Es_one, Es_set', eB, eI, eL]))
   have g45 : ¬ (s44 < (f_.s.id.length : Int)) := by first | simpa using g | (simp at g; exact g) | (simp at g; omega)
   clear g
   replace h := if_r g45 h
   refine w_exit ?_
   refine tx ?_
   refine lx ?_
   refine bh ?_
   cases h
   exact jn (b := ()) hk44 (Wk.rel [] (by simp) (by simp) (by rw [hP]; simp) (by simp) (by simp) (by simp [Cat.cells, Fn.cells, Is_append, Is_one, Ls_append, Ls_one, Bs_append, Bs_one, Es_append, Es_one, Es_set', eB, eI, eL]) (by simp [hhOk, back, Cat.cells, Fn.cells, Is_append, Is_one, Ls_append, Ls_one, Bs_append, Bs_one, Es_append, Es_one, Es_set', eB, eI, eL]))
 intro b36 hb36
 have h := h36
 rw [← hb36] at h
 clear h36
 try dsimp only at h
 refine w_seq ?_
 refine w_seq ?_
 refine w_run mo (by rw [hN]; decide) fun K hK => ?_
 simp [-guardE_b, -Is_at, -Is_at', -Ls_at, -Ls_at', eL, eI, allInts, eP_Cat, eP_Fn, Cat.cells, Fn.cells]
 repeat (with_reducible refine And.intro ?_ ?_; · first | assumption | omega | (simp; done) | (simp; omega) | simp_all)
 refine hK _ ?_
 clear hK K
 refine tn ?_
 refine w_weak (st' := ⟨[(0, .rptr [.val (.int .i64 f_.s.n), .lst true 1 (Is f_.s.fr), .lst true 1 (Is f_.s.to), .lst true 1 (Is f_.s.id), .lst true 1 (Ls f_.s.cs), .val (.int .i64 f_.t.n), .lst true 1 (Is f_.t.fr), .lst true 1 (Is f_.t.to), .lst true 1 (Is f_.t.id), .lst true 1 (Ls f_.t.cs), .lst true 1 (Is f_.ob), .lst true 1 (Is f_.ar)]), (4, .rptr [.val (.int .i64 f_.t.n), .lst true 1 (Is f_.t.fr), .lst true 1 (Is f_.t.to), .lst true 1 (Is f_.t.id), .lst true 1 (Ls f_.t.cs), .lst true 1 (Is f_.ob), .lst true 1 (Is f_.ar)]), (151, .lst true 1 (Ls f_.s.cs)), (152, .val (.int .i64 (f_.s.cs.length : Int))), (153, .val (.int .i64 0))], [], 0⟩) (Wk.rel [] (by simp) (by simp) (by rw [hP]; simp) (by simp) (by simp) (by simp [Cat.cells, Fn.cells, Is_append, Is_one, Ls_append, Ls_one, Bs_append, Bs_one, Es_append, Es_one, Es_set', eB, eI, eL]) (by simp [hhOk, back, Cat.cells, Fn.cells, Is_append, Is_one, Ls_append, Ls_one, Bs_append, Bs_one, Es_append, Es_one, Es_set', eB, eI, eL])) ?_
 replace h := bind_some h
 obtain ⟨e52, h, h52⟩ := h
 refine w_joinT (fun b52 : Unit => ⟨[], [], 0⟩) (fun b52 => Sum.inl b52 = e52) ?_ ?_
 · refine w_block ?_
   refine w_loopF h (fun s78 : Int => ⟨[(0, .rptr [.val (.int .i64 f_.s.n), .lst true 1 (Is f_.s.fr), .lst true 1 (Is f_.s.to), .lst true 1 (Is f_.s.id), .lst true 1 (Ls f_.s.cs), .val (.int .i64 f_.t.n), .lst true 1 (Is f_.t.fr), .lst true 1 (Is f_.t.to), .lst true 1 (Is f_.t.id), .lst true 1 (Ls f_.t.cs), .lst true 1 (Is f_.ob), .lst true 1 (Is f_.ar)]), (4, .rptr [.val (.int .i64 f_.t.n), .lst true 1 (Is f_.t.fr), .lst true 1 (Is f_.t.to), .lst true 1 (Is f_.t.id), .lst true 1 (Ls f_.t.cs), .lst true 1 (Is f_.ob), .lst true 1 (Is f_.ar)]), (151, .lst true 1 (Ls f_.s.cs)), (152, .val (.int .i64 (f_.s.cs.length : Int))), (153, .val (.int .i64 s78))], [], 0⟩) (Wk.rel [] (by simp) (by simp) (by rw [hP]; simp) (by simp) (by simp) (by simp [Cat.cells, Fn.cells, Is_append, Is_one, Ls_append, Ls_one, Bs_append, Bs_one, Es_append, Es_one, Es_set', eB, eI, eL]) (by simp [hhOk, back, Cat.cells, Fn.cells, Is_append, Is_one, Ls_append, Ls_one, Bs_append, Bs_one, Es_append, Es_one, Es_set', eB, eI, eL])) ?_
   clear h
   intro k78 s78 c78 h hk78
   refine w_seq ?_
   refine w_run mo (by rw [hN]; decide) fun K hK => ?_
   simp [-guardE_b, -Is_at, -Is_at', -Ls_at, -Ls_at', eL, eI, allInts, eP_Cat, eP_Fn, Cat.cells, Fn.cells]
   repeat (with_reducible refine And.intro ?_ ?_; · first | assumption | omega | (simp; done) | (simp; omega) | simp_all)
   refine hK _ ?_
   clear hK K
   refine tn ?_
   refine w_weak (st' := ⟨[(0, .rptr [.val (.int .i64 f_.s.n), .lst true 1 (Is f_.s.fr), .lst true 1 (Is f_.s.to), .lst true 1 (Is f_.s.id), .lst true 1 (Ls f_.s.cs), .val (.int .i64 f_.t.n), .lst true 1 (Is f_.t.fr), .lst true 1 (Is f_.t.to), .lst true 1 (Is f_.t.id), .lst true 1 (Ls f_.t.cs), .lst true 1 (Is f_.ob), .lst true 1 (Is f_.ar)]), (4, .rptr [.val (.int .i64 f_.t.n), .lst true 1 (Is f_.t.fr), .lst true 1 (Is f_.t.to), .lst true 1 (Is f_.t.id), .lst true 1 (Ls f_.t.cs), .lst true 1 (Is f_.ob), .lst true 1 (Is f_.ar)]), (151, .lst true 1 (Ls f_.s.cs)), (152, .val (.int .i64 (f_.s.cs.length : Int))), (153, .val (.int .i64 s78)), (154, .val (.bool (decide (s78 < (f_.s.cs.length : Int)))))], [], 0⟩) (Wk.rel [] (by simp) (by simp) (by rw [hP]; simp) (by simp) (by simp) (by simp [Cat.cells, Fn.cells, Is_append, Is_one, Ls_append, Ls_one, Bs_append, Bs_one, Es_append, Es_one, Es_set', eB, eI, eL]) (by simp [hhOk, back, Cat.cells, Fn.cells, Is_append, Is_one, Ls_append, Ls_one, Bs_append, Bs_one, Es_append, Es_one, Es_set', eB, eI, eL])) ?_
   refine w_seq ?_
   refine w_cond rfl (fun g => ?_) fun g => ?_
   · have g79 : s78 < (f_.s.cs.length : Int) := by first | simpa using g | (simp at g; exact g) | (simp at g; omega)
     clear g
     replace h := if_l g79 h
     refine w_skip ?_
     refine tn ?_
     refine w_seq ?_
     replace h := bind_some h
     obtain ⟨e80, h, h80⟩ := h
     refine w_joinT (fun b80 : Unit => ⟨[(0, .rptr [.val (.int .i64 f_.s.n), .lst true 1 (Is f_.s.fr), .lst true 1 (Is f_.s.to), .lst true 1 (Is f_.s.id), .lst true 1 (Ls f_.s.cs), .val (.int .i64 f_.t.n), .lst true 1 (Is f_.t.fr), .lst true 1 (Is f_.t.to), .lst true 1 (Is f_.t.id), .lst true 1 (Ls f_.t.cs), .lst true 1 (Is f_.ob), .lst true 1 (Is f_.ar)]), (4, .rptr [.val (.int .i64 f_.t.n), .lst true 1 (Is f_.t.fr), .lst true 1 (Is f_.t.to), .lst true 1 (Is f_.t.id), .lst true 1 (Ls f_.t.cs), .lst true 1 (Is f_.ob), .lst true 1 (Is f_.ar)]), (151, .lst true 1 (Ls f_.s.cs)), (152, .val (.int .i64 (f_.s.cs.length : Int))), (153, .val (.int .i64 s78))], [], 0⟩) (fun b80 => Sum.inl b80 = e80) ?_ ?_
     · refine w_block ?_
       refine w_seq ?_
       refine w_run mo (by rw [hN]; decide) fun K hK => ?_
       replace h := ass_some h
       obtain ⟨a81, h⟩ := h
       simp [-guardE_b, -Is_at, -Is_at', -Ls_at, -Ls_at', eL, eI, allInts, eP_Cat, eP_Fn, Cat.cells, Fn.cells, at_L a81]
       repeat (with_reducible refine And.intro ?_ ?_; · first | assumption | omega | (simp; done) | (simp; omega) | simp_all)
       refine hK _ ?_
       clear hK K
       refine tn ?_
       refine w_weak (st' := ⟨[(0, .rptr [.val (.int .i64 f_.s.n), .lst true 1 (Is f_.s.fr), .lst true 1 (Is f_.s.to), .lst true 1 (Is f_.s.id), .lst true 1 (Ls f_.s.cs), .val (.int .i64 f_.t.n), .lst true 1 (Is f_.t.fr), .lst true 1 (Is f_.t.to), .lst true 1 (Is f_.t.id), .lst true 1 (Ls f_.t.cs), .lst true 1 (Is f_.ob), .lst true 1 (Is f_.ar)]), (4, .rptr [.val (.int .i64 f_.t.n), .lst true 1 (Is f_.t.fr), .lst true 1 (Is f_.t.to), .lst true 1 (Is f_.t.id), .lst true 1 (Ls f_.t.cs), .lst true 1 (Is f_.ob), .lst true 1 (Is f_.ar)]), (9, .val (.int .i64 s78)), (10, .lst true 1 (Is (rx f_.s.cs s78))), (151, .lst true 1 (Ls f_.s.cs)), (152, .val (.int .i64 (f_.s.cs.length : Int))), (153, .val (.int .i64 s78))], [], 0⟩) (Wk.rel [] (by simp) (by simp) (by rw [hP]; simp) (by simp) (by simp) (by simp [Cat.cells, Fn.cells, Is_append, Is_one, Ls_append, Ls_one, Bs_append, Bs_one, Es_append, Es_one, Es_set', eB, eI, eL]) (by simp [hhOk, back, Cat.cells, Fn.cells, Is_append, Is_one, Ls_append, Ls_one, Bs_append, Bs_one, Es_append, Es_one, Es_set', eB, eI, eL])) ?_
       refine w_seq ?_
       refine w_run mo (by rw [hN]; decide) fun K hK => ?_
       simp [-guardE_b, -Is_at, -Is_at', -Ls_at, -Ls_at', eL, eI, allInts, eP_Cat, eP_Fn, Cat.cells, Fn.cells]
       repeat (with_reducible refine And.intro ?_ ?_; · first | assumption | omega | (simp; done) | (simp; omega) | simp_all)
       refine hK _ ?_
       clear hK K
       refine tn ?_
       refine w_weak (st' := ⟨[(0, .rptr [.val (.int .i64 f_.s.n), .lst true 1 (Is f_.s.fr), .lst true 1 (Is f_.s.to), .lst true 1 (Is f_.s.id), .lst true 1 (Ls f_.s.cs), .val (.int .i64 f_.t.n), .lst true 1 (Is f_.t.fr), .lst true 1 (Is f_.t.to), .lst true 1 (Is f_.t.id), .lst true 1 (Ls f_.t.cs), .lst true 1 (Is f_.ob), .lst true 1 (Is f_.ar)]), (4, .rptr [.val (.int .i64 f_.t.n), .lst true 1 (Is f_.t.fr), .lst true 1 (Is f_.t.to), .lst true 1 (Is f_.t.id), .lst true 1 (Ls f_.t.cs), .lst true 1 (Is f_.ob), .lst true 1 (Is f_.ar)]), (9, .val (.int .i64 s78)), (151, .lst true 1 (Ls f_.s.cs)), (152, .val (.int .i64 (f_.s.cs.length : Int))), (153, .val (.int .i64 s78)), (158, .lst true 1 (Is (rx f_.s.cs s78))), (159, .val (.int .i64 ((rx f_.s.cs s78).length : Int))), (160, .val (.int .i64 0))], [], 0⟩) (Wk.rel [] (by simp) (by simp) (by rw [hP]; simp) (by simp) (by simp) (by simp [Cat.cells, Fn.cells, Is_append, Is_one, Ls_append, Ls_one, Bs_append, Bs_one, Es_append, Es_one, Es_set', eB, eI, eL]) (by simp [hhOk, back, Cat.cells, Fn.cells, Is_append, Is_one, Ls_append, Ls_one, Bs_append, Bs_one, Es_append, Es_one, Es_set', eB, eI, eL])) ?_
       refine w_block ?_
       replace h := bind_some h
       obtain ⟨e92, he92, h92⟩ := h
       refine w_loopF he92 (fun s92 : Int => ⟨[(0, .rptr [.val (.int .i64 f_.s.n), .lst true 1 (Is f_.s.fr), .lst true 1 (Is f_.s.to), .lst true 1 (Is f_.s.id), .lst true 1 (Ls f_.s.cs), .val (.int .i64 f_.t.n), .lst true 1 (Is f_.t.fr), .lst true 1 (Is f_.t.to), .lst true 1 (Is f_.t.id), .lst true 1 (Ls f_.t.cs), .lst true 1 (Is f_.ob), .lst true 1 (Is f_.ar)]), (4, .rptr [.val (.int .i64 f_.t.n), .lst true 1 (Is f_.t.fr), .lst true 1 (Is f_.t.to), .lst true 1 (Is f_.t.id), .lst true 1 (Ls f_.t.cs), .lst true 1 (Is f_.ob), .lst true 1 (Is f_.ar)]), (9, .val (.int .i64 s78)), (151, .lst true 1 (Ls f_.s.cs)), (152, .val (.int .i64 (f_.s.cs.length : Int))), (153, .val (.int .i64 s78)), (158, .lst true 1 (Is (rx f_.s.cs s78))), (159, .val (.int .i64 ((rx f_.s.cs s78).length : Int))), (160, .val (.int .i64 s92))], [], 0⟩) (Wk.rel [] (by simp) (by simp) (by rw [hP]; simp) (by simp) (by simp) (by simp [Cat.cells, Fn.cells, Is_append, Is_one, Ls_append, Ls_one, Bs_append, Bs_one, Es_append, Es_one, Es_set', eB, eI, eL]) (by simp [hhOk, back, Cat.cells, Fn.cells, Is_append, Is_one, Ls_append, Ls_one, Bs_append, Bs_one, Es_append, Es_one, Es_set', eB, eI, eL])) ?_
       intro k92 s92 c92 h hk92
       refine w_seq ?_
       refine w_run mo (by rw [hN]; decide) fun K hK => ?_
       simp [-guardE_b, -Is_at, -Is_at', -Ls_at, -Ls_at', eL, eI, allInts, eP_Cat, eP_Fn, Cat.cells, Fn.cells]
       repeat (with_reducible refine And.intro ?_ ?_; · first | assumption | omega | (simp; done) | (simp; omega) | simp_all)
       refine hK _ ?_
       clear hK K
       refine tn ?_
       refine w_weak (st' := ⟨[(0, .rptr [.val (.int .i64 f_.s.n), .lst true 1 (Is f_.s.fr), .lst true 1 (Is f_.s.to), .lst true 1 (Is f_.s.id), .lst true 1 (Ls f_.s.cs), .val (.int .i64 f_.t.n), .lst true 1 (Is f_.t.fr), .lst true 1 (Is f_.t.to), .lst true 1 (Is f_.t.id), .lst true 1 (Ls f_.t.cs), .lst true 1 (Is f_.ob), .lst true 1 (Is f_.ar)]), (4, .rptr [.val (.int .i64 f_.t.n), .lst true 1 (Is f_.t.fr), .lst true 1 (Is f_.t.to), .lst true 1 (Is f_.t.id), .lst true 1 (Ls f_.t.cs), .lst true 1 (Is f_.ob), .lst true 1 (Is f_.ar)]), (9, .val (.int .i64 s78)), (151, .lst true 1 (Ls f_.s.cs)), (152, .val (.int .i64 (f_.s.cs.length : Int))), (153, .val (.int .i64 s78)), (158, .lst true 1 (Is (rx f_.s.cs s78))), (159, .val (.int .i64 ((rx f_.s.cs s78).length : Int))), (160, .val (.int .i64 s92)), (161, .val (.bool (decide (s92 < ((rx f_.s.cs s78).length : Int)))))], [], 0⟩) (Wk.rel [] (by simp) (by simp) (by rw [hP]; simp) (by simp) (by simp) (by simp [Cat.cells, Fn.cells, Is_append, Is_one, Ls_append, Ls_one, Bs_append, Bs_one, Es_append, Es_one, Es_set', eB, eI, eL]) (by simp [hhOk, back, Cat.cells, Fn.cells, Is_append, Is_one, Ls_append, Ls_one, Bs_append, Bs_one, Es_append, Es_one, Es_set', eB, eI, eL])) ?_
       refine w_seq ?_
       refine w_cond rfl (fun g => ?_) fun g => ?_
       · have g93 : s92 < ((rx f_.s.cs s78).length : Int) := by first | simpa using g | (simp at g; exact g) | (simp at g; omega)
         clear g
         replace h := if_l g93 h
         refine w_skip ?_
         refine tn ?_
         refine w_seq ?_
         refine w_block ?_
         refine w_seq ?_
         refine w_run mo (by rw [hN]; decide) fun K hK => ?_
         replace h := ass_some h
         obtain ⟨a94, h⟩ := h
         simp [-guardE_b, -Is_at, -Is_at', -Ls_at, -Ls_at', eL, eI, allInts, eP_Cat, eP_Fn, Cat.cells, Fn.cells, at_I a94]
         repeat (with_reducible refine And.intro ?_ ?_; · first | assumption | omega | (simp; done) | (simp; omega) | simp_all)
         refine hK _ ?_
         clear hK K
         refine tn ?_
         refine w_weak (st' := ⟨[(0, .rptr [.val (.int .i64 f_.s.n), .lst true 1 (Is f_.s.fr), .lst true 1 (Is f_.s.to), .lst true 1 (Is f_.s.id), .lst true 1 (Ls f_.s.cs), .val (.int .i64 f_.t.n), .lst true 1 (Is f_.t.fr), .lst true 1 (Is f_.t.to), .lst true 1 (Is f_.t.id), .lst true 1 (Ls f_.t.cs), .lst true 1 (Is f_.ob), .lst true 1 (Is f_.ar)]), (4, .rptr [.val (.int .i64 f_.t.n), .lst true 1 (Is f_.t.fr), .lst true 1 (Is f_.t.to), .lst true 1 (Is f_.t.id), .lst true 1 (Ls f_.t.cs), .lst true 1 (Is f_.ob), .lst true 1 (Is f_.ar)]), (9, .val (.int .i64 s78)), (11, .val (.int .i64 s92)), (12, .val (.int .i64 (ix (rx f_.s.cs s78) s92))), (151, .lst true 1 (Ls f_.s.cs)), (152, .val (.int .i64 (f_.s.cs.length : Int))), (153, .val (.int .i64 s78)), (158, .lst true 1 (Is (rx f_.s.cs s78))), (159, .val (.int .i64 ((rx f_.s.cs s78).length : Int))), (160, .val (.int .i64 s92))], [], 0⟩) (Wk.rel [] (by simp) (by simp) (by rw [hP]; simp) (by simp) (by simp) (by simp [Cat.cells, Fn.cells, Is_append, Is_one, Ls_append, Ls_one, Bs_append, Bs_one, Es_append, Es_one, Es_set', eB, eI, eL]) (by simp [hhOk, back, Cat.cells, Fn.cells, Is_append, Is_one, Ls_append, Ls_one, Bs_append, Bs_one, Es_append, Es_one, Es_set', eB, eI, eL])) ?_
         refine w_seq ?_
         replace h := bind_some h
         obtain ⟨e95, h, h95⟩ := h
         refine w_joinT (fun b95 : Bool => ⟨[(0, .rptr [.val (.int .i64 f_.s.n), .lst true 1 (Is f_.s.fr), .lst true 1 (Is f_.s.to), .lst true 1 (Is f_.s.id), .lst true 1 (Ls f_.s.cs), .val (.int .i64 f_.t.n), .lst true 1 (Is f_.t.fr), .lst true 1 (Is f_.t.to), .lst true 1 (Is f_.t.id), .lst true 1 (Ls f_.t.cs), .lst true 1 (Is f_.ob), .lst true 1 (Is f_.ar)]), (4, .rptr [.val (.int .i64 f_.t.n), .lst true 1 (Is f_.t.fr), .lst true 1 (Is f_.t.to), .lst true 1 (Is f_.t.id), .lst true 1 (Ls f_.t.cs), .lst true 1 (Is f_.ob), .lst true 1 (Is f_.ar)]), (9, .val (.int .i64 s78)), (151, .lst true 1 (Ls f_.s.cs)), (152, .val (.int .i64 (f_.s.cs.length : Int))), (153, .val (.int .i64 s78)), (158, .lst true 1 (Is (rx f_.s.cs s78))), (159, .val (.int .i64 ((rx f_.s.cs s78).length : Int))), (160, .val (.int .i64 s92)), (192, .val (.bool b95))], [], 0⟩) (fun b95 => b95 = e95) ?_ ?_
         · refine w_run mo (by rw [hN]; decide) fun K hK => ?_
           simp [-guardE_b, -Is_at, -Is_at', -Ls_at, -Ls_at', eL, eI, allInts, eP_Cat, eP_Fn, Cat.cells, Fn.cells]
           repeat (with_reducible refine And.intro ?_ ?_; · first | assumption | omega | (simp; done) | (simp; omega) | simp_all)
           refine guard_intro (fun g => ?_) (fun g => ?_)
           · have g96 : (ix (rx f_.s.cs s78) s92) ≥ 0 := by first | simpa using g | (simp at g; exact g) | (simp at g; omega)
             clear g
             replace h := if_l g96 h
             replace h := ass_some h
             obtain ⟨a97, h⟩ := h
             replace h := ass_some h
             obtain ⟨a98, h⟩ := h
             replace h := ass_some h
             obtain ⟨a99, h⟩ := h
             simp [-guardE_b, -Is_at, -Is_at', -Ls_at, -Ls_at', eL, eI, allInts, eP_Cat, eP_Fn, Cat.cells, Fn.cells, at_I a97, at_I a98, at_I a99]
             repeat (with_reducible refine And.intro ?_ ?_; · first | assumption | omega | (simp; done) | (simp; omega) | simp_all)
             replace h := bind_some h
             obtain ⟨v100, hv100, h⟩ := h
             refine callA_intro (w_i_Category_then _ _ _ v100 hv100) (.cons (.preT (by simp [Cat.cells, Fn.cells])) (.cons .val (.cons .val .nil))) ?_
             simp [-guardE_b, -Is_at, -Is_at', -Ls_at, -Ls_at', unk, unA, unE, unT, unC, flat, eL, eI, allInts, eP_Cat, eP_Fn, Cat.cells, Fn.cells]
             repeat (with_reducible refine And.intro ?_ ?_; · first | assumption | omega | (simp; done) | (simp; omega) | simp_all)
             refine hK _ ?_
             exact jn (b := (ix f_.ar (ix (rx f_.s.cs s78) s92)) != v100) (Option.some.inj h) (Wk.rel [] (by simp) (by simp) (by rw [hP]; simp) (by simp) (by simp) (by simp [Cat.cells, Fn.cells, Is_append, Is_one, Ls_append, Ls_one, Bs_append, Bs_one, Es_append, Es_one, Es_set', eB, eI, eL]) (by simp [hhOk, back, Cat.cells, Fn.cells, Is_append, Is_one, Ls_append, Ls_one, Bs_append, Bs_one, Es_append, Es_one, Es_set', eB, eI, eL]))
           have g96 : ¬ ((ix (rx f_.s.cs s78) s92) ≥ 0) := by first | simpa using g | (simp at g; exact g) | (simp at g; omega)
           clear g
           replace h := if_r g96 h
           simp [-guardE_b, -Is_at, -Is_at', -Ls_at, -Ls_at', eL, eI, allInts, eP_Cat, eP_Fn, Cat.cells, Fn.cells]
           repeat (with_reducible refine And.intro ?_ ?_; · first | assumption | omega | (simp; done) | (simp; omega) | simp_all)
           refine hK _ ?_
           exact jn (b := false) (Option.some.inj h) (Wk.rel [] (by simp) (by simp) (by rw [hP]; simp) (by simp) (by simp) (by simp [Cat.cells, Fn.cells, Is_append, Is_one, Ls_append, Ls_one, Bs_append, Bs_one, Es_append, Es_one, Es_set', eB, eI, eL]) (by simp [hhOk, back, Cat.cells, Fn.cells, Is_append, Is_one, Ls_append, Ls_one, Bs_append, Bs_one, Es_append, Es_one, Es_set', eB, eI, eL]))
         intro b95 hb95
         have h := h95
         rw [← hb95] at h
         clear h95
         try dsimp only at h
         refine w_cond rfl (fun g => ?_) fun g => ?_
         · have g101 : b95 = true := by first | simpa using g | (simp at g; exact g) | (simp at g; omega)
           clear g
           replace h := if_l g101 h
           refine w_seq ?_
           refine w_run mo (by rw [hN]; decide) fun K hK => ?_
           simp [-guardE_b, -Is_at, -Is_at', -Ls_at, -Ls_at', eL, eI, allInts, eP_Cat, eP_Fn, Cat.cells, Fn.cells]
           repeat (with_reducible refine And.intro ?_ ?_; · first | assumption | omega | (simp; done) | (simp; omega) | simp_all)
           refine hK _ ?_
           clear hK K
           refine tn ?_
           refine w_weak (st' := ⟨[(2, .val (.bool false))], [], 0⟩) (Wk.rel [] (by simp) (by simp) (by rw [hP]; simp) (by simp) (by simp) (by simp [Cat.cells, Fn.cells, Is_append, Is_one, Ls_append, Ls_one, Bs_append, Bs_one, Es_append, Es_one, Es_set', eB, eI, eL]) (by simp [hhOk, back, Cat.cells, Fn.cells, Is_append, Is_one, Ls_append, Ls_one, Bs_append, Bs_one, Es_append, Es_one, Es_set', eB, eI, eL])) ?_
           refine w_ret ?_
           refine br ?_
           refine tr ?_
           refine lr ?_
           refine br ?_
           refine br ?_
           refine tr ?_
           refine lr ?_
           refine br ?_
           refine tr ?_
           cases h
           have q : _ = e92 := hk92
           have h := h92
           rw [← q] at h
           clear q
           try dsimp only at h
           cases h
           have h := h80
           try dsimp only at h
           cases h
           have q : _ = e52 := hk78
           have h := h52
           rw [← q] at h
           clear q
           try dsimp only at h
           have hr := Option.some.inj h
           rw [← hr]
           refine ⟨_, (.tmp .nil), ?_⟩
           refine ⟨(.one rfl rfl .nil), [.val (.bool false)], [], by simp [Cat.cells, Fn.cells, Is_append, Is_one, Ls_append, Ls_one, Bs_append, Bs_one, Es_append, Es_one, Es_set', eB, eI, eL], by simp, (UpL.refl _)⟩
         have g101 : ¬ (b95 = true) := by first | simpa using g | (simp at g; exact g) | (simp at g; omega)
         clear g
         replace h := if_r g101 h
         refine w_skip ?_
         refine bn ?_
         refine tn ?_
         refine w_run mo (by rw [hN]; decide) fun K hK => ?_
         replace h := ass_some h
         obtain ⟨a102, h⟩ := h
         simp [-guardE_b, -Is_at, -Is_at', -Ls_at, -Ls_at', eL, eI, allInts, eP_Cat, eP_Fn, Cat.cells, Fn.cells, wrap_id a102]
         repeat (with_reducible refine And.intro ?_ ?_; · first | assumption | omega | (simp; done) | (simp; omega) | simp_all)
         refine hK _ ?_
         clear hK K
         cases h
         exact rn (s' := s92 + 1) hk92 (Wk.rel [] (by simp) (by simp) (by rw [hP]; simp) (by simp) (by simp) (by simp [Cat.cells, Fn.cells, Is_append, Is_one, Ls_append, Ls_one, Bs_append, Bs_one, Es_append, Es_one, Es_set', eB, eI, eL]) (by simp [hhOk, back, Cat.cells, Fn.cells, Is_append, Is_one, Ls_append, Ls_one, Bs_append, Bs_one, Es_append, Es_one, Es_set', eB, eI, eL]))
       have g93 : ¬ (s92 < ((rx f_.s.cs s78).length : Int)) := by first | simpa using g | (simp at g; exact g) | (simp at g; omega)
       clear g
       replace h := if_r g93 h
       refine w_exit ?_
       refine tx ?_
       refine lx ?_
       refine bh ?_
       refine bn ?_
       cases h
       have q : _ = e92 := hk92
       have h := h92
       rw [← q] at h
       clear q
       try dsimp only at h
       exact jn (b := ()) (Option.some.inj h) (Wk.rel [] (by simp) (by simp) (by rw [hP]; simp) (by simp) (by simp) (by simp [Cat.cells, Fn.cells, Is_append, Is_one, Ls_append, Ls_one, Bs_append, Bs_one, Es_append, Es_one, Es_set', eB, eI, eL]) (by simp [hhOk, back, Cat.cells, Fn.cells, Is_append, Is_one, Ls_append, Ls_one, Bs_append, Bs_one, Es_append, Es_one, Es_set', eB, eI, eL]))
     intro b80 hb80
     have h := h80
     rw [← hb80] at h
     clear h80
     try dsimp only at h
     refine w_run mo (by rw [hN]; decide) fun K hK => ?_
     replace h := ass_some h
     obtain ⟨a103, h⟩ := h
     simp [-guardE_b, -Is_at, -Is_at', -Ls_at, -Ls_at', eL, eI, allInts, eP_Cat, eP_Fn, Cat.cells, Fn.cells, wrap_id a103]
     repeat (with_reducible refine And.intro ?_ ?_; · first | assumption | omega | (simp; done) | (simp; omega) | simp_all)
     refine hK _ ?_
     clear hK K
     cases h
     exact rn (s' := s78 + 1) hk78 (Wk.rel [] (by simp) (by simp) (by rw [hP]; simp) (by simp) (by simp) (by simp [Cat.cells, Fn.cells, Is_append, Is_one, Ls_append, Ls_one, Bs_append, Bs_one, Es_append, Es_one, Es_set', eB, eI, eL]) (by simp [hhOk, back, Cat.cells, Fn.cells, Is_append, Is_one, Ls_append, Ls_one, Bs_append, Bs_one, Es_append, Es_one, Es_set', eB, eI, eL]))
   have g79 : ¬ (s78 < (f_.s.cs.length : Int)) := by first | simpa using g | (simp at g; exact g) | (simp at g; omega)
   clear g
   replace h := if_r g79 h
   refine w_exit ?_
   refine tx ?_
   refine lx ?_
   refine bh ?_
   cases h
   exact jn (b := ()) hk78 (Wk.rel [] (by simp) (by simp) (by rw [hP]; simp) (by simp) (by simp) (by simp [Cat.cells, Fn.cells, Is_append, Is_one, Ls_append, Ls_one, Bs_append, Bs_one, Es_append, Es_one, Es_set', eB, eI, eL]) (by simp [hhOk, back, Cat.cells, Fn.cells, Is_append, Is_one, Ls_append, Ls_one, Bs_append, Bs_one, Es_append, Es_one, Es_set', eB, eI, eL]))
 intro b52 hb52
 have h := h52
 rw [← hb52] at h
 clear h52
 try dsimp only at h
 refine w_seq ?_
 refine w_run mo (by rw [hN]; decide) fun K hK => ?_
 simp [-guardE_b, -Is_at, -Is_at', -Ls_at, -Ls_at', eL, eI, allInts, eP_Cat, eP_Fn, Cat.cells, Fn.cells]
 repeat (with_reducible refine And.intro ?_ ?_; · first | assumption | omega | (simp; done) | (simp; omega) | simp_all)
 refine hK _ ?_
 clear hK K
 refine tn ?_
 refine w_weak (st' := ⟨[(2, .val (.bool true))], [], 0⟩) (Wk.rel [] (by simp) (by simp) (by rw [hP]; simp) (by simp) (by simp) (by simp [Cat.cells, Fn.cells, Is_append, Is_one, Ls_append, Ls_one, Bs_append, Bs_one, Es_append, Es_one, Es_set', eB, eI, eL]) (by simp [hhOk, back, Cat.cells, Fn.cells, Is_append, Is_one, Ls_append, Ls_one, Bs_append, Bs_one, Es_append, Es_one, Es_set', eB, eI, eL])) ?_
 refine w_ret ?_
 have hr := Option.some.inj h
 rw [← hr]
 refine ⟨_, (.tmp .nil), ?_⟩
 refine ⟨(.one rfl rfl .nil), [.val (.bool true)], [], by simp [Cat.cells, Fn.cells, Is_append, Is_one, Ls_append, Ls_one, Bs_append, Bs_one, Es_append, Es_one, Es_set', eB, eI, eL], by simp, (UpL.refl _)⟩
end Go.Vc.T

set_option maxRecDepth 100000
set_option linter.unusedSimpArgs false
set_option linter.unusedVariables false
namespace Go.Vc.T
open Go Go.Vc Go.Proofs
noncomputable def s_i_Functor_isFunctor (f_ : Fn) : Option Bool :=
 (
   (s_i_areCategories [f_.s, f_.t]).bind fun v2 =>
   if v2 = true then
     (s_i_Functor_fits f_).bind fun v4 =>
     some v4
   else
     some false : Option (Bool)).bind fun b1 =>
 some b1
set_option maxHeartbeats 4000000 in
theorem w_i_Functor_isFunctor (f_ : Fn) (r : Bool) (h : s_i_Functor_isFunctor f_ = some r) : Contract Try.prog 157 [.rptr (f_.cells true)] (.val (.bool r)) := by
 refine contract_introG (rvs := [.tmp 2]) (rs := [.val (.bool r)]) Try.func157 rfl rfl rfl rfl (by simp [Try.f157]) fun F hN hP => ?_
 unfold s_i_Functor_isFunctor at h
 refine w_seq ?_
 refine w_run mo (by rw [hN]; decide) fun K hK => ?_
 simp [-guardE_b, -Is_at, -Is_at', -Ls_at, -Ls_at', eL, eI, allInts, eP_Cat, eP_Fn, Cat.cells, Fn.cells]
 repeat (with_reducible refine And.intro ?_ ?_; · first | assumption | omega | (simp; done) | (simp; omega) | simp_all)
 refine hK _ ?_
 clear hK K
 refine tn ?_
 refine w_weak (st' := ⟨[(0, .rptr [.val (.int .i64 f_.s.n), .lst true 1 (Is f_.s.fr), .lst true 1 (Is f_.s.to), .lst true 1 (Is f_.s.id), .lst true 1 (Ls f_.s.cs), .val (.int .i64 f_.t.n), .lst true 1 (Is f_.t.fr), .lst true 1 (Is f_.t.to), .lst true 1 (Is f_.t.id), .lst true 1 (Ls f_.t.cs), .lst true 1 (Is f_.ob), .lst true 1 (Is f_.ar)])], [], 0⟩) (Wk.rel [] (by simp) (by simp) (by rw [hP]; simp) (by simp) (by simp) (by simp [Cat.cells, Fn.cells, Is_append, Is_one, Ls_append, Ls_one, Bs_append, Bs_one, Es_append, Es_one, Es_set', eB, eI, eL]) (by simp [hhOk, back, Cat.cells, Fn.cells, Is_append, Is_one, Ls_append, Ls_one, Bs_append, Bs_one, Es_append, Es_one, Es_set', eB, eI, eL])) ?_
 refine w_seq ?_
 replace h := bind_some h
 obtain ⟨e1, h, h1⟩ := h
 refine w_joinT (fun b1 : Bool => ⟨[(2, .val (.bool b1))], [], 0⟩) (fun b1 => b1 = e1) ?_ ?_
 · refine w_run mo (by rw [hN]; decide) fun K hK => ?_
   simp [-guardE_b, -Is_at, -Is_at', -Ls_at, -Ls_at', eL, eI, allInts, eP_Cat, eP_Fn, Cat.cells, Fn.cells]
   repeat (with_reducible refine And.intro ?_ ?_; · first | assumption | omega | (simp; done) | (simp; omega) | simp_all)
   replace h := bind_some h
   obtain ⟨v2, hv2, h⟩ := h
   refine callA_intro (w_i_areCategories _ v2 hv2) (.cons (.lits (es := _) rfl (.cons rfl (.cons (.preT (by simp [Cat.cells, Fn.cells])) .nil) (.cons rfl (.cons (.preT (by simp [Cat.cells, Fn.cells])) .nil) .nil)) rfl) .nil) ?_
   simp [-guardE_b, -Is_at, -Is_at', -Ls_at, -Ls_at', unk, unA, unE, unT, unC, flat, eL, eI, allInts, eP_Cat, eP_Fn, Cat.cells, Fn.cells]
   repeat (with_reducible refine And.intro ?_ ?_; · first | assumption | omega | (simp; done) | (simp; omega) | simp_all)
   refine guard_intro (fun g => ?_) (fun g => ?_)
   · have g3 : v2 = true := by first | simpa using g | (simp at g; exact g) | (simp at g; omega)
     clear g
     replace h := if_l g3 h
     simp [-guardE_b, -Is_at, -Is_at', -Ls_at, -Ls_at', eL, eI, allInts, eP_Cat, eP_Fn, Cat.cells, Fn.cells]
     repeat (with_reducible refine And.intro ?_ ?_; · first | assumption | omega | (simp; done) | (simp; omega) | simp_all)
     replace h := bind_some h
     obtain ⟨v4, hv4, h⟩ := h
     refine callA_intro (w_i_Functor_fits _ v4 hv4) (.cons (.preT (by simp [Cat.cells, Fn.cells])) .nil) ?_
     simp [-guardE_b, -Is_at, -Is_at', -Ls_at, -Ls_at', unk, unA, unE, unT, unC, flat, eL, eI, allInts, eP_Cat, eP_Fn, Cat.cells, Fn.cells]
     repeat (with_reducible refine And.intro ?_ ?_; · first | assumption | omega | (simp; done) | (simp; omega) | simp_all)
     refine hK _ ?_
     exact jn (b := v4) (Option.some.inj h) (Wk.rel [] (by simp) (by simp) (by rw [hP]; simp) (by simp) (by simp) (by simp [Cat.cells, Fn.cells, Is_append, Is_one, Ls_append, Ls_one, Bs_append, Bs_one, Es_append, Es_one, Es_set', eB, eI, eL]) (by simp [hhOk, back, Cat.cells, Fn.cells, Is_append, Is_one, Ls_append, Ls_one, Bs_append, Bs_one, Es_append, Es_one, Es_set', eB, eI, eL]))
   have g3 : ¬ (v2 = true) := by first | simpa using g | (simp at g; exact g) | (simp at g; omega)
   clear g
   replace h := if_r g3 h
   simp [-guardE_b, -Is_at, -Is_at', -Ls_at, -Ls_at', eL, eI, allInts, eP_Cat, eP_Fn, Cat.cells, Fn.cells]
   repeat (with_reducible refine And.intro ?_ ?_; · first | assumption | omega | (simp; done) | (simp; omega) | simp_all)
   refine hK _ ?_
   exact jn (b := false) (Option.some.inj h) (Wk.rel [] (by simp) (by simp) (by rw [hP]; simp) (by simp) (by simp) (by simp [Cat.cells, Fn.cells, Is_append, Is_one, Ls_append, Ls_one, Bs_append, Bs_one, Es_append, Es_one, Es_set', eB, eI, eL]) (by simp [hhOk, back, Cat.cells, Fn.cells, Is_append, Is_one, Ls_append, Ls_one, Bs_append, Bs_one, Es_append, Es_one, Es_set', eB, eI, eL]))
 intro b1 hb1
 have h := h1
 rw [← hb1] at h
 clear h1
 try dsimp only at h
 refine w_ret ?_
 have hr := Option.some.inj h
 rw [← hr]
 refine ⟨_, (.tmp .nil), ?_⟩
 refine ⟨(.one rfl rfl .nil), [.val (.bool b1)], [], by simp [Cat.cells, Fn.cells, Is_append, Is_one, Ls_append, Ls_one, Bs_append, Bs_one, Es_append, Es_one, Es_set', eB, eI, eL], by simp, (UpL.refl _)⟩
end Go.Vc.T

set_option maxRecDepth 100000
set_option linter.unusedSimpArgs false
set_option linter.unusedVariables false
namespace Go.Vc.T
open Go Go.Vc Go.Proofs
theorem set_fill {α : Type} (xs : List α) (k : Nat) (v z : α) {i : Nat} (h : i = xs.length) : (xs ++ List.replicate (k + 1) z).set i v = (xs ++ [v]) ++ List.replicate k z := by
 subst h
 simp [List.replicate_succ]
def selfF (c : Cat) : Fn := ⟨c, c, iota c.n.toNat, iota c.fr.length⟩
def thenF (f g : Fn) : Fn := ⟨f.s, g.t, thenL f.ob g.ob, thenL f.ar g.ar⟩
theorem Cat.Is.ok {c : Cat} (h : c.Is) : c.ok := h.1.size2.1
theorem Fn.Is.lob {f : Fn} (h : f.Is) : f.ob.length ≤ 8 := by have := h.lo; have := h.s.1.n8; omega
theorem Fn.Is.lar {f : Fn} (h : f.Is) : f.ar.length ≤ 40 := by have := h.la; have := h.s.1.m40; omega
theorem e_l06Make {c d : Cat} {ob ar : List Int} (hc : c.ok) (hd : d.ok) (ho : ob.length ≤ 1048576) (ha : ar.length ≤ 1048576) : s_s_l06Make c d ob ar = some ⟨c, d, ob, ar⟩ := by
 simp [s_s_l06Make, s_s_l02Own, s_s_l01Own, hc, hd, ho, ha]
theorem e_functor {c d : Cat} {ob ar : List Int} (hc : c.ok) (hd : d.ok) (ho : ob.length ≤ 1048576) (ha : ar.length ≤ 1048576) : s_i_functor c d ob ar = some ⟨c, d, ob, ar⟩ := by
 simp [s_i_functor, s_i_Category_copy, s_i_clone, hc, hd, ho, ha]
theorem e_Fcopy {f : Fn} (h : f.Is) : s_i_Functor_copy f = some f := by
 simp only [s_i_Functor_copy, e_functor h.s.ok h.t.ok (show f.ob.length ≤ 1048576 by have := h.lob; omega) (show f.ar.length ≤ 1048576 by have := h.lar; omega), Option.bind_some]
end Go.Vc.T

set_option maxRecDepth 100000
set_option linter.unusedSimpArgs false
set_option linter.unusedVariables false
namespace Go.Vc.T
open Go Go.Vc Go.Proofs
noncomputable def s_i_areFunctors (list_ : List Fn) : Option Bool :=
 (loopF (σ := Int) (ε := Unit ⊕ Bool) (fun s7 =>
   if s7 < (list_.length : Int) then
     ass (0 ≤ s7 ∧ s7 < (list_.length : Int)) <|
     (s_i_Functor_isFunctor (gx list_ s7)).bind fun v10 =>
     if ¬ (v10 = true) then
       some (Ctl.ret (Sum.inr false))
     else
       ass (B64 (s7 + 1)) <|
       some (Ctl.next (s7 + 1))
   else
     some (Ctl.ret (Sum.inl ()))) fuel 0).bind fun e1 =>
 match e1 with
 | .inl b1 =>
   some true
 | .inr p1 =>
   some p1
set_option maxHeartbeats 4000000 in
theorem w_i_areFunctors (list_ : List Fn) (r : Bool) (h : s_i_areFunctors list_ = some r) : Contract Try.prog 172 [.lst true 1 (Es eP_Fn list_)] (.val (.bool r)) := by
 refine contract_introG (rvs := [.tmp 2]) (rs := [.val (.bool r)]) Try.func172 rfl rfl rfl rfl (by simp [Try.f172]) fun F hN hP => ?_
 unfold s_i_areFunctors at h
 refine w_seq ?_
 refine w_run mo (by rw [hN]; decide) fun K hK => ?_
 simp [-guardE_b, -Is_at, -Is_at', -Ls_at, -Ls_at', eL, eI, allInts, eP_Fn, Fn.cells]
 repeat (with_reducible refine And.intro ?_ ?_; · first | assumption | omega | (simp; done) | (simp; omega) | simp_all)
 refine hK _ ?_
 clear hK K
 refine tn ?_
 refine w_weak (st' := ⟨[(0, .lst true 1 (Es eP_Fn list_))], [], 0⟩) (Wk.rel [] (by simp) (by simp) (by rw [hP]; simp) (by simp) (by simp) (by simp [Fn.cells, Is_append, Is_one, Ls_append, Ls_one, Bs_append, Bs_one, Es_append, Es_one, Es_set', eB, eI, eL]) (by simp [hhOk, back, Fn.cells, Is_append, Is_one, Ls_append, Ls_one, Bs_append, Bs_one, Es_append, Es_one, Es_set', eB, eI, eL])) ?_
 refine w_seq ?_
 refine w_seq ?_
 refine w_run mo (by rw [hN]; decide) fun K hK => ?_
 simp [-guardE_b, -Is_at, -Is_at', -Ls_at, -Ls_at', eL, eI, allInts, eP_Fn, Fn.cells]
 repeat (with_reducible refine And.intro ?_ ?_; · first | assumption | omega | (simp; done) | (simp; omega) | simp_all)
 refine hK _ ?_
 clear hK K
 refine tn ?_
 refine w_weak (st' := ⟨[(5, .lst true 1 (Es eP_Fn list_)), (6, .val (.int .i64 (list_.length : Int))), (7, .val (.int .i64 0))], [], 0⟩) (Wk.rel [] (by simp) (by simp) (by rw [hP]; simp) (by simp) (by simp) (by simp [Fn.cells, Is_append, Is_one, Ls_append, Ls_one, Bs_append, Bs_one, Es_append, Es_one, Es_set', eB, eI, eL]) (by simp [hhOk, back, Fn.cells, Is_append, Is_one, Ls_append, Ls_one, Bs_append, Bs_one, Es_append, Es_one, Es_set', eB, eI, eL])) ?_
 replace h := bind_some h
 obtain ⟨e1, h, h1⟩ := h
 refine w_joinT (fun b1 : Unit => ⟨[], [], 0⟩) (fun b1 => Sum.inl b1 = e1) ?_ ?_
 · refine w_block ?_
   refine w_loopF h (fun s7 : Int => ⟨[(5, .lst true 1 (Es eP_Fn list_)), (6, .val (.int .i64 (list_.length : Int))), (7, .val (.int .i64 s7))], [], 0⟩) (Wk.rel [] (by simp) (by simp) (by rw [hP]; simp) (by simp) (by simp) (by simp [Fn.cells, Is_append, Is_one, Ls_append, Ls_one, Bs_append, Bs_one, Es_append, Es_one, Es_set', eB, eI, eL]) (by simp [hhOk, back, Fn.cells, Is_append, Is_one, Ls_append, Ls_one, Bs_append, Bs_one, Es_append, Es_one, Es_set', eB, eI, eL])) ?_
   clear h
   intro k7 s7 c7 h hk7
   refine w_seq ?_
   refine w_run mo (by rw [hN]; decide) fun K hK => ?_
   simp [-guardE_b, -Is_at, -Is_at', -Ls_at, -Ls_at', eL, eI, allInts, eP_Fn, Fn.cells]
   repeat (with_reducible refine And.intro ?_ ?_; · first | assumption | omega | (simp; done) | (simp; omega) | simp_all)
   refine hK _ ?_
   clear hK K
   refine tn ?_
   refine w_weak (st' := ⟨[(5, .lst true 1 (Es eP_Fn list_)), (6, .val (.int .i64 (list_.length : Int))), (7, .val (.int .i64 s7)), (8, .val (.bool (decide (s7 < (list_.length : Int)))))], [], 0⟩) (Wk.rel [] (by simp) (by simp) (by rw [hP]; simp) (by simp) (by simp) (by simp [Fn.cells, Is_append, Is_one, Ls_append, Ls_one, Bs_append, Bs_one, Es_append, Es_one, Es_set', eB, eI, eL]) (by simp [hhOk, back, Fn.cells, Is_append, Is_one, Ls_append, Ls_one, Bs_append, Bs_one, Es_append, Es_one, Es_set', eB, eI, eL])) ?_
   refine w_seq ?_
   refine w_cond rfl (fun g => ?_) fun g => ?_
   · have g8 : s7 < (list_.length : Int) := by first | simpa using g | (simp at g; exact g) | (simp at g; omega)
     clear g
     replace h := if_l g8 h
     refine w_skip ?_
     refine tn ?_
     refine w_seq ?_
     refine w_block ?_
     refine w_seq ?_
     refine w_run mo (by rw [hN]; decide) fun K hK => ?_
     replace h := ass_some h
     obtain ⟨a9, h⟩ := h
     simp [-guardE_b, -Is_at, -Is_at', -Ls_at, -Ls_at', eL, eI, allInts, eP_Fn, Fn.cells, at_E (c := eP_Fn) a9]
     repeat (with_reducible refine And.intro ?_ ?_; · first | assumption | omega | (simp; done) | (simp; omega) | simp_all)
     refine hK _ ?_
     clear hK K
     refine tn ?_
     refine w_weak (st' := ⟨[(4, .rptr [.val (.int .i64 ((gx list_ s7).s.n)), .lst true 1 (Is ((gx list_ s7).s.fr)), .lst true 1 (Is ((gx list_ s7).s.to)), .lst true 1 (Is ((gx list_ s7).s.id)), .lst true 1 (Ls ((gx list_ s7).s.cs)), .val (.int .i64 ((gx list_ s7).t.n)), .lst true 1 (Is ((gx list_ s7).t.fr)), .lst true 1 (Is ((gx list_ s7).t.to)), .lst true 1 (Is ((gx list_ s7).t.id)), .lst true 1 (Ls ((gx list_ s7).t.cs)), .lst true 1 (Is ((gx list_ s7).ob)), .lst true 1 (Is ((gx list_ s7).ar))]), (5, .lst true 1 (Es eP_Fn list_)), (6, .val (.int .i64 (list_.length : Int))), (7, .val (.int .i64 s7))], [], 0⟩) (Wk.rel [] (by simp) (by simp) (by rw [hP]; simp) (by simp) (by simp) (by simp [Fn.cells, Is_append, Is_one, Ls_append, Ls_one, Bs_append, Bs_one, Es_append, Es_one, Es_set', eB, eI, eL]) (by simp [hhOk, back, Fn.cells, Is_append, Is_one, Ls_append, Ls_one, Bs_append, Bs_one, Es_append, Es_one, Es_set', eB, eI, eL])) ?_
     refine w_seq ?_
     refine w_run mo (by rw [hN]; decide) fun K hK => ?_
     simp [-guardE_b, -Is_at, -Is_at', -Ls_at, -Ls_at', eL, eI, allInts, eP_Fn, Fn.cells]
     repeat (with_reducible refine And.intro ?_ ?_; · first | assumption | omega | (simp; done) | (simp; omega) | simp_all)
     replace h := bind_some h
     obtain ⟨v10, hv10, h⟩ := h
     refine callA_intro (w_i_Functor_isFunctor _ v10 hv10) (.cons (.preT (by simp [Fn.cells])) .nil) ?_
     simp [-guardE_b, -Is_at, -Is_at', -Ls_at, -Ls_at', unk, unA, unE, unT, unC, flat, eL, eI, allInts, eP_Fn, Fn.cells]
     repeat (with_reducible refine And.intro ?_ ?_; · first | assumption | omega | (simp; done) | (simp; omega) | simp_all)
     refine hK _ ?_
     clear hK K
     refine tn ?_
     refine w_weak (st' := ⟨[(5, .lst true 1 (Es eP_Fn list_)), (6, .val (.int .i64 (list_.length : Int))), (7, .val (.int .i64 s7)), (13, .val (.bool (!v10)))], [], 0⟩) (Wk.rel [] (by simp) (by simp) (by rw [hP]; simp) (by simp) (by simp) (by simp [Fn.cells, Is_append, Is_one, Ls_append, Ls_one, Bs_append, Bs_one, Es_append, Es_one, Es_set', eB, eI, eL]) (by simp [hhOk, back, Fn.cells, Is_append, Is_one, Ls_append, Ls_one, Bs_append, Bs_one, Es_append, Es_one, Es_set', eB, eI, eL])) ?_
     refine w_cond rfl (fun g => ?_) fun g => ?_
     · have g11 : ¬ (v10 = true) := by first | simpa using g | (simp at g; exact g) | (simp at g; omega)
       clear g
       replace h := if_l g11 h
       refine w_seq ?_
       refine w_run mo (by rw [hN]; decide) fun K hK => ?_
       simp [-guardE_b, -Is_at, -Is_at', -Ls_at, -Ls_at', eL, eI, allInts, eP_Fn, Fn.cells]
       repeat (with_reducible refine And.intro ?_ ?_; · first | assumption | omega | (simp; done) | (simp; omega) | simp_all)
       refine hK _ ?_
       clear hK K
       refine tn ?_
       refine w_weak (st' := ⟨[(2, .val (.bool false))], [], 0⟩) (Wk.rel [] (by simp) (by simp) (by rw [hP]; simp) (by simp) (by simp) (by simp [Fn.cells, Is_append, Is_one, Ls_append, Ls_one, Bs_append, Bs_one, Es_append, Es_one, Es_set', eB, eI, eL]) (by simp [hhOk, back, Fn.cells, Is_append, Is_one, Ls_append, Ls_one, Bs_append, Bs_one, Es_append, Es_one, Es_set', eB, eI, eL])) ?_
       refine w_ret ?_
       refine br ?_
       refine tr ?_
       refine lr ?_
       refine br ?_
       refine tr ?_
       cases h
       have q : _ = e1 := hk7
       have h := h1
       rw [← q] at h
       clear q
       try dsimp only at h
       have hr := Option.some.inj h
       rw [← hr]
       refine ⟨_, (.tmp .nil), ?_⟩
       refine ⟨(.one rfl rfl .nil), [.val (.bool false)], [], by simp [Fn.cells, Is_append, Is_one, Ls_append, Ls_one, Bs_append, Bs_one, Es_append, Es_one, Es_set', eB, eI, eL], by simp, (UpL.refl _)⟩
     have g11 : ¬ (¬ (v10 = true)) := by first | simpa using g | (simp at g; exact g) | (simp at g; omega)
     clear g
     replace h := if_r g11 h
     refine w_skip ?_
     refine bn ?_
     refine tn ?_
     refine w_run mo (by rw [hN]; decide) fun K hK => ?_
     replace h := ass_some h
     obtain ⟨a12, h⟩ := h
     simp [-guardE_b, -Is_at, -Is_at', -Ls_at, -Ls_at', eL, eI, allInts, eP_Fn, Fn.cells, wrap_id a12]
     repeat (with_reducible refine And.intro ?_ ?_; · first | assumption | omega | (simp; done) | (simp; omega) | simp_all)
     refine hK _ ?_
     clear hK K
     cases h
     exact rn (s' := s7 + 1) hk7 (Wk.rel [] (by simp) (by simp) (by rw [hP]; simp) (by simp) (by simp) (by simp [Fn.cells, Is_append, Is_one, Ls_append, Ls_one, Bs_append, Bs_one, Es_append, Es_one, Es_set', eB, eI, eL]) (by simp [hhOk, back, Fn.cells, Is_append, Is_one, Ls_append, Ls_one, Bs_append, Bs_one, Es_append, Es_one, Es_set', eB, eI, eL]))
   have g8 : ¬ (s7 < (list_.length : Int)) := by first | simpa using g | (simp at g; exact g) | (simp at g; omega)
   clear g
   replace h := if_r g8 h
   refine w_exit ?_
   refine tx ?_
   refine lx ?_
   refine bh ?_
   cases h
   exact jn (b := ()) hk7 (Wk.rel [] (by simp) (by simp) (by rw [hP]; simp) (by simp) (by simp) (by simp [Fn.cells, Is_append, Is_one, Ls_append, Ls_one, Bs_append, Bs_one, Es_append, Es_one, Es_set', eB, eI, eL]) (by simp [hhOk, back, Fn.cells, Is_append, Is_one, Ls_append, Ls_one, Bs_append, Bs_one, Es_append, Es_one, Es_set', eB, eI, eL]))
 intro b1 hb1
 have h := h1
 rw [← hb1] at h
 clear h1
 try dsimp only at h
 refine w_seq ?_
 refine w_run mo (by rw [hN]; decide) fun K hK => ?_
 simp [-guardE_b, -Is_at, -Is_at', -Ls_at, -Ls_at', eL, eI, allInts, eP_Fn, Fn.cells]
 repeat (with_reducible refine And.intro ?_ ?_; · first | assumption | omega | (simp; done) | (simp; omega) | simp_all)
 refine hK _ ?_
 clear hK K
 refine tn ?_
 refine w_weak (st' := ⟨[(2, .val (.bool true))], [], 0⟩) (Wk.rel [] (by simp) (by simp) (by rw [hP]; simp) (by simp) (by simp) (by simp [Fn.cells, Is_append, Is_one, Ls_append, Ls_one, Bs_append, Bs_one, Es_append, Es_one, Es_set', eB, eI, eL]) (by simp [hhOk, back, Fn.cells, Is_append, Is_one, Ls_append, Ls_one, Bs_append, Bs_one, Es_append, Es_one, Es_set', eB, eI, eL])) ?_
 refine w_ret ?_
 have hr := Option.some.inj h
 rw [← hr]
 refine ⟨_, (.tmp .nil), ?_⟩
 refine ⟨(.one rfl rfl .nil), [.val (.bool true)], [], by simp [Fn.cells, Is_append, Is_one, Ls_append, Ls_one, Bs_append, Bs_one, Es_append, Es_one, Es_set', eB, eI, eL], by simp, (UpL.refl _)⟩
end Go.Vc.T

set_option maxRecDepth 100000
set_option linter.unusedSimpArgs false
set_option linter.unusedVariables false
namespace Go.Vc.T
open Go Go.Vc Go.Proofs
noncomputable def s_i_Transformation_isShape (t_ : Tra) : Option Bool :=
 (
   (s_i_areFunctors [t_.s, t_.t]).bind fun v2 =>
   if ¬ (v2 = true) then
     some true
   else
     (s_i_parallelFunctors t_.s t_.t).bind fun v4 =>
     if ¬ (v4 = true) then
       some true
     else
       if ¬ ((t_.p.length : Int) = t_.s.s.n) then
         some true
       else
         (s_i_Category_arrows t_.s.t).bind fun v7 =>
         (s_i_within t_.p v7).bind fun v8 =>
         some (!v8) : Option (Bool)).bind fun b1 =>
 if b1 = true then
   some false
 else
   (loopF (σ := Int) (ε := Unit ⊕ Bool) (fun s18 =>
     if s18 < (t_.p.length : Int) then
       ass (0 ≤ s18 ∧ s18 < (t_.p.length : Int)) <|
       (s_i_Category_ends t_.s.t (ix t_.p s18)).bind fun v21 =>
       ass (0 ≤ s18 ∧ s18 < (t_.s.ob.length : Int)) <|
       ass (0 ≤ s18 ∧ s18 < (t_.t.ob.length : Int)) <|
       if ¬ (v21.a = ix t_.s.ob s18 ∧ v21.b = ix t_.t.ob s18) then
         some (Ctl.ret (Sum.inr false))
       else
         ass (B64 (s18 + 1)) <|
         some (Ctl.next (s18 + 1))
     else
       some (Ctl.ret (Sum.inl ()))) fuel 0).bind fun e10 =>
   match e10 with
   | .inl b10 =>
     some true
   | .inr p10 =>
     some p10
set_option maxHeartbeats 4000000 in
theorem w_i_Transformation_isShape (t_ : Tra) (r : Bool) (h : s_i_Transformation_isShape t_ = some r) : Contract Try.prog 184 [.rptr (t_.cells true)] (.val (.bool r)) := by
 refine contract_introG (rvs := [.tmp 2]) (rs := [.val (.bool r)]) Try.func184 rfl rfl rfl rfl (by simp [Try.f184]) fun F hN hP => ?_
 unfold s_i_Transformation_isShape at h
 refine w_seq ?_
 refine w_run mo (by rw [hN]; decide) fun K hK => ?_
 simp [-guardE_b, -Is_at, -Is_at', -Ls_at, -Ls_at', eL, eI, allInts, eP_Cat, eP_Ends, eP_Fn, eP_Tra, Cat.cells, Ends.cells, Fn.cells, Tra.cells]
 repeat (with_reducible refine And.intro ?_ ?_; · first | assumption | omega | (simp; done) | (simp; omega) | simp_all)
 refine hK _ ?_
 clear hK K
 refine tn ?_
 refine w_weak (st' := ⟨[(0, .rptr [.val (.int .i64 t_.s.s.n), .lst true 1 (Is t_.s.s.fr), .lst true 1 (Is t_.s.s.to), .lst true 1 (Is t_.s.s.id), .lst true 1 (Ls t_.s.s.cs), .val (.int .i64 t_.s.t.n), .lst true 1 (Is t_.s.t.fr), .lst true 1 (Is t_.s.t.to), .lst true 1 (Is t_.s.t.id), .lst true 1 (Ls t_.s.t.cs), .lst true 1 (Is t_.s.ob), .lst true 1 (Is t_.s.ar), .val (.int .i64 t_.t.s.n), .lst true 1 (Is t_.t.s.fr), .lst true 1 (Is t_.t.s.to), .lst true 1 (Is t_.t.s.id), .lst true 1 (Ls t_.t.s.cs), .val (.int .i64 t_.t.t.n), .lst true 1 (Is t_.t.t.fr), .lst true 1 (Is t_.t.t.to), .lst true 1 (Is t_.t.t.id), .lst true 1 (Ls t_.t.t.cs), .lst true 1 (Is t_.t.ob), .lst true 1 (Is t_.t.ar), .lst true 1 (Is t_.p)])], [], 0⟩) (Wk.rel [] (by simp) (by simp) (by rw [hP]; simp) (by simp) (by simp) (by simp [Cat.cells, Ends.cells, Fn.cells, Tra.cells, Is_append, Is_one, Ls_append, Ls_one, Bs_append, Bs_one, Es_append, Es_one, Es_set', eB, eI, eL]) (by simp [hhOk, back, Cat.cells, Ends.cells, Fn.cells, Tra.cells, Is_append, Is_one, Ls_append, Ls_one, Bs_append, Bs_one, Es_append, Es_one, Es_set', eB, eI, eL])) ?_
 refine w_seq ?_
 refine w_run mo (by rw [hN]; decide) fun K hK => ?_
 simp [-guardE_b, -Is_at, -Is_at', -Ls_at, -Ls_at', eL, eI, allInts, eP_Cat, eP_Ends, eP_Fn, eP_Tra, Cat.cells, Ends.cells, Fn.cells, Tra.cells]
 repeat (with_reducible refine And.intro ?_ ?_; · first | assumption | omega | (simp; done) | (simp; omega) | simp_all)
 refine hK _ ?_
 clear hK K
 refine tn ?_
 refine w_weak (st' := ⟨[(0, .rptr [.val (.int .i64 t_.s.s.n), .lst true 1 (Is t_.s.s.fr), .lst true 1 (Is t_.s.s.to), .lst true 1 (Is t_.s.s.id), .lst true 1 (Ls t_.s.s.cs), .val (.int .i64 t_.s.t.n), .lst true 1 (Is t_.s.t.fr), .lst true 1 (Is t_.s.t.to), .lst true 1 (Is t_.s.t.id), .lst true 1 (Ls t_.s.t.cs), .lst true 1 (Is t_.s.ob), .lst true 1 (Is t_.s.ar), .val (.int .i64 t_.t.s.n), .lst true 1 (Is t_.t.s.fr), .lst true 1 (Is t_.t.s.to), .lst true 1 (Is t_.t.s.id), .lst true 1 (Ls t_.t.s.cs), .val (.int .i64 t_.t.t.n), .lst true 1 (Is t_.t.t.fr), .lst true 1 (Is t_.t.t.to), .lst true 1 (Is t_.t.t.id), .lst true 1 (Ls t_.t.t.cs), .lst true 1 (Is t_.t.ob), .lst true 1 (Is t_.t.ar), .lst true 1 (Is t_.p)]), (3, .rptr [.val (.int .i64 t_.s.s.n), .lst true 1 (Is t_.s.s.fr), .lst true 1 (Is t_.s.s.to), .lst true 1 (Is t_.s.s.id), .lst true 1 (Ls t_.s.s.cs), .val (.int .i64 t_.s.t.n), .lst true 1 (Is t_.s.t.fr), .lst true 1 (Is t_.s.t.to), .lst true 1 (Is t_.s.t.id), .lst true 1 (Ls t_.s.t.cs), .lst true 1 (Is t_.s.ob), .lst true 1 (Is t_.s.ar), .val (.int .i64 t_.t.s.n), .lst true 1 (Is t_.t.s.fr), .lst true 1 (Is t_.t.s.to), .lst true 1 (Is t_.t.s.id), .lst true 1 (Ls t_.t.s.cs), .val (.int .i64 t_.t.t.n), .lst true 1 (Is t_.t.t.fr), .lst true 1 (Is t_.t.t.to), .lst true 1 (Is t_.t.t.id), .lst true 1 (Ls t_.t.t.cs), .lst true 1 (Is t_.t.ob), .lst true 1 (Is t_.t.ar), .lst true 1 (Is t_.p)]), (4, .rptr [.val (.int .i64 t_.t.s.n), .lst true 1 (Is t_.t.s.fr), .lst true 1 (Is t_.t.s.to), .lst true 1 (Is t_.t.s.id), .lst true 1 (Ls t_.t.s.cs), .val (.int .i64 t_.t.t.n), .lst true 1 (Is t_.t.t.fr), .lst true 1 (Is t_.t.t.to), .lst true 1 (Is t_.t.t.id), .lst true 1 (Ls t_.t.t.cs), .lst true 1 (Is t_.t.ob), .lst true 1 (Is t_.t.ar), .lst true 1 (Is t_.p)])], [], 0⟩) (Wk.rel [] (by simp) (by simp) (by rw [hP]; simp) (by simp) (by simp) (by simp [Cat.cells, Ends.cells, Fn.cells, Tra.cells, Is_append, Is_one, Ls_append, Ls_one, Bs_append, Bs_one, Es_append, Es_one, Es_set', eB, eI, eL]) (by simp [hhOk, back, Cat.cells, Ends.cells, Fn.cells, Tra.cells, Is_append, Is_one, Ls_append, Ls_one, Bs_append, Bs_one, Es_append, Es_one, Es_set', eB, eI, eL])) ?_
 refine w_seq ?_
 refine w_seq ?_
 replace h := bind_some h
 obtain ⟨e1, h, h1⟩ := h
 refine w_joinT (fun b1 : Bool => ⟨[(0, .rptr [.val (.int .i64 t_.s.s.n), .lst true 1 (Is t_.s.s.fr), .lst true 1 (Is t_.s.s.to), .lst true 1 (Is t_.s.s.id), .lst true 1 (Ls t_.s.s.cs), .val (.int .i64 t_.s.t.n), .lst true 1 (Is t_.s.t.fr), .lst true 1 (Is t_.s.t.to), .lst true 1 (Is t_.s.t.id), .lst true 1 (Ls t_.s.t.cs), .lst true 1 (Is t_.s.ob), .lst true 1 (Is t_.s.ar), .val (.int .i64 t_.t.s.n), .lst true 1 (Is t_.t.s.fr), .lst true 1 (Is t_.t.s.to), .lst true 1 (Is t_.t.s.id), .lst true 1 (Ls t_.t.s.cs), .val (.int .i64 t_.t.t.n), .lst true 1 (Is t_.t.t.fr), .lst true 1 (Is t_.t.t.to), .lst true 1 (Is t_.t.t.id), .lst true 1 (Ls t_.t.t.cs), .lst true 1 (Is t_.t.ob), .lst true 1 (Is t_.t.ar), .lst true 1 (Is t_.p)]), (3, .rptr [.val (.int .i64 t_.s.s.n), .lst true 1 (Is t_.s.s.fr), .lst true 1 (Is t_.s.s.to), .lst true 1 (Is t_.s.s.id), .lst true 1 (Ls t_.s.s.cs), .val (.int .i64 t_.s.t.n), .lst true 1 (Is t_.s.t.fr), .lst true 1 (Is t_.s.t.to), .lst true 1 (Is t_.s.t.id), .lst true 1 (Ls t_.s.t.cs), .lst true 1 (Is t_.s.ob), .lst true 1 (Is t_.s.ar), .val (.int .i64 t_.t.s.n), .lst true 1 (Is t_.t.s.fr), .lst true 1 (Is t_.t.s.to), .lst true 1 (Is t_.t.s.id), .lst true 1 (Ls t_.t.s.cs), .val (.int .i64 t_.t.t.n), .lst true 1 (Is t_.t.t.fr), .lst true 1 (Is t_.t.t.to), .lst true 1 (Is t_.t.t.id), .lst true 1 (Ls t_.t.t.cs), .lst true 1 (Is t_.t.ob), .lst true 1 (Is t_.t.ar), .lst true 1 (Is t_.p)]), (4, .rptr [.val (.int .i64 t_.t.s.n), .lst true 1 (Is t_.t.s.fr), .lst true 1 (Is t_.t.s.to), .lst true 1 (Is t_.t.s.id), .lst true 1 (Ls t_.t.s.cs), .val (.int .i64 t_.t.t.n), .lst true 1 (Is t_.t.t.fr), .lst true 1 (Is t_.t.t.to), .lst true 1 (Is t_.t.t.id), .lst true 1 (Ls t_.t.t.cs), .lst true 1 (Is t_.t.ob), .lst true 1 (Is t_.t.ar), .lst true 1 (Is t_.p)]), (48, .val (.bool b1))], [], 0⟩) (fun b1 => b1 = e1) ?_ ?_
 · refine w_run mo (by rw [hN]; decide) fun K hK => ?_
   simp [-guardE_b, -Is_at, -Is_at', -Ls_at, -Ls_at', eL, eI, allInts, eP_Cat, eP_Ends, eP_Fn, eP_Tra, Cat.cells, Ends.cells, Fn.cells, Tra.cells]
   repeat (with_reducible refine And.intro ?_ ?_; · first | assumption | omega | (simp; done) | (simp; omega) | simp_all)
   replace h := bind_some h
   obtain ⟨v2, hv2, h⟩ := h
   refine callA_intro (w_i_areFunctors _ v2 hv2) (.cons (.lits (es := _) rfl (.cons rfl (.cons (.preT (by simp [Fn.cells, Tra.cells])) .nil) (.cons rfl (.cons (.preT (by simp [Fn.cells, Tra.cells])) .nil) .nil)) rfl) .nil) ?_
   simp [-guardE_b, -Is_at, -Is_at', -Ls_at, -Ls_at', unk, unA, unE, unT, unC, flat, eL, eI, allInts, eP_Cat, eP_Ends, eP_Fn, eP_Tra, Cat.cells, Ends.cells, Fn.cells, Tra.cells]
   repeat (with_reducible refine And.intro ?_ ?_; · first | assumption | omega | (simp; done) | (simp; omega) | simp_all)
   refine guard_intro (fun g => ?_) (fun g => ?_)
   · have g3 : ¬ (¬ (v2 = true)) := by first | simpa using g | (simp at g; exact g) | (simp at g; omega)
     clear g
     replace h := if_r g3 h
     simp [-guardE_b, -Is_at, -Is_at', -Ls_at, -Ls_at', eL, eI, allInts, eP_Cat, eP_Ends, eP_Fn, eP_Tra, Cat.cells, Ends.cells, Fn.cells, Tra.cells]
     repeat (with_reducible refine And.intro ?_ ?_; · first | assumption | omega | (simp; done) | (simp; omega) | simp_all)
     replace h := bind_some h
     obtain ⟨v4, hv4, h⟩ := h
     refine callA_intro (w_i_parallelFunctors _ _ v4 hv4) (.cons (.preT (by simp [Fn.cells, Tra.cells])) (.cons (.preT (by simp [Fn.cells, Tra.cells])) .nil)) ?_
     simp [-guardE_b, -Is_at, -Is_at', -Ls_at, -Ls_at', unk, unA, unE, unT, unC, flat, eL, eI, allInts, eP_Cat, eP_Ends, eP_Fn, eP_Tra, Cat.cells, Ends.cells, Fn.cells, Tra.cells]
     repeat (with_reducible refine And.intro ?_ ?_; · first | assumption | omega | (simp; done) | (simp; omega) | simp_all)
     refine guard_intro (fun g => ?_) (fun g => ?_)
     · have g5 : ¬ (¬ (v4 = true)) := by first | simpa using g | (simp at g; exact g) | (simp at g; omega)
       clear g
       replace h := if_r g5 h
       simp [-guardE_b, -Is_at, -Is_at', -Ls_at, -Ls_at', eL, eI, allInts, eP_Cat, eP_Ends, eP_Fn, eP_Tra, Cat.cells, Ends.cells, Fn.cells, Tra.cells]
       repeat (with_reducible refine And.intro ?_ ?_; · first | assumption | omega | (simp; done) | (simp; omega) | simp_all)
       refine guard_intro (fun g => ?_) (fun g => ?_)
       · have g6 : ¬ (¬ ((t_.p.length : Int) = t_.s.s.n)) := by first | simpa using g | (simp at g; exact g) | (simp at g; omega)
         clear g
         replace h := if_r g6 h
         simp [-guardE_b, -Is_at, -Is_at', -Ls_at, -Ls_at', eL, eI, allInts, eP_Cat, eP_Ends, eP_Fn, eP_Tra, Cat.cells, Ends.cells, Fn.cells, Tra.cells]
         repeat (with_reducible refine And.intro ?_ ?_; · first | assumption | omega | (simp; done) | (simp; omega) | simp_all)
         replace h := bind_some h
         obtain ⟨v7, hv7, h⟩ := h
         refine callA_intro (w_i_Category_arrows _ v7 hv7) (.cons (.preT (by simp [Cat.cells, Fn.cells, Tra.cells])) .nil) ?_
         simp [-guardE_b, -Is_at, -Is_at', -Ls_at, -Ls_at', unk, unA, unE, unT, unC, flat, eL, eI, allInts, eP_Cat, eP_Ends, eP_Fn, eP_Tra, Cat.cells, Ends.cells, Fn.cells, Tra.cells]
         repeat (with_reducible refine And.intro ?_ ?_; · first | assumption | omega | (simp; done) | (simp; omega) | simp_all)
         replace h := bind_some h
         obtain ⟨v8, hv8, h⟩ := h
         refine callA_intro (w_i_within _ _ v8 hv8) (.cons .lst (.cons .val .nil)) ?_
         simp [-guardE_b, -Is_at, -Is_at', -Ls_at, -Ls_at', unk, unA, unE, unT, unC, flat, eL, eI, allInts, eP_Cat, eP_Ends, eP_Fn, eP_Tra, Cat.cells, Ends.cells, Fn.cells, Tra.cells]
         repeat (with_reducible refine And.intro ?_ ?_; · first | assumption | omega | (simp; done) | (simp; omega) | simp_all)
         refine hK _ ?_
         exact jn (b := !v8) (Option.some.inj h) (Wk.rel [] (by simp) (by simp) (by rw [hP]; simp) (by simp) (by simp) (by simp [Cat.cells, Ends.cells, Fn.cells, Tra.cells, Is_append, Is_one, Ls_append, Ls_one, Bs_append, Bs_one, Es_append, Es_one, Es_set', eB, eI, eL]) (by simp [hhOk, back, Cat.cells, Ends.cells, Fn.cells, Tra.cells, Is_append, Is_one, Ls_append, Ls_one, Bs_append, Bs_one, Es_append, Es_one, Es_set', eB, eI, eL]))
       have g6 : ¬ ((t_.p.length : Int) = t_.s.s.n) := by first | simpa using g | (simp at g; exact g) | (simp at g; omega)
       clear g
       replace h := if_l g6 h
       simp [-guardE_b, -Is_at, -Is_at', -Ls_at, -Ls_at', eL, eI, allInts, eP_Cat, eP_Ends, eP_Fn, eP_Tra, Cat.cells, Ends.cells, Fn.cells, Tra.cells]
       repeat (with_reducible refine And.intro ?_ ?_; · first | assumption | omega | (simp; done) | (simp; omega) | simp_all)
       refine hK _ ?_
       exact jn (b := true) (Option.some.inj h) (Wk.rel [] (by simp) (by simp) (by rw [hP]; simp) (by simp) (by simp) (by simp [Cat.cells, Ends.cells, Fn.cells, Tra.cells, Is_append, Is_one, Ls_append, Ls_one, Bs_append, Bs_one, Es_append, Es_one, Es_set', eB, eI, eL]) (by simp [hhOk, back, Cat.cells, Ends.cells, Fn.cells, Tra.cells, Is_append, Is_one, Ls_append, Ls_one, Bs_append, Bs_one, Es_append, Es_one, Es_set', eB, eI, eL]))
     have g5 : ¬ (v4 = true) := by first | simpa using g | (simp at g; exact g) | (simp at g; omega)
     clear g
     replace h := if_l g5 h
     simp [-guardE_b, -Is_at, -Is_at', -Ls_at, -Ls_at', eL, eI, allInts, eP_Cat, eP_Ends, eP_Fn, eP_Tra, Cat.cells, Ends.cells, Fn.cells, Tra.cells]
     repeat (with_reducible refine And.intro ?_ ?_; · first | assumption | omega | (simp; done) | (simp; omega) | simp_all)
     refine hK _ ?_
     exact jn (b := true) (Option.some.inj h) (Wk.rel [] (by simp) (by simp) (by rw [hP]; simp) (by simp) (by simp) (by simp [Cat.cells, Ends.cells, Fn.cells, Tra.cells, Is_append, Is_one, Ls_append, Ls_one, Bs_append, Bs_one, Es_append, Es_one, Es_set', eB, eI, eL]) (by simp [hhOk, back, Cat.cells, Ends.cells, Fn.cells, Tra.cells, Is_append, Is_one, Ls_append, Ls_one, Bs_append, Bs_one, Es_append, Es_one, Es_set', eB, eI, eL]))
   have g3 : ¬ (v2 = true) := by first | simpa using g | (simp at g; exact g) | (simp at g; omega)
   clear g
   replace h := if_l g3 h
   simp [-guardE_b, -Is_at, -Is_at', -Ls_at, -Ls_at', eL, eI, allInts, eP_Cat, eP_Ends, eP_Fn, eP_Tra, Cat.cells, Ends.cells, Fn.cells, Tra.cells]
   repeat (with_reducible refine And.intro ?_ ?_; · first | assumption | omega | (simp; done) | (simp; omega) | simp_all)
   refine hK _ ?_
   exact jn (b := true) (Option.some.inj h) (Wk.rel [] (by simp) (by simp) (by rw [hP]; simp) (by simp) (by simp) (by simp [Cat.cells, Ends.cells, Fn.cells, Tra.cells, Is_append, Is_one, Ls_append, Ls_one, Bs_append, Bs_one, Es_append, Es_one, Es_set', eB, eI, eL]) (by simp [hhOk, back, Cat.cells, Ends.cells, Fn.cells, Tra.cells, Is_append, Is_one, Ls_append, Ls_one, Bs_append, Bs_one, Es_append, Es_one, Es_set', eB, eI, eL]))
 intro b1 hb1
 have h := h1
 rw [← hb1] at h
 clear h1
 try dsimp only at h
 refine w_cond rfl (fun g => ?_) fun g => ?_
 · have g9 : b1 = true := by first | simpa using g | (simp at g; exact g) | (simp at g; omega)
   clear g
   replace h := if_l g9 h
   refine w_seq ?_
   refine w_run mo (by rw [hN]; decide) fun K hK => ?_
   simp [-guardE_b, -Is_at, -Is_at', -Ls_at, -Ls_at', eL, eI, allInts, eP_Cat, eP_Ends, eP_Fn, eP_Tra, Cat.cells, Ends.cells, Fn.cells, Tra.cells]
   repeat (with_reducible refine And.intro ?_ ?_; · first | assumption | omega | (simp; done) | (simp; omega) | simp_all)
   refine hK _ ?_
   clear hK K
   refine tn ?_
   refine w_weak (st' := ⟨[(2, .val (.bool false))], [], 0⟩) (Wk.rel [] (by simp) (by simp) (by rw [hP]; simp) (by simp) (by simp) (by simp [Cat.cells, Ends.cells, Fn.cells, Tra.cells, Is_append, Is_one, Ls_append, Ls_one, Bs_append, Bs_one, Es_append, Es_one, Es_set', eB, eI, eL]) (by simp [hhOk, back, Cat.cells, Ends.cells, Fn.cells, Tra.cells, Is_append, Is_one, Ls_append, Ls_one, Bs_append, Bs_one, Es_append, Es_one, Es_set', eB, eI, eL])) ?_
   refine w_ret ?_
   refine tr ?_
   have hr := Option.some.inj h
   rw [← hr]
   refine ⟨_, (.tmp .nil), ?_⟩
   refine ⟨(.one rfl rfl .nil), [.val (.bool false)], [], by simp [Cat.cells, Ends.cells, Fn.cells, Tra.cells, Is_append, Is_one, Ls_append, Ls_one, Bs_append, Bs_one, Es_append, Es_one, Es_set', eB, eI, eL], by simp, (UpL.refl _)⟩
 have g9 : ¬ (b1 = true) := by first | simpa using g | (simp at g; exact g) | (simp at g; omega)
 clear g
 replace h := if_r g9 h
 refine w_skip ?_
 refine tn ?_
 refine w_seq ?_
 refine w_seq ?_
 refine w_run mo (by rw [hN]; decide) fun K hK => ?_
 simp [-guardE_b, -Is_at, -Is_at', -Ls_at, -Ls_at', eL, eI, allInts, eP_Cat, eP_Ends, eP_Fn, eP_Tra, Cat.cells, Ends.cells, Fn.cells, Tra.cells]
 repeat (with_reducible refine And.intro ?_ ?_; · first | assumption | omega | (simp; done) | (simp; omega) | simp_all)
 refine hK _ ?_
 clear hK K
 refine tn ?_
 refine w_weak (st' := ⟨[(3, .rptr [.val (.int .i64 t_.s.s.n), .lst true 1 (Is t_.s.s.fr), .lst true 1 (Is t_.s.s.to), .lst true 1 (Is t_.s.s.id), .lst true 1 (Ls t_.s.s.cs), .val (.int .i64 t_.s.t.n), .lst true 1 (Is t_.s.t.fr), .lst true 1 (Is t_.s.t.to), .lst true 1 (Is t_.s.t.id), .lst true 1 (Ls t_.s.t.cs), .lst true 1 (Is t_.s.ob), .lst true 1 (Is t_.s.ar), .val (.int .i64 t_.t.s.n), .lst true 1 (Is t_.t.s.fr), .lst true 1 (Is t_.t.s.to), .lst true 1 (Is t_.t.s.id), .lst true 1 (Ls t_.t.s.cs), .val (.int .i64 t_.t.t.n), .lst true 1 (Is t_.t.t.fr), .lst true 1 (Is t_.t.t.to), .lst true 1 (Is t_.t.t.id), .lst true 1 (Ls t_.t.t.cs), .lst true 1 (Is t_.t.ob), .lst true 1 (Is t_.t.ar), .lst true 1 (Is t_.p)]), (4, .rptr [.val (.int .i64 t_.t.s.n), .lst true 1 (Is t_.t.s.fr), .lst true 1 (Is t_.t.s.to), .lst true 1 (Is t_.t.s.id), .lst true 1 (Ls t_.t.s.cs), .val (.int .i64 t_.t.t.n), .lst true 1 (Is t_.t.t.fr), .lst true 1 (Is t_.t.t.to), .lst true 1 (Is t_.t.t.id), .lst true 1 (Ls t_.t.t.cs), .lst true 1 (Is t_.t.ob), .lst true 1 (Is t_.t.ar), .lst true 1 (Is t_.p)]), (52, .lst true 1 (Is t_.p)), (53, .val (.int .i64 (t_.p.length : Int))), (54, .val (.int .i64 0))], [], 0⟩) (Wk.rel [] (by simp) (by simp) (by rw [hP]; simp) (by simp) (by simp) (by simp [Cat.cells, Ends.cells, Fn.cells, Tra.cells, Is_append, Is_one, Ls_append, Ls_one, Bs_append, Bs_one, Es_append, Es_one, Es_set', eB, eI, eL]) (by simp [hhOk, back, Cat.cells, Ends.cells, Fn.cells, Tra.cells, Is_append, Is_one, Ls_append, Ls_one, Bs_append, Bs_one, Es_append, Es_one, Es_set', eB, eI, eL])) ?_
 replace h := bind_some h
 obtain ⟨e10, h, h10⟩ := h
 refine w_joinT (fun b10 : Unit => ⟨[], [], 0⟩) (fun b10 => Sum.inl b10 = e10) ?_ ?_
 · refine w_block ?_
   refine w_loopF h (fun s18 : Int => ⟨[(3, .rptr [.val (.int .i64 t_.s.s.n), .lst true 1 (Is t_.s.s.fr), .lst true 1 (Is t_.s.s.to), .lst true 1 (Is t_.s.s.id), .lst true 1 (Ls t_.s.s.cs), .val (.int .i64 t_.s.t.n), .lst true 1 (Is t_.s.t.fr), .lst true 1 (Is t_.s.t.to), .lst true 1 (Is t_.s.t.id), .lst true 1 (Ls t_.s.t.cs), .lst true 1 (Is t_.s.ob), .lst true 1 (Is t_.s.ar), .val (.int .i64 t_.t.s.n), .lst true 1 (Is t_.t.s.fr), .lst true 1 (Is t_.t.s.to), .lst true 1 (Is t_.t.s.id), .lst true 1 (Ls t_.t.s.cs), .val (.int .i64 t_.t.t.n), .lst true 1 (Is t_.t.t.fr), .lst true 1 (Is t_.t.t.to), .lst true 1 (Is t_.t.t.id), .lst true 1 (Ls t_.t.t.cs), .lst true 1 (Is t_.t.ob), .lst true 1 (Is t_.t.ar), .lst true 1 (Is t_.p)]), (4, .rptr [.val (.int .i64 t_.t.s.n), .lst true 1 (Is t_.t.s.fr), .lst true 1 (Is t_.t.s.to), .lst true 1 (Is t_.t.s.id), .lst true 1 (Ls t_.t.s.cs), .val (.int .i64 t_.t.t.n), .lst true 1 (Is t_.t.t.fr), .lst true 1 (Is t_.t.t.to), .lst true 1 (Is t_.t.t.id), .lst true 1 (Ls t_.t.t.cs), .lst true 1 (Is t_.t.ob), .lst true 1 (Is t_.t.ar), .lst true 1 (Is t_.p)]), (52, .lst true 1 (Is t_.p)), (53, .val (.int .i64 (t_.p.length : Int))), (54, .val (.int .i64 s18))], [], 0⟩) (Wk.rel [] (by simp) (by simp) (by rw [hP]; simp) (by simp) (by simp) (by simp [Cat.cells, Ends.cells, Fn.cells, Tra.cells, Is_append, Is_one, Ls_append, Ls_one, Bs_append, Bs_one, Es_append, Es_one, Es_set', eB, eI, eL]) (by simp [hhOk, back, Cat.cells, Ends.cells, Fn.cells, Tra.cells, Is_append, Is_one, Ls_append, Ls_one, Bs_append, Bs_one, Es_append, Es_one, Es_set', eB, eI, eL])) ?_
   clear h
   intro k18 s18 c18 h hk18
   refine w_seq ?_
   refine w_run mo (by rw [hN]; decide) fun K hK => ?_
   simp [-guardE_b, -Is_at, -Is_at', -Ls_at, -Ls_at', eL, eI, allInts, eP_Cat, eP_Ends, eP_Fn, eP_Tra, Cat.cells, Ends.cells, Fn.cells, Tra.cells]
   repeat (with_reducible refine And.intro ?_ ?_; · first | assumption | omega | (simp; done) | (simp; omega) | simp_all)
   refine hK _ ?_
   clear hK K
   refine tn ?_
   refine w_weak (st' := ⟨[(3, .rptr [.val (.int .i64 t_.s.s.n), .lst true 1 (Is t_.s.s.fr), .lst true 1 (Is t_.s.s.to), .lst true 1 (Is t_.s.s.id), .lst true 1 (Ls t_.s.s.cs), .val (.int .i64 t_.s.t.n), .lst true 1 (Is t_.s.t.fr), .lst true 1 (Is t_.s.t.to), .lst true 1 (Is t_.s.t.id), .lst true 1 (Ls t_.s.t.cs), .lst true 1 (Is t_.s.ob), .lst true 1 (Is t_.s.ar), .val (.int .i64 t_.t.s.n), .lst true 1 (Is t_.t.s.fr), .lst true 1 (Is t_.t.s.to), .lst true 1 (Is t_.t.s.id), .lst true 1 (Ls t_.t.s.cs), .val (.int .i64 t_.t.t.n), .lst true 1 (Is t_.t.t.fr), .lst true 1 (Is t_.t.t.to), .lst true 1 (Is t_.t.t.id), .lst true 1 (Ls t_.t.t.cs), .lst true 1 (Is t_.t.ob), .lst true 1 (Is t_.t.ar), .lst true 1 (Is t_.p)]), (4, .rptr [.val (.int .i64 t_.t.s.n), .lst true 1 (Is t_.t.s.fr), .lst true 1 (Is t_.t.s.to), .lst true 1 (Is t_.t.s.id), .lst true 1 (Ls t_.t.s.cs), .val (.int .i64 t_.t.t.n), .lst true 1 (Is t_.t.t.fr), .lst true 1 (Is t_.t.t.to), .lst true 1 (Is t_.t.t.id), .lst true 1 (Ls t_.t.t.cs), .lst true 1 (Is t_.t.ob), .lst true 1 (Is t_.t.ar), .lst true 1 (Is t_.p)]), (52, .lst true 1 (Is t_.p)), (53, .val (.int .i64 (t_.p.length : Int))), (54, .val (.int .i64 s18)), (55, .val (.bool (decide (s18 < (t_.p.length : Int)))))], [], 0⟩) (Wk.rel [] (by simp) (by simp) (by rw [hP]; simp) (by simp) (by simp) (by simp [Cat.cells, Ends.cells, Fn.cells, Tra.cells, Is_append, Is_one, Ls_append, Ls_one, Bs_append, Bs_one, Es_append, Es_one, Es_set', eB, eI, eL]) (by simp [hhOk, back, Cat.cells, Ends.cells, Fn.cells, Tra.cells, Is_append, Is_one, Ls_append, Ls_one, Bs_append, Bs_one, Es_append, Es_one, Es_set', eB, eI, eL])) ?_
   refine w_seq ?_
   refine w_cond rfl (fun g => ?_) fun g => ?_
   · have g19 : s18 < (t_.p.length : Int) := by first | simpa using g | (simp at g; exact g) | (simp at g; omega)
     clear g
     replace h := if_l g19 h
     refine w_skip ?_
     refine tn ?_
     refine w_seq ?_
     refine w_block ?_
     refine w_seq ?_
     refine w_run mo (by rw [hN]; decide) fun K hK => ?_
     replace h := ass_some h
     obtain ⟨a20, h⟩ := h
     simp [-guardE_b, -Is_at, -Is_at', -Ls_at, -Ls_at', eL, eI, allInts, eP_Cat, eP_Ends, eP_Fn, eP_Tra, Cat.cells, Ends.cells, Fn.cells, Tra.cells, at_I a20]
     repeat (with_reducible refine And.intro ?_ ?_; · first | assumption | omega | (simp; done) | (simp; omega) | simp_all)
     refine hK _ ?_
     clear hK K
     refine tn ?_
     refine w_weak (st' := ⟨[(3, .rptr [.val (.int .i64 t_.s.s.n), .lst true 1 (Is t_.s.s.fr), .lst true 1 (Is t_.s.s.to), .lst true 1 (Is t_.s.s.id), .lst true 1 (Ls t_.s.s.cs), .val (.int .i64 t_.s.t.n), .lst true 1 (Is t_.s.t.fr), .lst true 1 (Is t_.s.t.to), .lst true 1 (Is t_.s.t.id), .lst true 1 (Ls t_.s.t.cs), .lst true 1 (Is t_.s.ob), .lst true 1 (Is t_.s.ar), .val (.int .i64 t_.t.s.n), .lst true 1 (Is t_.t.s.fr), .lst true 1 (Is t_.t.s.to), .lst true 1 (Is t_.t.s.id), .lst true 1 (Ls t_.t.s.cs), .val (.int .i64 t_.t.t.n), .lst true 1 (Is t_.t.t.fr), .lst true 1 (Is t_.t.t.to), .lst true 1 (Is t_.t.t.id), .lst true 1 (Ls t_.t.t.cs), .lst true 1 (Is t_.t.ob), .lst true 1 (Is t_.t.ar), .lst true 1 (Is t_.p)]), (4, .rptr [.val (.int .i64 t_.t.s.n), .lst true 1 (Is t_.t.s.fr), .lst true 1 (Is t_.t.s.to), .lst true 1 (Is t_.t.s.id), .lst true 1 (Ls t_.t.s.cs), .val (.int .i64 t_.t.t.n), .lst true 1 (Is t_.t.t.fr), .lst true 1 (Is t_.t.t.to), .lst true 1 (Is t_.t.t.id), .lst true 1 (Ls t_.t.t.cs), .lst true 1 (Is t_.t.ob), .lst true 1 (Is t_.t.ar), .lst true 1 (Is t_.p)]), (5, .val (.int .i64 s18)), (6, .val (.int .i64 (ix t_.p s18))), (52, .lst true 1 (Is t_.p)), (53, .val (.int .i64 (t_.p.length : Int))), (54, .val (.int .i64 s18))], [], 0⟩) (Wk.rel [] (by simp) (by simp) (by rw [hP]; simp) (by simp) (by simp) (by simp [Cat.cells, Ends.cells, Fn.cells, Tra.cells, Is_append, Is_one, Ls_append, Ls_one, Bs_append, Bs_one, Es_append, Es_one, Es_set', eB, eI, eL]) (by simp [hhOk, back, Cat.cells, Ends.cells, Fn.cells, Tra.cells, Is_append, Is_one, Ls_append, Ls_one, Bs_append, Bs_one, Es_append, Es_one, Es_set', eB, eI, eL])) ?_
     refine w_seq ?_
     refine w_run mo (by rw [hN]; decide) fun K hK => ?_
     simp [-guardE_b, -Is_at, -Is_at', -Ls_at, -Ls_at', eL, eI, allInts, eP_Cat, eP_Ends, eP_Fn, eP_Tra, Cat.cells, Ends.cells, Fn.cells, Tra.cells]
     repeat (with_reducible refine And.intro ?_ ?_; · first | assumption | omega | (simp; done) | (simp; omega) | simp_all)
     replace h := bind_some h
     obtain ⟨v21, hv21, h⟩ := h
     refine callA_intro (w_i_Category_ends _ _ v21 hv21) (.cons (.preT (by simp [Cat.cells, Ends.cells, Fn.cells, Tra.cells])) (.cons .val .nil)) ?_
     replace h := ass_some h
     obtain ⟨a22, h⟩ := h
     replace h := ass_some h
     obtain ⟨a23, h⟩ := h
     simp [-guardE_b, -Is_at, -Is_at', -Ls_at, -Ls_at', unk, unA, unE, unT, unC, flat, eL, eI, allInts, eP_Cat, eP_Ends, eP_Fn, eP_Tra, Cat.cells, Ends.cells, Fn.cells, Tra.cells, at_I a22, at_I a23]
     repeat (with_reducible refine And.intro ?_ ?_; · first | assumption | omega | (simp; done) | (simp; omega) | simp_all)
     refine hK _ ?_
     clear hK K
     refine tn ?_
     refine w_weak (st' := ⟨[(3, .rptr [.val (.int .i64 t_.s.s.n), .lst true 1 (Is t_.s.s.fr), .lst true 1 (Is t_.s.s.to), .lst true 1 (Is t_.s.s.id), .lst true 1 (Ls t_.s.s.cs), .val (.int .i64 t_.s.t.n), .lst true 1 (Is t_.s.t.fr), .lst true 1 (Is t_.s.t.to), .lst true 1 (Is t_.s.t.id), .lst true 1 (Ls t_.s.t.cs), .lst true 1 (Is t_.s.ob), .lst true 1 (Is t_.s.ar), .val (.int .i64 t_.t.s.n), .lst true 1 (Is t_.t.s.fr), .lst true 1 (Is t_.t.s.to), .lst true 1 (Is t_.t.s.id), .lst true 1 (Ls t_.t.s.cs), .val (.int .i64 t_.t.t.n), .lst true 1 (Is t_.t.t.fr), .lst true 1 (Is t_.t.t.to), .lst true 1 (Is t_.t.t.id), .lst true 1 (Ls t_.t.t.cs), .lst true 1 (Is t_.t.ob), .lst true 1 (Is t_.t.ar), .lst true 1 (Is t_.p)]), (4, .rptr [.val (.int .i64 t_.t.s.n), .lst true 1 (Is t_.t.s.fr), .lst true 1 (Is t_.t.s.to), .lst true 1 (Is t_.t.s.id), .lst true 1 (Ls t_.t.s.cs), .val (.int .i64 t_.t.t.n), .lst true 1 (Is t_.t.t.fr), .lst true 1 (Is t_.t.t.to), .lst true 1 (Is t_.t.t.id), .lst true 1 (Ls t_.t.t.cs), .lst true 1 (Is t_.t.ob), .lst true 1 (Is t_.t.ar), .lst true 1 (Is t_.p)]), (52, .lst true 1 (Is t_.p)), (53, .val (.int .i64 (t_.p.length : Int))), (54, .val (.int .i64 s18)), (79, .val (.bool (!([v21.a, v21.b] == [ix t_.s.ob s18, ix t_.t.ob s18]))))], [], 0⟩) (Wk.rel [] (by simp) (by simp) (by rw [hP]; simp) (by simp) (by simp) (by simp [Cat.cells, Ends.cells, Fn.cells, Tra.cells, Is_append, Is_one, Ls_append, Ls_one, Bs_append, Bs_one, Es_append, Es_one, Es_set', eB, eI, eL]) (by simp [hhOk, back, Cat.cells, Ends.cells, Fn.cells, Tra.cells, Is_append, Is_one, Ls_append, Ls_one, Bs_append, Bs_one, Es_append, Es_one, Es_set', eB, eI, eL])) ?_
     refine w_cond rfl (fun g => ?_) fun g => ?_
     · have g24 : ¬ (v21.a = ix t_.s.ob s18 ∧ v21.b = ix t_.t.ob s18) := by first | simpa using g | (simp at g; exact g) | (simp at g; omega)
       clear g
       replace h := if_l g24 h
       refine w_seq ?_
       refine w_run mo (by rw [hN]; decide) fun K hK => ?_
       simp [-guardE_b, -Is_at, -Is_at', -Ls_at, -Ls_at', eL, eI, allInts, eP_Cat, eP_Ends, eP_Fn, eP_Tra, Cat.cells, Ends.cells, Fn.cells, Tra.cells]
       repeat (with_reducible refine And.intro ?_ ?_; · first | assumption | omega | (simp; done) | (simp; omega) | simp_all)
       refine hK _ ?_
       clear hK K
       refine tn ?_
       refine w_weak (st' := ⟨[(2, .val (.bool false))], [], 0⟩) (Wk.rel [] (by simp) (by simp) (by rw [hP]; simp) (by simp) (by simp) (by simp [Cat.cells, Ends.cells, Fn.cells, Tra.cells, Is_append, Is_one, Ls_append, Ls_one, Bs_append, Bs_one, Es_append, Es_one, Es_set', eB, eI, eL]) (by simp [hhOk, back, Cat.cells, Ends.cells, Fn.cells, Tra.cells, Is_append, Is_one, Ls_append, Ls_one, Bs_append, Bs_one, Es_append, Es_one, Es_set', eB, eI, eL])) ?_
       refine w_ret ?_
       refine br ?_
       refine tr ?_
       refine lr ?_
       refine br ?_
       refine tr ?_
       cases h
       have q : _ = e10 := hk18
       have h := h10
       rw [← q] at h
       clear q
       try dsimp only at h
       have hr := Option.some.inj h
       rw [← hr]
       refine ⟨_, (.tmp .nil), ?_⟩
       refine ⟨(.one rfl rfl .nil), [.val (.bool false)], [], by simp [Cat.cells, Ends.cells, Fn.cells, Tra.cells, Is_append, Is_one, Ls_append, Ls_one, Bs_append, Bs_one, Es_append, Es_one, Es_set', eB, eI, eL], by simp, (UpL.refl _)⟩
     have g24 : ¬ (¬ (v21.a = ix t_.s.ob s18 ∧ v21.b = ix t_.t.ob s18)) := by first | simpa using g | (simp at g; exact g) | (simp at g; omega)
     clear g
     replace h := if_r g24 h
     refine w_skip ?_
     refine bn ?_
     refine tn ?_
     refine w_run mo (by rw [hN]; decide) fun K hK => ?_
     replace h := ass_some h
     obtain ⟨a25, h⟩ := h
     simp [-guardE_b, -Is_at, -Is_at', -Ls_at, -Ls_at', eL, eI, allInts, eP_Cat, eP_Ends, eP_Fn, eP_Tra, Cat.cells, Ends.cells, Fn.cells, Tra.cells, wrap_id a25]
     repeat (with_reducible refine And.intro ?_ ?_; · first | assumption | omega | (simp; done) | (simp; omega) | simp_all)
     refine hK _ ?_
     clear hK K
     cases h
     exact rn (s' := s18 + 1) hk18 (Wk.rel [] (by simp) (by simp) (by rw [hP]; simp) (by simp) (by simp) (by simp [Cat.cells, Ends.cells, Fn.cells, Tra.cells, Is_append, Is_one, Ls_append, Ls_one, Bs_append, Bs_one, Es_append, Es_one, Es_set', eB, eI, eL]) (by simp [hhOk, back, Cat.cells, Ends.cells, Fn.cells, Tra.cells, Is_append, Is_one, Ls_append, Ls_one, Bs_append, Bs_one, Es_append, Es_one, Es_set', eB, eI, eL]))
   have g19 : ¬ (s18 < (t_.p.length : Int)) := by first | simpa using g | (simp at g; exact g) | (simp at g; omega)
   clear g
   replace h := if_r g19 h
   refine w_exit ?_
   refine tx ?_
   refine lx ?_
   refine bh ?_
   cases h
   exact jn (b := ()) hk18 (Wk.rel [] (by simp) (by simp) (by rw [hP]; simp) (by simp) (by simp) (by simp [Cat.cells, Ends.cells, Fn.cells, Tra.cells, Is_append, Is_one, Ls_append, Ls_one, Bs_append, Bs_one, Es_append, Es_one, Es_set', eB, eI, eL]) (by simp [hhOk, back, Cat.cells, Ends.cells, Fn.cells, Tra.cells, Is_append, Is_one, Ls_append, Ls_one, Bs_append, Bs_one, Es_append, Es_one, Es_set', eB, eI, eL]))
 intro b10 hb10
 have h := h10
 rw [← hb10] at h
 clear h10
 try dsimp only at h
 refine w_seq ?_
 refine w_run mo (by rw [hN]; decide) fun K hK => ?_
 simp [-guardE_b, -Is_at, -Is_at', -Ls_at, -Ls_at', eL, eI, allInts, eP_Cat, eP_Ends, eP_Fn, eP_Tra, Cat.cells, Ends.cells, Fn.cells, Tra.cells]
 repeat (with_reducible refine And.intro ?_ ?_; · first | assumption | omega | (simp; done) | (simp; omega) | simp_all)
 refine hK _ ?_
 clear hK K
 refine tn ?_
 refine w_weak (st' := ⟨[(2, .val (.bool true))], [], 0⟩) (Wk.rel [] (by simp) (by simp) (by rw [hP]; simp) (by simp) (by simp) (by simp [Cat.cells, Ends.cells, Fn.cells, Tra.cells, Is_append, Is_one, Ls_append, Ls_one, Bs_append, Bs_one, Es_append, Es_one, Es_set', eB, eI, eL]) (by simp [hhOk, back, Cat.cells, Ends.cells, Fn.cells, Tra.cells, Is_append, Is_one, Ls_append, Ls_one, Bs_append, Bs_one, Es_append, Es_one, Es_set', eB, eI, eL])) ?_
 refine w_ret ?_
 have hr := Option.some.inj h
 rw [← hr]
 refine ⟨_, (.tmp .nil), ?_⟩
 refine ⟨(.one rfl rfl .nil), [.val (.bool true)], [], by simp [Cat.cells, Ends.cells, Fn.cells, Tra.cells, Is_append, Is_one, Ls_append, Ls_one, Bs_append, Bs_one, Es_append, Es_one, Es_set', eB, eI, eL], by simp, (UpL.refl _)⟩
end Go.Vc.T

set_option maxRecDepth 100000
set_option linter.unusedSimpArgs false
set_option linter.unusedVariables false
namespace Go.Vc.T
open Go Go.Vc Go.Proofs
noncomputable def s_i_Transformation_isNatural (t_ : Tra) : Option Bool :=
 (
   (s_i_Transformation_isShape t_).bind fun v2 =>
   if v2 = true then
     (s_i_firstFailure__i_commutes t_).bind fun v4 =>
     some (decide (v4 < 0))
   else
     some false : Option (Bool)).bind fun b1 =>
 some b1
set_option maxHeartbeats 4000000 in
theorem w_i_Transformation_isNatural (t_ : Tra) (r : Bool) (h : s_i_Transformation_isNatural t_ = some r) : Contract Try.prog 88 [.rptr (t_.cells true)] (.val (.bool r)) := by
 refine contract_introG (rvs := [.tmp 2]) (rs := [.val (.bool r)]) Try.func88 rfl rfl rfl rfl (by simp [Try.f88]) fun F hN hP => ?_
 unfold s_i_Transformation_isNatural at h
 refine w_seq ?_
 refine w_run mo (by rw [hN]; decide) fun K hK => ?_
 simp [-guardE_b, -Is_at, -Is_at', -Ls_at, -Ls_at', eL, eI, allInts, eP_Tra, Tra.cells]
 repeat (with_reducible refine And.intro ?_ ?_; · first | assumption | omega | (simp; done) | (simp; omega) | simp_all)
 refine hK _ ?_
 clear hK K
 refine tn ?_
 refine w_weak (st' := ⟨[(0, .rptr [.val (.int .i64 t_.s.s.n), .lst true 1 (Is t_.s.s.fr), .lst true 1 (Is t_.s.s.to), .lst true 1 (Is t_.s.s.id), .lst true 1 (Ls t_.s.s.cs), .val (.int .i64 t_.s.t.n), .lst true 1 (Is t_.s.t.fr), .lst true 1 (Is t_.s.t.to), .lst true 1 (Is t_.s.t.id), .lst true 1 (Ls t_.s.t.cs), .lst true 1 (Is t_.s.ob), .lst true 1 (Is t_.s.ar), .val (.int .i64 t_.t.s.n), .lst true 1 (Is t_.t.s.fr), .lst true 1 (Is t_.t.s.to), .lst true 1 (Is t_.t.s.id), .lst true 1 (Ls t_.t.s.cs), .val (.int .i64 t_.t.t.n), .lst true 1 (Is t_.t.t.fr), .lst true 1 (Is t_.t.t.to), .lst true 1 (Is t_.t.t.id), .lst true 1 (Ls t_.t.t.cs), .lst true 1 (Is t_.t.ob), .lst true 1 (Is t_.t.ar), .lst true 1 (Is t_.p)])], [], 0⟩) (Wk.rel [] (by simp) (by simp) (by rw [hP]; simp) (by simp) (by simp) (by simp [Tra.cells, Is_append, Is_one, Ls_append, Ls_one, Bs_append, Bs_one, Es_append, Es_one, Es_set', eB, eI, eL]) (by simp [hhOk, back, Tra.cells, Is_append, Is_one, Ls_append, Ls_one, Bs_append, Bs_one, Es_append, Es_one, Es_set', eB, eI, eL])) ?_
 refine w_seq ?_
 replace h := bind_some h
 obtain ⟨e1, h, h1⟩ := h
 refine w_joinT (fun b1 : Bool => ⟨[(2, .val (.bool b1))], [], 0⟩) (fun b1 => b1 = e1) ?_ ?_
 · refine w_run mo (by rw [hN]; decide) fun K hK => ?_
   simp [-guardE_b, -Is_at, -Is_at', -Ls_at, -Ls_at', eL, eI, allInts, eP_Tra, Tra.cells]
   repeat (with_reducible refine And.intro ?_ ?_; · first | assumption | omega | (simp; done) | (simp; omega) | simp_all)
   replace h := bind_some h
   obtain ⟨v2, hv2, h⟩ := h
   refine callA_intro (w_i_Transformation_isShape _ v2 hv2) (.cons (.preT (by simp [Tra.cells])) .nil) ?_
   simp [-guardE_b, -Is_at, -Is_at', -Ls_at, -Ls_at', unk, unA, unE, unT, unC, flat, eL, eI, allInts, eP_Tra, Tra.cells]
   repeat (with_reducible refine And.intro ?_ ?_; · first | assumption | omega | (simp; done) | (simp; omega) | simp_all)
   refine guard_intro (fun g => ?_) (fun g => ?_)
   · have g3 : v2 = true := by first | simpa using g | (simp at g; exact g) | (simp at g; omega)
     clear g
     replace h := if_l g3 h
     simp [-guardE_b, -Is_at, -Is_at', -Ls_at, -Ls_at', eL, eI, allInts, eP_Tra, Tra.cells]
     repeat (with_reducible refine And.intro ?_ ?_; · first | assumption | omega | (simp; done) | (simp; omega) | simp_all)
     replace h := bind_some h
     obtain ⟨v4, hv4, h⟩ := h
     refine callA_intro (w_i_firstFailure__i_commutes _ v4 hv4) (.cons (.preT (by simp [Tra.cells])) (.cons (.fnL (by simp) .nil) .nil)) ?_
     simp [-guardE_b, -Is_at, -Is_at', -Ls_at, -Ls_at', unk, unA, unE, unT, unC, flat, eL, eI, allInts, eP_Tra, Tra.cells]
     repeat (with_reducible refine And.intro ?_ ?_; · first | assumption | omega | (simp; done) | (simp; omega) | simp_all)
     refine hK _ ?_
     exact jn (b := decide (v4 < 0)) (Option.some.inj h) (Wk.rel [] (by simp) (by simp) (by rw [hP]; simp) (by simp) (by simp) (by simp [Tra.cells, Is_append, Is_one, Ls_append, Ls_one, Bs_append, Bs_one, Es_append, Es_one, Es_set', eB, eI, eL]) (by simp [hhOk, back, Tra.cells, Is_append, Is_one, Ls_append, Ls_one, Bs_append, Bs_one, Es_append, Es_one, Es_set', eB, eI, eL]))
   have g3 : ¬ (v2 = true) := by first | simpa using g | (simp at g; exact g) | (simp at g; omega)
   clear g
   replace h := if_r g3 h
   simp [-guardE_b, -Is_at, -Is_at', -Ls_at, -Ls_at', eL, eI, allInts, eP_Tra, Tra.cells]
   repeat (with_reducible refine And.intro ?_ ?_; · first | assumption | omega | (simp; done) | (simp; omega) | simp_all)
   refine hK _ ?_
   exact jn (b := false) (Option.some.inj h) (Wk.rel [] (by simp) (by simp) (by rw [hP]; simp) (by simp) (by simp) (by simp [Tra.cells, Is_append, Is_one, Ls_append, Ls_one, Bs_append, Bs_one, Es_append, Es_one, Es_set', eB, eI, eL]) (by simp [hhOk, back, Tra.cells, Is_append, Is_one, Ls_append, Ls_one, Bs_append, Bs_one, Es_append, Es_one, Es_set', eB, eI, eL]))
 intro b1 hb1
 have h := h1
 rw [← hb1] at h
 clear h1
 try dsimp only at h
 refine w_ret ?_
 have hr := Option.some.inj h
 rw [← hr]
 refine ⟨_, (.tmp .nil), ?_⟩
 refine ⟨(.one rfl rfl .nil), [.val (.bool b1)], [], by simp [Tra.cells, Is_append, Is_one, Ls_append, Ls_one, Bs_append, Bs_one, Es_append, Es_one, Es_set', eB, eI, eL], by simp, (UpL.refl _)⟩
end Go.Vc.T

set_option maxRecDepth 100000
set_option linter.unusedSimpArgs false
set_option linter.unusedVariables false
namespace Go.Vc.T
open Go Go.Vc Go.Proofs
structure NatT (f g : Fn) (p : List Int) : Prop where
 lp : p.length = f.ob.length
 bd : ∀ j : Nat, j < p.length → 0 ≤ ix p j ∧ ix p j < f.t.fr.length
 ends : ∀ x : Nat, x < p.length → ix f.t.fr (ix p x) = ix f.ob x ∧ ix f.t.to (ix p x) = ix g.ob x
 sq : ∀ a : Nat, a < f.s.fr.length → ix (rx f.t.cs (ix f.ar a)) (ix p (ix f.s.to a)) = ix (rx f.t.cs (ix p (ix f.s.fr a))) (ix g.ar a)
structure Para (f g : Fn) : Prop where
 hf : f.Is
 hg : g.Is
 s : f.s = g.s
 t : f.t = g.t
theorem Para.fact {f g : Fn} (h : Para f g) : f.ob.length = g.ob.length ∧ f.ar.length = g.ar.length ∧ f.ar.length = f.s.fr.length ∧ f.s.to.length = f.s.fr.length ∧ f.t.to.length = f.t.fr.length ∧ f.t.cs.length = f.t.fr.length ∧ f.ob.length = f.s.id.length ∧ f.ob.length ≤ 8 ∧ f.s.fr.length ≤ 40 ∧ f.t.fr.length ≤ 40 := by
 have h1 := h.hf.lo
 have h2 := h.hg.lo
 have h3 := h.hf.la
 have h4 := h.hg.la
 rw [← h.s] at h2 h4
 have h5 := h.hf.s.1.li
 exact ⟨by omega, by omega, h3, h.hf.s.1.lt, h.hf.t.1.lt, h.hf.t.1.lc, by omega, h.hf.lob, h.hf.s.1.m40, h.hf.t.1.m40⟩
theorem Para.sqok {f g : Fn} (h : Para f g) {p : List Int} (lp : p.length = f.ob.length) (bd : ∀ j : Nat, j < p.length → 0 ≤ ix p j ∧ ix p j < f.t.fr.length) {a : Nat} (ha : a < f.s.fr.length) :
   (0 ≤ ix f.ar a ∧ ix f.ar a < f.t.fr.length) ∧ (0 ≤ ix g.ar a ∧ ix g.ar a < f.t.fr.length) ∧ (0 ≤ ix f.s.to a ∧ ix f.s.to a < p.length) ∧ (0 ≤ ix f.s.fr a ∧ ix f.s.fr a < p.length) ∧
   (0 ≤ ix p (ix f.s.to a) ∧ ix p (ix f.s.to a) < f.t.fr.length) ∧ (0 ≤ ix p (ix f.s.fr a) ∧ ix p (ix f.s.fr a) < f.t.fr.length) ∧ (rx f.t.cs (ix f.ar a)).length = f.t.fr.length ∧ (rx f.t.cs (ix p (ix f.s.fr a))).length = f.t.fr.length := by
 obtain ⟨k1, k2, k3, k4, k5, k6, k7, k8, k9, k10⟩ := h.fact
 have h1 := h.hf.ar a (by omega)
 have h2 := h.hg.ar a (by omega)
 rw [← h.t] at h2
 have h3 := h.hf.s.1.frn ha
 have h4 := ix_bnd bd (j := ix f.s.to a) (by omega) (by omega)
 have h5 := ix_bnd bd (j := ix f.s.fr a) (by omega) (by omega)
 exact ⟨h1, h2, by omega, by omega, h4, h5, h.hf.t.1.row' (by omega) (by omega), h.hf.t.1.row' (by omega) (by omega)⟩
theorem e_Cthen {c : Cat} {f g : Int} (h0 : 0 ≤ f ∧ f < (c.cs.length : Int)) (h1 : 0 ≤ g ∧ g < ((rx c.cs f).length : Int)) : s_i_Category_then c f g = some (ix (rx c.cs f) g) := by
 unfold s_i_Category_then
 rw [ass_pos h0.1, ass_pos h0.2, ass_pos h1.1, ass_pos h1.2]
structure Tra.Is (t : Tra) : Prop where
 p : Para t.s t.t
 n : NatT t.s t.t t.p
theorem e_fits {f : Fn} (h1 : f.s.Is) (h2 : f.t.Is) : s_i_Functor_fits f = some (bo f.Is) := by
 have hs := h1.1
 have ht := h2.1
 have k0 := hs.n0
 have k1 := hs.n8
 have k2 := hs.m40
 have k3 := hs.li
 have k4 := hs.lt
 have k5 := hs.lc
 have k6 := ht.li
 have k7 := ht.lt
 have k8 := ht.lc
 have k9 := ht.m40
 have k10 := ht.n0
 have k11 := ht.n8
 have b1 : B64 (f.t.n - 1) := ⟨by omega, by omega⟩
 have b2 : B64 ((f.t.fr.length : Int) - 1) := ⟨by omega, by omega⟩
 unfold s_i_Functor_fits
 by_cases h3 : (f.ob.length : Int) = f.s.n
 case neg => rw [bo_neg (show ¬ f.Is from fun q => h3 q.lo)]; simp [h3]
 by_cases h4 : (f.ar.length : Int) = f.s.fr.length
 case neg => rw [bo_neg (show ¬ f.Is from fun q => h4 (by rw [q.la]))]; simp [s_i_Category_arrows, h3, h4]
 by_cases h5 : f.ob.all (inR f.t.n) = true
 case neg => rw [bo_neg (show ¬ f.Is from fun q => h5 (all_inR.2 q.ob))]; simp [s_i_Category_arrows, s_i_within, ass_pos b1, h3, h4, h5]
 by_cases h6 : f.ar.all (inR f.t.fr.length) = true
 case neg => rw [bo_neg (show ¬ f.Is from fun q => h6 (all_inR.2 q.ar))]; simp [s_i_Category_arrows, s_i_within, ass_pos b1, ass_pos b2, h3, h4, h5, h6]
 have ho := all_inR.1 h5
 have ha := all_inR.1 h6
 simp only [s_i_Category_arrows, s_i_within, ass_pos b1, ass_pos b2, h3, h4, h5, h6, Option.bind_some, if_true, if_false, not_true_eq_false, Bool.not_true, Bool.false_eq_true]
 refine chk_bind f.s.fr.length (fun a : Nat => ix f.t.fr (ix f.ar a) = ix f.ob (ix f.s.fr a) ∧ ix f.t.to (ix f.ar a) = ix f.ob (ix f.s.to a)) (eb := Sum.inr false) (eg := Sum.inl ()) (by omega) (fun a hi hp => ?_) (fun a hi hp => ?_) (by simp) (fun hx => ?_) fun q1 => ?_
 · have := hs.frn hi
   have := ha a (by omega)
   simp (disch := omega) [ass_pos, B64, hp.1, hp.2, hi]
 · have := hs.frn hi
   have := ha a (by omega)
   by_cases hp1 : ix f.t.fr (ix f.ar a) = ix f.ob (ix f.s.fr a)
   · have hp2 : ¬ ix f.t.to (ix f.ar a) = ix f.ob (ix f.s.to a) := fun h => hp ⟨hp1, h⟩
     simp (disch := omega) [ass_pos, B64, hp1, hp2, hi]
   simp (disch := omega) [ass_pos, B64, hp1, hi]
 · rw [bo_neg (show ¬ f.Is from fun q => hx q.ends)]
 simp only
 refine chk_bind f.s.id.length (fun x : Nat => ix f.ar (ix f.s.id x) = ix f.t.id (ix f.ob x)) (eb := Sum.inr false) (eg := Sum.inl ()) (by omega) (fun a hi hp => ?_) (fun a hi hp => ?_) (by simp) (fun hx => ?_) fun q2 => ?_
 · have := hs.idn hi
   have := ho a (by omega)
   simp (disch := omega) [ass_pos, B64, hp, hi]
 · have := hs.idn hi
   have := ho a (by omega)
   simp (disch := omega) [ass_pos, B64, hp, hi]
 · rw [bo_neg (show ¬ f.Is from fun q => hx q.ids)]
 simp only
 refine chk_bind f.s.fr.length (fun a : Nat => ∀ b : Nat, b < f.s.fr.length → ix f.s.to a = ix f.s.fr b → ix f.ar (ix (rx f.s.cs a) b) = ix (rx f.t.cs (ix f.ar a)) (ix f.ar b)) (eb := Sum.inr false) (eg := Sum.inl ()) (by omega) (fun a hi hp => ?_) (fun a hi hp => ?_) (by simp; omega) (fun hx => ?_) fun q3 => ?_
 rotate_left 2
 · rw [bo_neg (show ¬ f.Is from fun q => hx q.comp)]
 · rw [bo_pos (show f.Is from ⟨h1, h2, h3, by omega, ho, ha, q1, q2, q3⟩)]
 all_goals
   have h8 := ha a (by omega)
   have h11 := hs.row' (j := a) (by omega) (by omega)
   have h12 := ht.row' (j := ix f.ar a) (by omega) (by omega)
   rw [if_pos (by omega), ass_pos (by omega), Option.bind_assoc]
   refine chk_bind f.s.fr.length (fun b : Nat => ix f.s.to a = ix f.s.fr b → ix f.ar (ix (rx f.s.cs a) b) = ix (rx f.t.cs (ix f.ar a)) (ix f.ar b)) (eb := Sum.inl false) (eg := Sum.inr ()) (by omega) (fun b hb hq => ?_) (fun b hb hq => ?_) ?_ (fun hn => ?_) fun hn => ?_
 all_goals first
   | exact absurd hp hn
   | exact absurd hn hp
   | (simp (disch := omega) [ass_pos, B64, h11]; done)
   | skip
 all_goals
   have h13 := ha b (by omega)
   have h16 := hs.cell' (f := a) (g := b) (by omega) (by omega) (by omega) (by omega)
   by_cases h14 : ix f.s.to a = ix f.s.fr b
   · have h15 := hs.cmp (f := a) (g := b) (by omega) (by omega) (by omega) (by omega) h14
     have h17 : ix (rx f.s.cs a) b ≥ 0 := h15.1
     first
       | (have hq1 := hq h14; simp (disch := omega) [ass_pos, B64, e_Cthen, h14, hq1, hb, h11, h17]; done)
       | (have hq1 := fun e => hq (fun _ => e); simp (disch := omega) [ass_pos, B64, e_Cthen, h14, hq1, hb, h11, h17]; exact hq1)
   have h17 := h16.1 h14
   first
     | (simp (disch := omega) [ass_pos, B64, h14, hb, h11, h17]; done)
     | exact absurd (fun e => absurd e h14) hq
theorem gx_nat {α : Type} [Inhabited α] (xs : List α) {i : Nat} (h : i < xs.length) : gx xs i = xs[i] := by simp [gx, List.getD_eq_getElem?_getD, h]
theorem e_areCats (cs : List Cat) (hl : cs.length ≤ 1048576) : s_i_areCategories cs = some (bo (∀ c ∈ cs, c.Is)) := by
 unfold s_i_areCategories
 refine chk_bind cs.length (fun i : Nat => (gx cs i).Is) (eb := Sum.inr false) (eg := Sum.inl ()) (by omega) (fun a hi hp => ?_) (fun a hi hp => ?_) (by simp) (fun hx => ?_) fun q1 => ?_
 · simp (disch := omega) [ass_pos, B64, s_i_Category_isCategory, bo_pos hp, hi]
 · simp (disch := omega) [ass_pos, B64, s_i_Category_isCategory, bo_neg hp, hi]
 · rw [bo_neg (show ¬ ∀ c ∈ cs, c.Is from fun q => hx fun i hi => q _ (by rw [gx_nat _ hi]; exact List.getElem_mem hi))]
 rw [bo_pos (show ∀ c ∈ cs, c.Is from fun c hc => by obtain ⟨i, hi, rfl⟩ := List.getElem_of_mem hc; have := q1 i hi; rwa [gx_nat _ hi] at this)]
theorem e_isFunctor (f : Fn) : s_i_Functor_isFunctor f = some (bo f.Is) := by
 unfold s_i_Functor_isFunctor
 rw [e_areCats _ (by simp)]
 by_cases h : f.s.Is ∧ f.t.Is
 · rw [bo_pos (show ∀ c ∈ [f.s, f.t], c.Is by simpa using h)]
   simp [e_fits h.1 h.2]
 rw [bo_neg (show ¬ ∀ c ∈ [f.s, f.t], c.Is by simpa using h), bo_neg (show ¬ f.Is from fun q => h ⟨q.s, q.t⟩)]
 simp
theorem e_areFunctors (fs : List Fn) (hl : fs.length ≤ 1048576) : s_i_areFunctors fs = some (bo (∀ f ∈ fs, f.Is)) := by
 unfold s_i_areFunctors
 refine chk_bind fs.length (fun i : Nat => (gx fs i).Is) (eb := Sum.inr false) (eg := Sum.inl ()) (by omega) (fun a hi hp => ?_) (fun a hi hp => ?_) (by simp) (fun hx => ?_) fun q1 => ?_
 · simp (disch := omega) [ass_pos, B64, e_isFunctor, bo_pos hp, hi]
 · simp (disch := omega) [ass_pos, B64, e_isFunctor, bo_neg hp, hi]
 · rw [bo_neg (show ¬ ∀ c ∈ fs, c.Is from fun q => hx fun i hi => q _ (by rw [gx_nat _ hi]; exact List.getElem_mem hi))]
 rw [bo_pos (show ∀ c ∈ fs, c.Is from fun c hc => by obtain ⟨i, hi, rfl⟩ := List.getElem_of_mem hc; have := q1 i hi; rwa [gx_nat _ hi] at this)]
theorem Cat.Is.lcs {c : Cat} (h : c.Is) : c.cs.length ≤ 1048576 := by have := h.1.lc; have := h.1.m40; omega
theorem e_sameCat {c d : Cat} (h : c.Is) : s_i_sameCategory c d = some (bo (c = d)) := by
 unfold s_i_sameCategory
 rw [ass_pos h.lcs]
theorem e_parallel {f g : Fn} (hf : f.Is) : s_i_parallelFunctors f g = some (bo (f.s = g.s ∧ f.t = g.t)) := by
 unfold s_i_parallelFunctors
 rw [e_sameCat hf.s, e_sameCat hf.t]
 by_cases h1 : f.s = g.s <;> by_cases h2 : f.t = g.t <;> simp [bo, h1, h2]
theorem e_commutes {f g : Fn} (h : Para f g) {p : List Int} (lp : p.length = f.ob.length) (bd : ∀ j : Nat, j < p.length → 0 ≤ ix p j ∧ ix p j < f.t.fr.length) {a : Nat} (ha : a < f.s.fr.length) :
   s_i_commutes f g p a = some (bo (ix (rx f.t.cs (ix f.ar a)) (ix p (ix f.s.to a)) = ix (rx f.t.cs (ix p (ix f.s.fr a))) (ix g.ar a))) := by
 obtain ⟨k1, k2, k3, k4, k5, k6, k7, k8, k9, k10⟩ := h.fact
 obtain ⟨m1, m2, m3, m4, m5, m6, m7, m8⟩ := h.sqok lp bd ha
 unfold s_i_commutes
 by_cases hq : ix (rx f.t.cs (ix f.ar a)) (ix p (ix f.s.to a)) = ix (rx f.t.cs (ix p (ix f.s.fr a))) (ix g.ar a) <;> simp (disch := omega) [ass_pos, e_Cthen, hq, bo]
theorem e_firstFail {f g : Fn} (h : Para f g) {p : List Int} (lp : p.length = f.ob.length) (bd : ∀ j : Nat, j < p.length → 0 ≤ ix p j ∧ ix p j < f.t.fr.length) :
   ∃ v, s_i_firstFailure__i_commutes ⟨f, g, p⟩ = some v ∧ (v < 0 ↔ ∀ a : Nat, a < f.s.fr.length → ix (rx f.t.cs (ix f.ar a)) (ix p (ix f.s.to a)) = ix (rx f.t.cs (ix p (ix f.s.fr a))) (ix g.ar a)) := by
 obtain ⟨k1, k2, k3, k4, k5, k6, k7, k8, k9, k10⟩ := h.fact
 unfold s_i_firstFailure__i_commutes
 rcases loop_fst (body := fun s6 : Int => if s6 < (f.ar.length : Int) then (s_i_commutes f g p s6).bind fun v8 => if ¬ (v8 = true) then some (Ctl.ret (Sum.inr s6)) else ass (B64 (s6 + 1)) <| some (Ctl.next (s6 + 1)) else some (Ctl.ret (Sum.inl ()))) (ε := Unit ⊕ Int)
     f.s.fr.length (fun a : Nat => ix (rx f.t.cs (ix f.ar a)) (ix p (ix f.s.to a)) = ix (rx f.t.cs (ix p (ix f.s.fr a))) (ix g.ar a)) (eb := fun i => Sum.inr (i : Int)) (eg := Sum.inl ()) (by omega)
     (fun a hi hp => by simp (disch := omega) [ass_pos, B64, e_commutes h lp bd hi, hp, bo]; omega) (fun a hi hp => by simp (disch := omega) [ass_pos, B64, e_commutes h lp bd hi, hp, bo]; omega) (by simp; omega) with ⟨h1, h2⟩ | ⟨m, h1, h2, h3, h4⟩
 · refine ⟨-1, ?_, by simpa using h1⟩
   simp only
   rw [h2]; rfl
 refine ⟨m, ?_, ⟨fun q => by omega, fun q => absurd (q m h1) h2⟩⟩
 simp only
 rw [h4]; rfl
theorem e_Tshape (t : Tra) : s_i_Transformation_isShape t = some (bo (Para t.s t.t ∧ t.p.length = t.s.ob.length ∧ (∀ j : Nat, j < t.p.length → 0 ≤ ix t.p j ∧ ix t.p j < t.s.t.fr.length) ∧ ∀ x : Nat, x < t.p.length → ix t.s.t.fr (ix t.p x) = ix t.s.ob x ∧ ix t.s.t.to (ix t.p x) = ix t.t.ob x)) := by
 unfold s_i_Transformation_isShape
 rw [e_areFunctors _ (by simp)]
 by_cases h : t.s.Is ∧ t.t.Is
 case neg => rw [bo_neg (show ¬ ∀ c ∈ [t.s, t.t], c.Is by simpa using h), bo_neg (fun q => h ⟨q.1.hf, q.1.hg⟩)]; simp
 rw [bo_pos (show ∀ c ∈ [t.s, t.t], c.Is by simpa using h)]
 obtain ⟨hf, hg⟩ := h
 rw [e_parallel hf]
 by_cases h : t.s.s = t.t.s ∧ t.s.t = t.t.t
 case neg => rw [bo_neg h, bo_neg (fun q => h ⟨q.1.s, q.1.t⟩)]; simp
 rw [bo_pos h]
 have hP : Para t.s t.t := ⟨hf, hg, h.1, h.2⟩
 obtain ⟨k1, k2, k3, k4, k5, k6, k7, k8, k9, k10⟩ := hP.fact
 have lo := hf.lo
 have b2 : B64 ((t.s.t.fr.length : Int) - 1) := ⟨by omega, by omega⟩
 by_cases h1 : (t.p.length : Int) = t.s.s.n
 case neg => rw [bo_neg (fun q => h1 (by rw [q.2.1, lo]))]; simp [h1]
 by_cases h2 : t.p.all (inR t.s.t.fr.length) = true
 case neg => rw [bo_neg (fun q => h2 (all_inR.2 q.2.2.1))]; simp [s_i_Category_arrows, s_i_within, ass_pos b2, h1, h2]
 have bd := all_inR.1 h2
 simp only [s_i_Category_arrows, s_i_within, ass_pos b2, h1, h2, not_true_eq_false, if_false, Option.bind_some, Bool.not_true, Bool.false_eq_true]
 refine chk_bind t.p.length (fun x : Nat => ix t.s.t.fr (ix t.p x) = ix t.s.ob x ∧ ix t.s.t.to (ix t.p x) = ix t.t.ob x) (eb := Sum.inr false) (eg := Sum.inl ()) (by omega) (fun a hi hp => ?_) (fun a hi hp => ?_) (by simp; try omega) (fun hx => ?_) fun q1 => ?_
 · have := bd a hi
   simp (disch := omega) [ass_pos, B64, s_i_Category_ends, hp.1, hp.2]; omega
 · have := bd a hi
   by_cases hp1 : ix t.s.t.fr (ix t.p a) = ix t.s.ob a
   · have hp2 : ¬ ix t.s.t.to (ix t.p a) = ix t.t.ob a := fun q => hp ⟨hp1, q⟩
     simp (disch := omega) [ass_pos, B64, s_i_Category_ends, hp1, hp2]; try omega
   simp (disch := omega) [ass_pos, B64, s_i_Category_ends, hp1]; try omega
 · rw [bo_neg (fun q => hx q.2.2.2)]
 rw [bo_pos ⟨hP, by omega, bd, q1⟩]
theorem e_isNatural (t : Tra) : s_i_Transformation_isNatural t = some (bo t.Is) := by
 unfold s_i_Transformation_isNatural
 rw [e_Tshape]
 by_cases h : Para t.s t.t ∧ t.p.length = t.s.ob.length ∧ (∀ j : Nat, j < t.p.length → 0 ≤ ix t.p j ∧ ix t.p j < t.s.t.fr.length) ∧ ∀ x : Nat, x < t.p.length → ix t.s.t.fr (ix t.p x) = ix t.s.ob x ∧ ix t.s.t.to (ix t.p x) = ix t.t.ob x
 case neg => rw [bo_neg h, bo_neg (show ¬ t.Is from fun q => h ⟨q.p, q.n.lp, q.n.bd, q.n.ends⟩)]; simp
 rw [bo_pos h]
 obtain ⟨hP, lp, bd, en⟩ := h
 obtain ⟨v, hv, hiff⟩ := e_firstFail hP lp bd
 have hv' : s_i_firstFailure__i_commutes t = some v := hv
 by_cases hn : v < 0
 · rw [bo_pos (show t.Is from ⟨hP, lp, bd, en, hiff.1 hn⟩)]; simp [hv', hn]
 rw [bo_neg (show ¬ t.Is from fun q => hn (hiff.2 q.n.sq))]; simp [hv', hn]
end Go.Vc.T

set_option maxRecDepth 100000
set_option linter.unusedSimpArgs false
set_option linter.unusedVariables false
namespace Go.Vc.T
open Go Go.Vc Go.Proofs
structure Adj.Pre (a : Adj) : Prop where
 hl : a.l.Is
 hr : a.r.Is
 e1 : a.l.t = a.r.s
 e2 : a.r.t = a.l.s
 n1 : NatT (selfF a.l.s) (thenF a.l a.r) a.u
 n2 : NatT (thenF a.r a.l) (selfF a.l.t) a.k
structure Adj.Is (a : Adj) : Prop where
 pre : a.Pre
 t1 : ∀ x : Nat, x < a.l.ob.length → ix (rx a.l.t.cs (ix a.l.ar (ix a.u x))) (ix a.k (ix a.l.ob x)) = ix a.l.t.id (ix a.l.ob x)
 t2 : ∀ y : Nat, y < a.r.ob.length → ix (rx a.l.s.cs (ix a.u (ix a.r.ob y))) (ix a.r.ar (ix a.k y)) = ix a.l.s.id (ix a.r.ob y)
end Go.Vc.T

set_option maxRecDepth 100000
set_option linter.unusedSimpArgs false
set_option linter.unusedVariables false
namespace Go.Vc.T
open Go Go.Vc Go.Proofs
def tab {α : Type} (n : Nat) (g : Nat → α) : List α := (List.range n).map g
@[simp] theorem tab_length {α : Type} (n : Nat) (g : Nat → α) : (tab n g).length = n := by simp [tab]
theorem tab_succ {α : Type} (n : Nat) (g : Nat → α) : tab (n + 1) g = tab n g ++ [g n] := by simp [tab, List.range_succ]
theorem tab_zero {α : Type} (g : Nat → α) : tab 0 g = [] := rfl
theorem Cat.Is.size {c : Cat} (h : c.Is) : c.size ≤ 2000 := h.1.size2.2
theorem Fn.Is.ok {f : Fn} (h : f.Is) : f.ok ∧ f.size ≤ 4048 := by
 have h1 := h.lob
 have h2 := h.lar
 have h3 := h.s.size
 have h4 := h.t.size
 exact ⟨⟨h.s.ok, h.t.ok, by omega, by omega⟩, by simp only [Fn.size]; omega⟩
def zeroF : Fn := ⟨⟨0, [], [], [], []⟩, ⟨0, [], [], [], []⟩, [], []⟩
structure Adj.Two (a b : Adj) : Prop where
 ha : a.Is
 hb : b.Is
 e : a.l.t = b.l.s
end Go.Vc.T

set_option maxRecDepth 100000
set_option linter.unusedSimpArgs false
set_option linter.unusedVariables false
namespace Go.Vc.T
open Go Go.Vc Go.Proofs
noncomputable def s_i_Category_inverse (c_ : Cat) (f_ : Int) : Option Int :=
 ass (0 ≤ f_ ∧ f_ < (c_.fr.length : Int)) <|
 ass (0 ≤ f_ ∧ f_ < (c_.to.length : Int)) <|
 (s_i_Category_hom c_ (ix c_.to f_) (ix c_.fr f_)).bind fun v3 =>
 (loopF (σ := Int) (ε := Unit ⊕ Int) (fun s15 =>
   if s15 < (v3.length : Int) then
     ass (0 ≤ s15 ∧ s15 < (v3.length : Int)) <|
     (
       (s_i_Category_then c_ f_ (ix v3 s15)).bind fun v19 =>
       ass (0 ≤ ix c_.fr f_ ∧ ix c_.fr f_ < (c_.id.length : Int)) <|
       if v19 = (ix c_.id (ix c_.fr f_)) then
         (s_i_Category_then c_ (ix v3 s15) f_).bind fun v22 =>
         ass (0 ≤ ix c_.to f_ ∧ ix c_.to f_ < (c_.id.length : Int)) <|
         some (v22 == (ix c_.id (ix c_.to f_)))
       else
         some false : Option (Bool)).bind fun b18 =>
     if b18 = true then
       some (Ctl.ret (Sum.inr (ix v3 s15)))
     else
       ass (B64 (s15 + 1)) <|
       some (Ctl.next (s15 + 1))
   else
     some (Ctl.ret (Sum.inl ()))) fuel 0).bind fun e4 =>
 match e4 with
 | .inl b4 =>
   some (-1)
 | .inr p4 =>
   some p4
set_option maxHeartbeats 4000000 in
theorem w_i_Category_inverse (c_ : Cat) (f_ : Int) (r : Int) (h : s_i_Category_inverse c_ f_ = some r) : Contract Try.prog 90 [.rptr (c_.cells true), .val (.int .i64 f_)] (.val (.int .i64 r)) := by
 refine contract_introG (rvs := [.tmp 4]) (rs := [.val (.int .i64 r)]) Try.func90 rfl rfl rfl rfl (by simp [Try.f90]) fun F hN hP => ?_
 unfold s_i_Category_inverse at h
 refine w_seq ?_
 refine w_run mo (by rw [hN]; decide) fun K hK => ?_
 simp [-guardE_b, -Is_at, -Is_at', -Ls_at, -Ls_at', eL, eI, allInts, eP_Cat, Cat.cells]
 repeat (with_reducible refine And.intro ?_ ?_; · first | assumption | omega | (simp; done) | (simp; omega) | simp_all)
 refine hK _ ?_
 clear hK K
 refine tn ?_
 refine w_weak (st' := ⟨[(0, .rptr [.val (.int .i64 c_.n), .lst true 1 (Is c_.fr), .lst true 1 (Is c_.to), .lst true 1 (Is c_.id), .lst true 1 (Ls c_.cs)]), (1, .val (.int .i64 f_))], [], 0⟩) (Wk.rel [] (by simp) (by simp) (by rw [hP]; simp) (by simp) (by simp) (by simp [Cat.cells, Is_append, Is_one, Ls_append, Ls_one, Bs_append, Bs_one, Es_append, Es_one, Es_set', eB, eI, eL]) (by simp [hhOk, back, Cat.cells, Is_append, Is_one, Ls_append, Ls_one, Bs_append, Bs_one, Es_append, Es_one, Es_set', eB, eI, eL])) ?_
 refine w_seq ?_
 refine w_run mo (by rw [hN]; decide) fun K hK => ?_
 replace h := ass_some h
 obtain ⟨a1, h⟩ := h
 replace h := ass_some h
 obtain ⟨a2, h⟩ := h
 simp [-guardE_b, -Is_at, -Is_at', -Ls_at, -Ls_at', eL, eI, allInts, eP_Cat, Cat.cells, at_I a1, at_I a2]
 repeat (with_reducible refine And.intro ?_ ?_; · first | assumption | omega | (simp; done) | (simp; omega) | simp_all)
 refine hK _ ?_
 clear hK K
 refine tn ?_
 refine w_weak (st' := ⟨[(0, .rptr [.val (.int .i64 c_.n), .lst true 1 (Is c_.fr), .lst true 1 (Is c_.to), .lst true 1 (Is c_.id), .lst true 1 (Ls c_.cs)]), (1, .val (.int .i64 f_)), (5, .val (.int .i64 (ix c_.fr f_))), (6, .val (.int .i64 (ix c_.to f_)))], [], 0⟩) (Wk.rel [] (by simp) (by simp) (by rw [hP]; simp) (by simp) (by simp) (by simp [Cat.cells, Is_append, Is_one, Ls_append, Ls_one, Bs_append, Bs_one, Es_append, Es_one, Es_set', eB, eI, eL]) (by simp [hhOk, back, Cat.cells, Is_append, Is_one, Ls_append, Ls_one, Bs_append, Bs_one, Es_append, Es_one, Es_set', eB, eI, eL])) ?_
 refine w_seq ?_
 refine w_seq ?_
 refine w_run mo (by rw [hN]; decide) fun K hK => ?_
 simp [-guardE_b, -Is_at, -Is_at', -Ls_at, -Ls_at', eL, eI, allInts, eP_Cat, Cat.cells]
 repeat (with_reducible refine And.intro ?_ ?_; · first | assumption | omega | (simp; done) | (simp; omega) | simp_all)
 replace h := bind_some h
 obtain ⟨v3, hv3, h⟩ := h
 refine callA_intro (w_i_Category_hom _ _ _ v3 hv3) (.cons (.preT (by simp [Cat.cells])) (.cons .val (.cons .val .nil))) ?_
 simp [-guardE_b, -Is_at, -Is_at', -Ls_at, -Ls_at', unk, unA, unE, unT, unC, flat, eL, eI, allInts, eP_Cat, Cat.cells]
 repeat (with_reducible refine And.intro ?_ ?_; · first | assumption | omega | (simp; done) | (simp; omega) | simp_all)
 refine hK _ ?_
 clear hK K
 refine tn ?_
 refine w_weak (st' := ⟨[(0, .rptr [.val (.int .i64 c_.n), .lst true 1 (Is c_.fr), .lst true 1 (Is c_.to), .lst true 1 (Is c_.id), .lst true 1 (Ls c_.cs)]), (1, .val (.int .i64 f_)), (5, .val (.int .i64 (ix c_.fr f_))), (6, .val (.int .i64 (ix c_.to f_))), (26, .own 0 0 v3.length), (27, .val (.int .i64 (v3.length : Int))), (28, .val (.int .i64 0))], [(0, .row 1 (Is v3))], 1⟩) (Wk.rel [(0, 0)] (by simp) (by simp) (by rw [hP]; simp) (by simp) (by simp) (by simp [Cat.cells, Is_append, Is_one, Ls_append, Ls_one, Bs_append, Bs_one, Es_append, Es_one, Es_set', eB, eI, eL]) (by simp [hhOk, back, Cat.cells, Is_append, Is_one, Ls_append, Ls_one, Bs_append, Bs_one, Es_append, Es_one, Es_set', eB, eI, eL])) ?_
 replace h := bind_some h
 obtain ⟨e4, h, h4⟩ := h
 refine w_joinT (fun b4 : Unit => ⟨[], [], 0⟩) (fun b4 => Sum.inl b4 = e4) ?_ ?_
 · refine w_block ?_
   refine w_loopF h (fun s15 : Int => ⟨[(0, .rptr [.val (.int .i64 c_.n), .lst true 1 (Is c_.fr), .lst true 1 (Is c_.to), .lst true 1 (Is c_.id), .lst true 1 (Ls c_.cs)]), (1, .val (.int .i64 f_)), (5, .val (.int .i64 (ix c_.fr f_))), (6, .val (.int .i64 (ix c_.to f_))), (26, .own 0 0 v3.length), (27, .val (.int .i64 (v3.length : Int))), (28, .val (.int .i64 s15))], [(0, .row 1 (Is v3))], 1⟩) (Wk.rel [(0, 0)] (by simp) (by simp) (by rw [hP]; simp) (by simp) (by simp) (by simp [Cat.cells, Is_append, Is_one, Ls_append, Ls_one, Bs_append, Bs_one, Es_append, Es_one, Es_set', eB, eI, eL]) (by simp [hhOk, back, Cat.cells, Is_append, Is_one, Ls_append, Ls_one, Bs_append, Bs_one, Es_append, Es_one, Es_set', eB, eI, eL])) ?_
   clear h
   intro k15 s15 c15 h hk15
   refine w_seq ?_
   refine w_run mo (by rw [hN]; decide) fun K hK => ?_
   simp [-guardE_b, -Is_at, -Is_at', -Ls_at, -Ls_at', eL, eI, allInts, eP_Cat, Cat.cells]
   repeat (with_reducible refine And.intro ?_ ?_; · first | assumption | omega | (simp; done) | (simp; omega) | simp_all)
   refine hK _ ?_
   clear hK K
   refine tn ?_
   refine w_weak (st' := ⟨[(0, .rptr [.val (.int .i64 c_.n), .lst true 1 (Is c_.fr), .lst true 1 (Is c_.to), .lst true 1 (Is c_.id), .lst true 1 (Ls c_.cs)]), (1, .val (.int .i64 f_)), (5, .val (.int .i64 (ix c_.fr f_))), (6, .val (.int .i64 (ix c_.to f_))), (26, .own 0 0 v3.length), (27, .val (.int .i64 (v3.length : Int))), (28, .val (.int .i64 s15)), (29, .val (.bool (decide (s15 < (v3.length : Int)))))], [(0, .row 1 (Is v3))], 1⟩) (Wk.rel [(0, 0)] (by simp) (by simp) (by rw [hP]; simp) (by simp) (by simp) (by simp [Cat.cells, Is_append, Is_one, Ls_append, Ls_one, Bs_append, Bs_one, Es_append, Es_one, Es_set', eB, eI, eL]) (by simp [hhOk, back, Cat.cells, Is_append, Is_one, Ls_append, Ls_one, Bs_append, Bs_one, Es_append, Es_one, Es_set', eB, eI, eL])) ?_
   refine w_seq ?_
   refine w_cond rfl (fun g => ?_) fun g => ?_
   · have g16 : s15 < (v3.length : Int) := by first | simpa using g | (simp at g; exact g) | (simp at g; omega)
     clear g
     replace h := if_l g16 h
     refine w_skip ?_
     refine tn ?_
     refine w_seq ?_
     refine w_block ?_
     refine w_seq ?_
     refine w_run mo (by rw [hN]; decide) fun K hK => ?_
     replace h := ass_some h
     obtain ⟨a17, h⟩ := h
     simp [-guardE_b, -Is_at, -Is_at', -Ls_at, -Ls_at', eL, eI, allInts, eP_Cat, Cat.cells, at_I a17]
     repeat (with_reducible refine And.intro ?_ ?_; · first | assumption | omega | (simp; done) | (simp; omega) | simp_all)
     refine hK _ ?_
     clear hK K
     refine tn ?_
     refine w_weak (st' := ⟨[(0, .rptr [.val (.int .i64 c_.n), .lst true 1 (Is c_.fr), .lst true 1 (Is c_.to), .lst true 1 (Is c_.id), .lst true 1 (Ls c_.cs)]), (1, .val (.int .i64 f_)), (5, .val (.int .i64 (ix c_.fr f_))), (6, .val (.int .i64 (ix c_.to f_))), (8, .val (.int .i64 (ix v3 s15))), (26, .own 0 0 v3.length), (27, .val (.int .i64 (v3.length : Int))), (28, .val (.int .i64 s15))], [(0, .row 1 (Is v3))], 1⟩) (Wk.rel [(0, 0)] (by simp) (by simp) (by rw [hP]; simp) (by simp) (by simp) (by simp [Cat.cells, Is_append, Is_one, Ls_append, Ls_one, Bs_append, Bs_one, Es_append, Es_one, Es_set', eB, eI, eL]) (by simp [hhOk, back, Cat.cells, Is_append, Is_one, Ls_append, Ls_one, Bs_append, Bs_one, Es_append, Es_one, Es_set', eB, eI, eL])) ?_
     refine w_seq ?_
     replace h := bind_some h
     obtain ⟨e18, h, h18⟩ := h
     refine w_joinT (fun b18 : Bool => ⟨[(0, .rptr [.val (.int .i64 c_.n), .lst true 1 (Is c_.fr), .lst true 1 (Is c_.to), .lst true 1 (Is c_.id), .lst true 1 (Ls c_.cs)]), (1, .val (.int .i64 f_)), (5, .val (.int .i64 (ix c_.fr f_))), (6, .val (.int .i64 (ix c_.to f_))), (8, .val (.int .i64 (ix v3 s15))), (26, .own 0 0 v3.length), (27, .val (.int .i64 (v3.length : Int))), (28, .val (.int .i64 s15)), (57, .val (.bool b18))], [(0, .row 1 (Is v3))], 1⟩) (fun b18 => b18 = e18) ?_ ?_
     · refine w_run mo (by rw [hN]; decide) fun K hK => ?_
       simp [-guardE_b, -Is_at, -Is_at', -Ls_at, -Ls_at', eL, eI, allInts, eP_Cat, Cat.cells]
       repeat (with_reducible refine And.intro ?_ ?_; · first | assumption | omega | (simp; done) | (simp; omega) | simp_all)
       replace h := bind_some h
       obtain ⟨v19, hv19, h⟩ := h
       refine callA_intro (w_i_Category_then _ _ _ v19 hv19) (.cons (.preT (by simp [Cat.cells])) (.cons .val (.cons .val .nil))) ?_
       replace h := ass_some h
       obtain ⟨a20, h⟩ := h
       simp [-guardE_b, -Is_at, -Is_at', -Ls_at, -Ls_at', unk, unA, unE, unT, unC, flat, eL, eI, allInts, eP_Cat, Cat.cells, at_I a20]
       repeat (with_reducible refine And.intro ?_ ?_; · first | assumption | omega | (simp; done) | (simp; omega) | simp_all)
       refine guard_intro (fun g => ?_) (fun g => ?_)
       · have g21 : v19 = (ix c_.id (ix c_.fr f_)) := by first | simpa using g | (simp at g; exact g) | (simp at g; omega)
         clear g
         replace h := if_l g21 h
         simp [-guardE_b, -Is_at, -Is_at', -Ls_at, -Ls_at', eL, eI, allInts, eP_Cat, Cat.cells]
         repeat (with_reducible refine And.intro ?_ ?_; · first | assumption | omega | (simp; done) | (simp; omega) | simp_all)
         replace h := bind_some h
         obtain ⟨v22, hv22, h⟩ := h
         refine callA_intro (w_i_Category_then _ _ _ v22 hv22) (.cons (.preT (by simp [Cat.cells])) (.cons .val (.cons .val .nil))) ?_
         replace h := ass_some h
         obtain ⟨a23, h⟩ := h
         simp [-guardE_b, -Is_at, -Is_at', -Ls_at, -Ls_at', unk, unA, unE, unT, unC, flat, eL, eI, allInts, eP_Cat, Cat.cells, at_I a23]
         repeat (with_reducible refine And.intro ?_ ?_; · first | assumption | omega | (simp; done) | (simp; omega) | simp_all)
         refine hK _ ?_
         exact jn (b := v22 == (ix c_.id (ix c_.to f_))) (Option.some.inj h) (Wk.rel [(0, 0)] (by simp) (by simp) (by rw [hP]; simp) (by simp) (by simp) (by simp [Cat.cells, Is_append, Is_one, Ls_append, Ls_one, Bs_append, Bs_one, Es_append, Es_one, Es_set', eB, eI, eL]) (by simp [hhOk, back, Cat.cells, Is_append, Is_one, Ls_append, Ls_one, Bs_append, Bs_one, Es_append, Es_one, Es_set', eB, eI, eL]))
       have g21 : ¬ (v19 = (ix c_.id (ix c_.fr f_))) := by first | simpa using g | (simp at g; exact g) | (simp at g; omega)
       clear g
       replace h := if_r g21 h
       simp [-guardE_b, -Is_at, -Is_at', -Ls_at, -Ls_at', eL, eI, allInts, eP_Cat, Cat.cells]
       repeat (with_reducible refine And.intro ?_ ?_; · first | assumption | omega | (simp; done) | (simp; omega) | simp_all)
       refine hK _ ?_
       exact jn (b := false) (Option.some.inj h) (Wk.rel [(0, 0)] (by simp) (by simp) (by rw [hP]; simp) (by simp) (by simp) (by simp [Cat.cells, Is_append, Is_one, Ls_append, Ls_one, Bs_append, Bs_one, Es_append, Es_one, Es_set', eB, eI, eL]) (by simp [hhOk, back, Cat.cells, Is_append, Is_one, Ls_append, Ls_one, Bs_append, Bs_one, Es_append, Es_one, Es_set', eB, eI, eL]))
     intro b18 hb18
     have h := h18
     rw [← hb18] at h
     clear h18
     try dsimp only at h
     refine w_cond rfl (fun g => ?_) fun g => ?_
     · have g24 : b18 = true := by first | simpa using g | (simp at g; exact g) | (simp at g; omega)
       clear g
       replace h := if_l g24 h
       refine w_seq ?_
       refine w_run mo (by rw [hN]; decide) fun K hK => ?_
       simp [-guardE_b, -Is_at, -Is_at', -Ls_at, -Ls_at', eL, eI, allInts, eP_Cat, Cat.cells]
       repeat (with_reducible refine And.intro ?_ ?_; · first | assumption | omega | (simp; done) | (simp; omega) | simp_all)
       refine hK _ ?_
       clear hK K
       refine tn ?_
       refine w_weak (st' := ⟨[(4, .val (.int .i64 (ix v3 s15)))], [], 0⟩) (Wk.rel [] (by simp) (by simp) (by rw [hP]; simp) (by simp) (by simp) (by simp [Cat.cells, Is_append, Is_one, Ls_append, Ls_one, Bs_append, Bs_one, Es_append, Es_one, Es_set', eB, eI, eL]) (by simp [hhOk, back, Cat.cells, Is_append, Is_one, Ls_append, Ls_one, Bs_append, Bs_one, Es_append, Es_one, Es_set', eB, eI, eL])) ?_
       refine w_ret ?_
       refine br ?_
       refine tr ?_
       refine lr ?_
       refine br ?_
       refine tr ?_
       cases h
       have q : _ = e4 := hk15
       have h := h4
       rw [← q] at h
       clear q
       try dsimp only at h
       have hr := Option.some.inj h
       rw [← hr]
       refine ⟨_, (.tmp .nil), ?_⟩
       refine ⟨(.one rfl rfl .nil), [.val (.int .i64 (ix v3 s15))], [], by simp [Cat.cells, Is_append, Is_one, Ls_append, Ls_one, Bs_append, Bs_one, Es_append, Es_one, Es_set', eB, eI, eL], by simp, (UpL.refl _)⟩
     have g24 : ¬ (b18 = true) := by first | simpa using g | (simp at g; exact g) | (simp at g; omega)
     clear g
     replace h := if_r g24 h
     refine w_skip ?_
     refine bn ?_
     refine tn ?_
     refine w_run mo (by rw [hN]; decide) fun K hK => ?_
     replace h := ass_some h
     obtain ⟨a25, h⟩ := h
     simp [-guardE_b, -Is_at, -Is_at', -Ls_at, -Ls_at', eL, eI, allInts, eP_Cat, Cat.cells, wrap_id a25]
     repeat (with_reducible refine And.intro ?_ ?_; · first | assumption | omega | (simp; done) | (simp; omega) | simp_all)
     refine hK _ ?_
     clear hK K
     cases h
     exact rn (s' := s15 + 1) hk15 (Wk.rel [(0, 0)] (by simp) (by simp) (by rw [hP]; simp) (by simp) (by simp) (by simp [Cat.cells, Is_append, Is_one, Ls_append, Ls_one, Bs_append, Bs_one, Es_append, Es_one, Es_set', eB, eI, eL]) (by simp [hhOk, back, Cat.cells, Is_append, Is_one, Ls_append, Ls_one, Bs_append, Bs_one, Es_append, Es_one, Es_set', eB, eI, eL]))
   have g16 : ¬ (s15 < (v3.length : Int)) := by first | simpa using g | (simp at g; exact g) | (simp at g; omega)
   clear g
   replace h := if_r g16 h
   refine w_exit ?_
   refine tx ?_
   refine lx ?_
   refine bh ?_
   cases h
   exact jn (b := ()) hk15 (Wk.rel [] (by simp) (by simp) (by rw [hP]; simp) (by simp) (by simp) (by simp [Cat.cells, Is_append, Is_one, Ls_append, Ls_one, Bs_append, Bs_one, Es_append, Es_one, Es_set', eB, eI, eL]) (by simp [hhOk, back, Cat.cells, Is_append, Is_one, Ls_append, Ls_one, Bs_append, Bs_one, Es_append, Es_one, Es_set', eB, eI, eL]))
 intro b4 hb4
 have h := h4
 rw [← hb4] at h
 clear h4
 try dsimp only at h
 refine w_seq ?_
 refine w_run mo (by rw [hN]; decide) fun K hK => ?_
 simp [-guardE_b, -Is_at, -Is_at', -Ls_at, -Ls_at', eL, eI, allInts, eP_Cat, Cat.cells]
 repeat (with_reducible refine And.intro ?_ ?_; · first | assumption | omega | (simp; done) | (simp; omega) | simp_all)
 refine hK _ ?_
 clear hK K
 refine tn ?_
 refine w_weak (st' := ⟨[(4, .val (.int .i64 (-1)))], [], 0⟩) (Wk.rel [] (by simp) (by simp) (by rw [hP]; simp) (by simp) (by simp) (by simp [Cat.cells, Is_append, Is_one, Ls_append, Ls_one, Bs_append, Bs_one, Es_append, Es_one, Es_set', eB, eI, eL]) (by simp [hhOk, back, Cat.cells, Is_append, Is_one, Ls_append, Ls_one, Bs_append, Bs_one, Es_append, Es_one, Es_set', eB, eI, eL])) ?_
 refine w_ret ?_
 have hr := Option.some.inj h
 rw [← hr]
 refine ⟨_, (.tmp .nil), ?_⟩
 refine ⟨(.one rfl rfl .nil), [.val (.int .i64 (-1))], [], by simp [Cat.cells, Is_append, Is_one, Ls_append, Ls_one, Bs_append, Bs_one, Es_append, Es_one, Es_set', eB, eI, eL], by simp, (UpL.refl _)⟩
end Go.Vc.T

set_option maxRecDepth 100000
set_option linter.unusedSimpArgs false
set_option linter.unusedVariables false
namespace Go.Vc.T
open Go Go.Vc Go.Proofs
noncomputable def flt (n : Nat) (p : Nat → Prop) : List Int := ((List.range n).filter fun i => bo (p i)).map Int.ofNat
noncomputable def fstN (n : Nat) (p : Nat → Prop) : Int := (((List.range n).find? fun i => bo (p i)).map Int.ofNat).getD (-1)
theorem flt_pos {n : Nat} {p : Nat → Prop} (h : p n) : flt (n + 1) p = flt n p ++ [(n : Int)] := by simp [flt, List.range_succ, bo_pos h]
theorem flt_neg {n : Nat} {p : Nat → Prop} (h : ¬ p n) : flt (n + 1) p = flt n p := by simp [flt, List.range_succ, bo_neg h]
theorem flt_len (n : Nat) (p : Nat → Prop) : (flt n p).length ≤ n := by
 unfold flt
 rw [List.length_map]
 exact Nat.le_trans (List.length_filter_le _ _) (by simp)
theorem mem_flt {n : Nat} {p : Nat → Prop} {x : Int} : x ∈ flt n p ↔ ∃ i : Nat, i < n ∧ p i ∧ x = (i : Int) := by
 simp only [flt, List.mem_map, List.mem_filter, List.mem_range, bo_tt]
 constructor
 · rintro ⟨i, ⟨h1, h2⟩, rfl⟩; exact ⟨i, h1, h2, rfl⟩
 rintro ⟨i, h1, h2, rfl⟩; exact ⟨i, ⟨h1, h2⟩, rfl⟩
theorem ix_flt {n : Nat} {p : Nat → Prop} {i : Nat} (h : i < (flt n p).length) : ∃ k : Nat, k < n ∧ p k ∧ ix (flt n p) i = (k : Int) := by
 have := List.getElem_mem h
 rw [at_ix _ _ h] at this
 exact mem_flt.1 this
theorem first_congr {n : Nat} {p q : Nat → Prop} (h : ∀ i, i < n → (p i ↔ q i)) : fstN n p = fstN n q := by
 unfold fstN
 congr 2
 induction n with
 | zero => rfl
 | succ n ih =>
   rw [List.range_succ, List.find?_append, List.find?_append, ih fun i hi => h i (by omega)]
   simp only [List.find?_cons, List.find?_nil, bo_iff2 (h n (by omega))]
theorem first_flt (n : Nat) (p : Nat → Prop) (q : Int → Prop) : ((flt n p).find? fun v => bo (q v)).getD (-1) = fstN n fun i => p i ∧ q i := by
 unfold flt fstN
 rw [List.find?_map, List.find?_filter]
 congr 3
 funext i
 by_cases h1 : p i <;> by_cases h2 : q i <;> simp [bo, h1, h2]
theorem find_loop {ε : Type} {body : Int → Option (Ctl Int ε)} (xs : List Int) (q : Int → Prop) {eb : Int → ε} {eg : ε} (hn : xs.length < 4611686018427387904) (h1 : ∀ i : Nat, i < xs.length → ¬ q (ix xs i) → body (i : Int) = some (.next ((i : Int) + 1))) (h2 : ∀ i : Nat, i < xs.length → q (ix xs i) → body (i : Int) = some (.ret (eb (ix xs i)))) (h3 : body (xs.length : Int) = some (.ret eg)) :
   loopF body fuel 0 = some (((xs.find? fun v => bo (q v)).map eb).getD eg) := by
 rcases loop_fst (body := body) xs.length (fun i => ¬ q (ix xs i)) (eb := fun i => eb (ix xs i)) (eg := eg) hn h1 (fun i hi h => h2 i hi (Classical.byContradiction h)) h3 with ⟨h, e⟩ | ⟨m, hm, hq, hlt, e⟩
 · rw [e, List.find?_eq_none.2 fun x hx => ?_]
   · rfl
   obtain ⟨i, hi, rfl⟩ := List.getElem_of_mem hx
   have := h i hi
   rw [← at_ix _ _ hi] at this
   simpa [bo_tt] using this
 rw [e, show (xs.find? fun v => bo (q v)) = some (ix xs m) from List.find?_eq_some_iff_getElem.2 ⟨by rw [bo_tt]; exact Classical.byContradiction hq, m, hm, at_ix _ _ hm, fun j hj => ?_⟩]
 · rfl
 have := hlt j hj
 rw [← at_ix _ _ (by omega)] at this
 simp [bo_neg this]
theorem find_bind {ε : Type} {body : Int → Option (Ctl Int ε)} {K : ε → Option Int} {xs : List Int} (n : Nat) (p : Nat → Prop) (q : Int → Prop) {eb : Int → ε} {eg : ε} (hx : xs = flt n p) (hn : n < 4611686018427387904)
   (h1 : ∀ i k : Nat, i < xs.length → i < n → k < n → p k → ix xs i = (k : Int) → ¬ q k → body (i : Int) = some (.next ((i : Int) + 1))) (h2 : ∀ i k : Nat, i < xs.length → i < n → k < n → p k → ix xs i = (k : Int) → q k → body (i : Int) = some (.ret (eb k))) (h3 : body (xs.length : Int) = some (.ret eg))
   (hb : ∀ v, K (eb v) = some v) (hg : K eg = some (-1)) : (loopF body fuel 0).bind K = some (fstN n fun i => p i ∧ q i) := by
 subst hx
 have hl := flt_len n p
 rw [find_loop (flt n p) q (eb := eb) (eg := eg) (by omega) (fun i hi h => ?_) (fun i hi h => ?_) h3, ← first_flt]
 · cases (flt n p).find? fun v => bo (q v) with
   | none => exact hg
   | some v => exact hb v
 · obtain ⟨k, k1, k2, k3⟩ := ix_flt hi
   rw [k3] at h
   exact h1 i k hi (by omega) k1 k2 k3 h
 obtain ⟨k, k1, k2, k3⟩ := ix_flt hi
 rw [k3] at h ⊢
 exact h2 i k hi (by omega) k1 k2 k3 h
theorem acx_bind {α ε β : Type} {body : α × Int → Option (Ctl (α × Int) ε)} {K : ε → Option β} {r : Option β} {a0 : α} (n : Nat) (p : Nat → Prop) (g : Nat → α) {e eb : ε} (h0 : a0 = g 0) (hn : n < 4611686018427387904) (h1 : ∀ i : Nat, i < n → p i → body (g i, (i : Int)) = some (.next (g (i + 1), (i : Int) + 1))) (h2 : ∀ i : Nat, i < n → ¬ p i → body (g i, (i : Int)) = some (.ret eb)) (he : body (g n, (n : Int)) = some (.ret e))
   (hb : (¬ ∀ i : Nat, i < n → p i) → K eb = r) (hg : (∀ i : Nat, i < n → p i) → K e = r) : (loopF body fuel (a0, 0)).bind K = r := by
 subst h0
 by_cases h : ∀ i : Nat, i < n → p i
 · rw [show loopF body fuel (g 0, 0) = some e from loop_run (fun i : Nat => (g i, (i : Int))) n rfl hn (fun i hi => h1 i hi (h i hi)) he]; exact hg h
 have hex : ∃ i, i < n ∧ ¬ p i := Classical.byContradiction fun hx => h fun i hi => Classical.byContradiction fun hp => hx ⟨i, hi, hp⟩
 obtain ⟨m, ⟨hm, hp⟩, hmin⟩ : ∃ m, (m < n ∧ ¬ p m) ∧ ∀ k, k < m → ¬ (k < n ∧ ¬ p k) := by
   obtain ⟨i, hi⟩ := hex
   induction i using Nat.strongRecOn with
   | _ i ih =>
     by_cases h : ∃ k, k < i ∧ k < n ∧ ¬ p k
     · obtain ⟨k, h1, h2⟩ := h; exact ih k h1 h2
     exact ⟨i, hi, fun k hk hh => h ⟨k, hk, hh⟩⟩
 rw [show loopF body fuel (g 0, 0) = some eb from loop_run (fun i : Nat => (g i, (i : Int))) m rfl (by omega) (fun i hi => h1 i (by omega) (Classical.byContradiction fun hh => hmin i hi ⟨by omega, hh⟩)) (h2 m hm hp)]
 exact hb h
theorem e_hom {c : Cat} (h : c.Is) (x y : Int) : s_i_Category_hom c x y = some (flt c.fr.length fun a => ix c.fr a = x ∧ ix c.to a = y) := by
 have k1 := h.1.lt
 have k2 := h.1.m40
 unfold s_i_Category_hom
 refine acc_bind c.fr.length (fun i => flt i fun a => ix c.fr a = x ∧ ix c.to a = y) (e := flt c.fr.length fun a => ix c.fr a = x ∧ ix c.to a = y) rfl (by omega) (fun i hi => ?_) (by simp) rfl
 have hl := flt_len i fun a => ix c.fr a = x ∧ ix c.to a = y
 by_cases h1 : ix c.fr i = x
 · by_cases h2 : ix c.to i = y
   · rw [flt_pos ⟨h1, h2⟩]; simp (disch := omega) [ass_pos, B64, h1, h2]; try omega
   rw [flt_neg fun q => h2 q.2]; simp (disch := omega) [ass_pos, B64, h1, h2]; try omega
 rw [flt_neg fun q => h1 q.1]; simp (disch := omega) [ass_pos, B64, h1]; try omega
def Inv (c : Cat) (f : Int) (g : Nat) : Prop := (ix c.fr g = ix c.to f ∧ ix c.to g = ix c.fr f) ∧ ix (rx c.cs f) g = ix c.id (ix c.fr f) ∧ ix (rx c.cs g) f = ix c.id (ix c.to f)
noncomputable def inv (c : Cat) (f : Int) : Int := fstN c.fr.length (Inv c f)
theorem e_inverse {c : Cat} (h : c.Is) {f : Int} (h0 : 0 ≤ f) (h1 : f < c.fr.length) : s_i_Category_inverse c f = some (inv c f) := by
 have k1 := h.1.lt
 have k2 := h.1.m40
 have k3 := h.1.lc
 have k4 := h.1.li
 have f1 := h.1.fr' h0 h1
 have f2 := h.1.to' h0 h1
 have f3 := h.1.row' h0 h1
 unfold s_i_Category_inverse
 rw [ass_pos ⟨h0, h1⟩, ass_pos (by omega), e_hom h]
 simp only [Option.bind_some]
 refine find_bind c.fr.length _ (fun g => ix (rx c.cs f) g = ix c.id (ix c.fr f) ∧ ix (rx c.cs g) f = ix c.id (ix c.to f)) (eb := fun v => Sum.inr v) (eg := Sum.inl ()) rfl (by omega) (fun i k hi hn hk hp hix hq => ?_) (fun i k hi hn hk hp hix hq => ?_) (by simp) (fun v => rfl) rfl
 · have f4 := h.1.row' (j := k) (by omega) (by omega)
   by_cases hq1 : ix (rx c.cs f) k = ix c.id (ix c.fr f)
   · have hq2 : ¬ ix (rx c.cs k) f = ix c.id (ix c.to f) := fun q => hq ⟨hq1, q⟩
     simp (disch := omega) [ass_pos, B64, e_Cthen, hix, hq1, hq2, hi]; try omega
   simp (disch := omega) [ass_pos, B64, e_Cthen, hix, hq1, hi]; try omega
 have f4 := h.1.row' (j := k) (by omega) (by omega)
 simp (disch := omega) [ass_pos, B64, e_Cthen, hix, hq.1, hq.2, hi]; try omega
theorem e_l05Inverse {c : Cat} (h : c.Is) {f : Int} (h0 : 0 ≤ f) (h1 : f < c.fr.length) : s_s_l05Inverse c f = some (inv c f) := by
 have k1 := h.1.lt
 have k2 := h.1.m40
 have k3 := h.1.lc
 have k4 := h.1.li
 have f1 := h.1.fr' h0 h1
 have f2 := h.1.to' h0 h1
 have f3 := h.1.row' h0 h1
 have er : s_s_l05Retractions c f = some (flt c.fr.length fun g => ix c.fr g = ix c.to f ∧ ix c.to g = ix c.fr f ∧ ix (rx c.cs f) g = ix c.id (ix c.fr f)) := by
   unfold s_s_l05Retractions
   refine acc_bind c.fr.length (fun i => flt i fun g => ix c.fr g = ix c.to f ∧ ix c.to g = ix c.fr f ∧ ix (rx c.cs f) g = ix c.id (ix c.fr f)) (e := flt c.fr.length fun g => ix c.fr g = ix c.to f ∧ ix c.to g = ix c.fr f ∧ ix (rx c.cs f) g = ix c.id (ix c.fr f)) rfl (by omega) (fun i hi => ?_) (by simp) rfl
   have hl := flt_len i fun g => ix c.fr g = ix c.to f ∧ ix c.to g = ix c.fr f ∧ ix (rx c.cs f) g = ix c.id (ix c.fr f)
   by_cases h1 : ix c.fr i = ix c.to f
   · by_cases h2 : ix c.to i = ix c.fr f
     · by_cases h3 : ix (rx c.cs f) i = ix c.id (ix c.fr f)
       · rw [flt_pos ⟨h1, h2, h3⟩]; simp (disch := omega) [ass_pos, B64, h1, h2, h3]; try omega
       rw [flt_neg fun q => h3 q.2.2]; simp (disch := omega) [ass_pos, B64, h1, h2, h3]; try omega
     rw [flt_neg fun q => h2 q.2.1]; simp (disch := omega) [ass_pos, B64, h1, h2]; try omega
   rw [flt_neg fun q => h1 q.1]; simp (disch := omega) [ass_pos, B64, h1]; try omega
 have es : s_s_l05Sections c f = some (flt c.fr.length fun g => ix c.fr g = ix c.to f ∧ ix c.to g = ix c.fr f ∧ ix (rx c.cs g) f = ix c.id (ix c.to f)) := by
   unfold s_s_l05Sections
   refine acc_bind c.fr.length (fun i => flt i fun g => ix c.fr g = ix c.to f ∧ ix c.to g = ix c.fr f ∧ ix (rx c.cs g) f = ix c.id (ix c.to f)) (e := flt c.fr.length fun g => ix c.fr g = ix c.to f ∧ ix c.to g = ix c.fr f ∧ ix (rx c.cs g) f = ix c.id (ix c.to f)) rfl (by omega) (fun i hi => ?_) (by simp) rfl
   have hl := flt_len i fun g => ix c.fr g = ix c.to f ∧ ix c.to g = ix c.fr f ∧ ix (rx c.cs g) f = ix c.id (ix c.to f)
   have f4 := h.1.row' (j := i) (by omega) (by omega)
   by_cases h1 : ix c.fr i = ix c.to f
   · by_cases h2 : ix c.to i = ix c.fr f
     · by_cases h3 : ix (rx c.cs i) f = ix c.id (ix c.to f)
       · rw [flt_pos ⟨h1, h2, h3⟩]; simp (disch := omega) [ass_pos, B64, h1, h2, h3]; try omega
       rw [flt_neg fun q => h3 q.2.2]; simp (disch := omega) [ass_pos, B64, h1, h2, h3]; try omega
     rw [flt_neg fun q => h2 q.2.1]; simp (disch := omega) [ass_pos, B64, h1, h2]; try omega
   rw [flt_neg fun q => h1 q.1]; simp (disch := omega) [ass_pos, B64, h1]; try omega
 unfold s_s_l05Inverse
 rw [er, es]
 simp only [Option.bind_some]
 have key : inv c f = fstN c.fr.length fun i => (ix c.fr i = ix c.to f ∧ ix c.to i = ix c.fr f ∧ ix (rx c.cs f) i = ix c.id (ix c.fr f)) ∧ (i : Int) ∈ flt c.fr.length fun g => ix c.fr g = ix c.to f ∧ ix c.to g = ix c.fr f ∧ ix (rx c.cs g) f = ix c.id (ix c.to f) := by
   refine first_congr fun i hi => ?_
   rw [mem_flt]
   constructor
   · rintro ⟨⟨a, b⟩, c, d⟩; exact ⟨⟨a, b, c⟩, i, hi, ⟨a, b, d⟩, rfl⟩
   rintro ⟨⟨a, b, c⟩, j, hj, ⟨d, e, g⟩, hij⟩
   obtain rfl : i = j := by omega
   exact ⟨⟨a, b⟩, c, g⟩
 rw [key]
 refine find_bind c.fr.length _ (fun v => v ∈ flt c.fr.length fun g => ix c.fr g = ix c.to f ∧ ix c.to g = ix c.fr f ∧ ix (rx c.cs g) f = ix c.id (ix c.to f)) (eb := fun v => Sum.inr v) (eg := Sum.inl ()) rfl (by omega) (fun i k hi hn hk hp hix hq => ?_) (fun i k hi hn hk hp hix hq => ?_) (by simp) (fun v => rfl) rfl
 · simp (disch := omega) [ass_pos, B64, s_s_l01Has, hix, bo_neg hq, hi]; try omega
 simp (disch := omega) [ass_pos, B64, s_s_l01Has, hix, bo_pos hq, hi]; try omega
end Go.Vc.T

set_option maxRecDepth 100000
set_option linter.unusedSimpArgs false
set_option linter.unusedVariables false
namespace Go.Vc.T
open Go Go.Vc Go.Proofs
noncomputable def s_s_l07Is (t_ : Tra) : Option Bool :=
 (
   (s_s_l07Shape t_).bind fun v2 =>
   if v2 = true then
     (s_s_l07Fault t_.s t_.t t_.p).bind fun v4 =>
     some (decide (v4 < 0))
   else
     some false : Option (Bool)).bind fun b1 =>
 some b1
set_option maxHeartbeats 4000000 in
theorem w_s_l07Is (t_ : Tra) (r : Bool) (h : s_s_l07Is t_ = some r) : Contract Try.prog 85 [.agg (t_.cells true)] (.val (.bool r)) := by
 refine contract_introG (rvs := [.tmp 2]) (rs := [.val (.bool r)]) Try.func85 rfl rfl rfl rfl (by simp [Try.f85]) fun F hN hP => ?_
 unfold s_s_l07Is at h
 refine w_seq ?_
 refine w_run mo (by rw [hN]; decide) fun K hK => ?_
 simp [-guardE_b, -Is_at, -Is_at', -Ls_at, -Ls_at', eL, eI, allInts, eP_Fn, eP_Tra, Fn.cells, Tra.cells]
 repeat (with_reducible refine And.intro ?_ ?_; · first | assumption | omega | (simp; done) | (simp; omega) | simp_all)
 refine hK _ ?_
 clear hK K
 refine tn ?_
 refine w_weak (st' := ⟨[(1, .adr 0 0 0)], [(0, .mix 25 [[.val (.int .i64 t_.s.s.n), .lst true 1 (Is t_.s.s.fr), .lst true 1 (Is t_.s.s.to), .lst true 1 (Is t_.s.s.id), .lst true 1 (Ls t_.s.s.cs), .val (.int .i64 t_.s.t.n), .lst true 1 (Is t_.s.t.fr), .lst true 1 (Is t_.s.t.to), .lst true 1 (Is t_.s.t.id), .lst true 1 (Ls t_.s.t.cs), .lst true 1 (Is t_.s.ob), .lst true 1 (Is t_.s.ar), .val (.int .i64 t_.t.s.n), .lst true 1 (Is t_.t.s.fr), .lst true 1 (Is t_.t.s.to), .lst true 1 (Is t_.t.s.id), .lst true 1 (Ls t_.t.s.cs), .val (.int .i64 t_.t.t.n), .lst true 1 (Is t_.t.t.fr), .lst true 1 (Is t_.t.t.to), .lst true 1 (Is t_.t.t.id), .lst true 1 (Ls t_.t.t.cs), .lst true 1 (Is t_.t.ob), .lst true 1 (Is t_.t.ar), .lst true 1 (Is t_.p)]])], 1⟩) (Wk.rel [(0, 0)] (by simp) (by simp) (by rw [hP]; simp) (by simp) (by simp) (by simp [Fn.cells, Tra.cells, Is_append, Is_one, Ls_append, Ls_one, Bs_append, Bs_one, Es_append, Es_one, Es_set', eB, eI, eL]) (by simp [hhOk, back, Fn.cells, Tra.cells, Is_append, Is_one, Ls_append, Ls_one, Bs_append, Bs_one, Es_append, Es_one, Es_set', eB, eI, eL])) ?_
 refine w_seq ?_
 replace h := bind_some h
 obtain ⟨e1, h, h1⟩ := h
 refine w_joinT (fun b1 : Bool => ⟨[(2, .val (.bool b1))], [], 0⟩) (fun b1 => b1 = e1) ?_ ?_
 · refine w_run mo (by rw [hN]; decide) fun K hK => ?_
   simp [-guardE_b, -Is_at, -Is_at', -Ls_at, -Ls_at', eL, eI, allInts, eP_Fn, eP_Tra, Fn.cells, Tra.cells]
   repeat (with_reducible refine And.intro ?_ ?_; · first | assumption | omega | (simp; done) | (simp; omega) | simp_all)
   replace h := bind_some h
   obtain ⟨v2, hv2, h⟩ := h
   refine callA_intro (w_s_l07Shape _ v2 hv2) (.cons (.aggL (.cons .val (.cons .lst (.cons .lst (.cons .lst (.cons .lst (.cons .val (.cons .lst (.cons .lst (.cons .lst (.cons .lst (.cons .lst (.cons .lst (.cons .val (.cons .lst (.cons .lst (.cons .lst (.cons .lst (.cons .val (.cons .lst (.cons .lst (.cons .lst (.cons .lst (.cons .lst (.cons .lst (.cons .lst .nil)))))))))))))))))))))))))) .nil) ?_
   simp [-guardE_b, -Is_at, -Is_at', -Ls_at, -Ls_at', unk, unA, unE, unT, unC, flat, eL, eI, allInts, eP_Fn, eP_Tra, Fn.cells, Tra.cells]
   repeat (with_reducible refine And.intro ?_ ?_; · first | assumption | omega | (simp; done) | (simp; omega) | simp_all)
   refine guard_intro (fun g => ?_) (fun g => ?_)
   · have g3 : v2 = true := by first | simpa using g | (simp at g; exact g) | (simp at g; omega)
     clear g
     replace h := if_l g3 h
     simp [-guardE_b, -Is_at, -Is_at', -Ls_at, -Ls_at', eL, eI, allInts, eP_Fn, eP_Tra, Fn.cells, Tra.cells]
     repeat (with_reducible refine And.intro ?_ ?_; · first | assumption | omega | (simp; done) | (simp; omega) | simp_all)
     replace h := bind_some h
     obtain ⟨v4, hv4, h⟩ := h
     refine callA_intro (w_s_l07Fault _ _ _ v4 hv4) (.cons (.aggL (.cons .val (.cons .lst (.cons .lst (.cons .lst (.cons .lst (.cons .val (.cons .lst (.cons .lst (.cons .lst (.cons .lst (.cons .lst (.cons .lst .nil))))))))))))) (.cons (.aggL (.cons .val (.cons .lst (.cons .lst (.cons .lst (.cons .lst (.cons .val (.cons .lst (.cons .lst (.cons .lst (.cons .lst (.cons .lst (.cons .lst .nil))))))))))))) (.cons .lst .nil))) ?_
     simp [-guardE_b, -Is_at, -Is_at', -Ls_at, -Ls_at', unk, unA, unE, unT, unC, flat, eL, eI, allInts, eP_Fn, eP_Tra, Fn.cells, Tra.cells]
     repeat (with_reducible refine And.intro ?_ ?_; · first | assumption | omega | (simp; done) | (simp; omega) | simp_all)
     refine hK _ ?_
     exact jn (b := decide (v4 < 0)) (Option.some.inj h) (Wk.rel [] (by simp) (by simp) (by rw [hP]; simp) (by simp) (by simp) (by simp [Fn.cells, Tra.cells, Is_append, Is_one, Ls_append, Ls_one, Bs_append, Bs_one, Es_append, Es_one, Es_set', eB, eI, eL]) (by simp [hhOk, back, Fn.cells, Tra.cells, Is_append, Is_one, Ls_append, Ls_one, Bs_append, Bs_one, Es_append, Es_one, Es_set', eB, eI, eL]))
   have g3 : ¬ (v2 = true) := by first | simpa using g | (simp at g; exact g) | (simp at g; omega)
   clear g
   replace h := if_r g3 h
   simp [-guardE_b, -Is_at, -Is_at', -Ls_at, -Ls_at', eL, eI, allInts, eP_Fn, eP_Tra, Fn.cells, Tra.cells]
   repeat (with_reducible refine And.intro ?_ ?_; · first | assumption | omega | (simp; done) | (simp; omega) | simp_all)
   refine hK _ ?_
   exact jn (b := false) (Option.some.inj h) (Wk.rel [] (by simp) (by simp) (by rw [hP]; simp) (by simp) (by simp) (by simp [Fn.cells, Tra.cells, Is_append, Is_one, Ls_append, Ls_one, Bs_append, Bs_one, Es_append, Es_one, Es_set', eB, eI, eL]) (by simp [hhOk, back, Fn.cells, Tra.cells, Is_append, Is_one, Ls_append, Ls_one, Bs_append, Bs_one, Es_append, Es_one, Es_set', eB, eI, eL]))
 intro b1 hb1
 have h := h1
 rw [← hb1] at h
 clear h1
 try dsimp only at h
 refine w_ret ?_
 have hr := Option.some.inj h
 rw [← hr]
 refine ⟨_, (.tmp .nil), ?_⟩
 refine ⟨(.one rfl rfl .nil), [.val (.bool b1)], [], by simp [Fn.cells, Tra.cells, Is_append, Is_one, Ls_append, Ls_one, Bs_append, Bs_one, Es_append, Es_one, Es_set', eB, eI, eL], by simp, (UpL.refl _)⟩
noncomputable def s_s_l07Inverse (d_ : Cat) (components_ : List Int) : Option (List Int × Bool) :=
 (loopF (σ := List Int × Int) (ε := (List Int) ⊕ (List Int × Bool)) (fun s8 =>
   if s8.2 < (components_.length : Int) then
     ass (0 ≤ s8.2 ∧ s8.2 < (components_.length : Int)) <|
     (s_s_l05Inverse d_ (ix components_ s8.2)).bind fun v11 =>
     if v11 < 0 then
       some (Ctl.ret (Sum.inr ([], false)))
     else
       ass ((s8.1 ++ [v11]).length ≤ 1073741824) <|
       ass (B64 (s8.2 + 1)) <|
       some (Ctl.next (s8.1 ++ [v11], s8.2 + 1))
   else
     some (Ctl.ret (Sum.inl s8.1))) fuel ([], 0)).bind fun e1 =>
 match e1 with
 | .inl b1 =>
   some (b1, true)
 | .inr p1 =>
   some p1
set_option maxHeartbeats 4000000 in
theorem w_s_l07Inverse (d_ : Cat) (components_ : List Int) (r : List Int × Bool) (h : s_s_l07Inverse d_ components_ = some r) : Contract Try.prog 86 [.agg (d_.cells true), .lst true 1 (Is components_)] (.tup [.lst true 1 (Is r.1), .val (.bool r.2)]) := by
 refine contract_introG (rvs := [.tmp 4, .tmp 5]) (rs := [.lst true 1 (Is r.1), .val (.bool r.2)]) Try.func86 rfl rfl rfl rfl (by simp [Try.f86]) fun F hN hP => ?_
 unfold s_s_l07Inverse at h
 refine w_seq ?_
 refine w_run mo (by rw [hN]; decide) fun K hK => ?_
 simp [-guardE_b, -Is_at, -Is_at', -Ls_at, -Ls_at', eL, eI, allInts, eP_Cat, Cat.cells]
 repeat (with_reducible refine And.intro ?_ ?_; · first | assumption | omega | (simp; done) | (simp; omega) | simp_all)
 refine hK _ ?_
 clear hK K
 refine tn ?_
 refine w_weak (st' := ⟨[(1, .lst true 1 (Is components_)), (2, .adr 0 0 0)], [(0, .mix 5 [[.val (.int .i64 d_.n), .lst true 1 (Is d_.fr), .lst true 1 (Is d_.to), .lst true 1 (Is d_.id), .lst true 1 (Ls d_.cs)]])], 1⟩) (Wk.rel [(0, 0)] (by simp) (by simp) (by rw [hP]; simp) (by simp) (by simp) (by simp [Cat.cells, Is_append, Is_one, Ls_append, Ls_one, Bs_append, Bs_one, Es_append, Es_one, Es_set', eB, eI, eL]) (by simp [hhOk, back, Cat.cells, Is_append, Is_one, Ls_append, Ls_one, Bs_append, Bs_one, Es_append, Es_one, Es_set', eB, eI, eL])) ?_
 refine w_seq ?_
 refine w_run mo (by rw [hN]; decide) fun K hK => ?_
 simp [-guardE_b, -Is_at, -Is_at', -Ls_at, -Ls_at', eL, eI, allInts, eP_Cat, Cat.cells]
 repeat (with_reducible refine And.intro ?_ ?_; · first | assumption | omega | (simp; done) | (simp; omega) | simp_all)
 refine hK _ ?_
 clear hK K
 refine tn ?_
 refine w_weak (st' := ⟨[(1, .lst true 1 (Is components_)), (2, .adr 0 0 0), (6, .own 1 0 0)], [(0, .mix 5 [[.val (.int .i64 d_.n), .lst true 1 (Is d_.fr), .lst true 1 (Is d_.to), .lst true 1 (Is d_.id), .lst true 1 (Ls d_.cs)]]), (1, .mix 1 [])], 2⟩) (Wk.rel [(0, 0), (1, 1)] (by simp) (by simp) (by rw [hP]; simp) (by simp) (by simp) (by simp [Cat.cells, Is_append, Is_one, Ls_append, Ls_one, Bs_append, Bs_one, Es_append, Es_one, Es_set', eB, eI, eL]) (by simp [hhOk, back, Cat.cells, Is_append, Is_one, Ls_append, Ls_one, Bs_append, Bs_one, Es_append, Es_one, Es_set', eB, eI, eL])) ?_
 refine w_seq ?_
 refine w_seq ?_
 refine w_run mo (by rw [hN]; decide) fun K hK => ?_
 simp [-guardE_b, -Is_at, -Is_at', -Ls_at, -Ls_at', eL, eI, allInts, eP_Cat, Cat.cells]
 repeat (with_reducible refine And.intro ?_ ?_; · first | assumption | omega | (simp; done) | (simp; omega) | simp_all)
 refine hK _ ?_
 clear hK K
 refine tn ?_
 refine w_weak (st' := ⟨[(1, .lst true 1 (Is components_)), (2, .adr 0 0 0), (6, .own 1 0 0), (7, .val (.int .i64 0))], [(0, .mix 5 [[.val (.int .i64 d_.n), .lst true 1 (Is d_.fr), .lst true 1 (Is d_.to), .lst true 1 (Is d_.id), .lst true 1 (Ls d_.cs)]]), (1, .mix 1 [])], 2⟩) (Wk.rel [(0, 0), (1, 1)] (by simp) (by simp) (by rw [hP]; simp) (by simp) (by simp) (by simp [Cat.cells, Is_append, Is_one, Ls_append, Ls_one, Bs_append, Bs_one, Es_append, Es_one, Es_set', eB, eI, eL]) (by simp [hhOk, back, Cat.cells, Is_append, Is_one, Ls_append, Ls_one, Bs_append, Bs_one, Es_append, Es_one, Es_set', eB, eI, eL])) ?_
 replace h := bind_some h
 obtain ⟨e1, h, h1⟩ := h
 refine w_joinT (fun b1 : List Int => ⟨[(6, .own 0 0 b1.length)], [(0, .row 1 (Is b1))], 1⟩) (fun b1 => Sum.inl b1 = e1) ?_ ?_
 · refine w_block ?_
   refine w_loopF h (fun s8 : List Int × Int => ⟨[(1, .lst true 1 (Is components_)), (2, .adr 0 0 0), (6, .own 1 0 s8.1.length), (7, .val (.int .i64 s8.2))], [(0, .mix 5 [[.val (.int .i64 d_.n), .lst true 1 (Is d_.fr), .lst true 1 (Is d_.to), .lst true 1 (Is d_.id), .lst true 1 (Ls d_.cs)]]), (1, .row 1 (Is s8.1))], 2⟩) (wk_tr ⟨[(1, .lst true 1 (Is components_)), (2, .adr 0 0 0), (6, .own 1 0 0), (7, .val (.int .i64 0))], [(0, .mix 5 [[.val (.int .i64 d_.n), .lst true 1 (Is d_.fr), .lst true 1 (Is d_.to), .lst true 1 (Is d_.id), .lst true 1 (Ls d_.cs)]]), (1, .row 1 (Is []))], 2⟩ (Wk.nils [] (by simp) (by simp) (by simp [nlA]) (by simp [entN, nlL, nlA, Cat.cells, Is_append, Is_one, Ls_append, Ls_one, Bs_append, Bs_one, Es_append, Es_one, Es_set', eB, eI, eL]) (by simp)) (Wk.rel [(0, 0), (1, 1)] (by simp) (by simp) (by rw [hP]; simp) (by simp) (by simp) (by simp [Cat.cells, Is_append, Is_one, Ls_append, Ls_one, Bs_append, Bs_one, Es_append, Es_one, Es_set', eB, eI, eL]) (by simp [hhOk, back, Cat.cells, Is_append, Is_one, Ls_append, Ls_one, Bs_append, Bs_one, Es_append, Es_one, Es_set', eB, eI, eL]))) ?_
   clear h
   intro k8 s8 c8 h hk8
   refine w_seq ?_
   refine w_seq ?_
   refine w_run mo (by rw [hN]; decide) fun K hK => ?_
   simp [-guardE_b, -Is_at, -Is_at', -Ls_at, -Ls_at', eL, eI, allInts, eP_Cat, Cat.cells]
   repeat (with_reducible refine And.intro ?_ ?_; · first | assumption | omega | (simp; done) | (simp; omega) | simp_all)
   refine hK _ ?_
   clear hK K
   refine tn ?_
   refine w_weak (st' := ⟨[(1, .lst true 1 (Is components_)), (2, .adr 0 0 0), (6, .own 1 0 s8.1.length), (7, .val (.int .i64 s8.2)), (13, .val (.bool (decide (s8.2 < (components_.length : Int)))))], [(0, .mix 5 [[.val (.int .i64 d_.n), .lst true 1 (Is d_.fr), .lst true 1 (Is d_.to), .lst true 1 (Is d_.id), .lst true 1 (Ls d_.cs)]]), (1, .row 1 (Is s8.1))], 2⟩) (Wk.rel [(0, 0), (1, 1)] (by simp) (by simp) (by rw [hP]; simp) (by simp) (by simp) (by simp [Cat.cells, Is_append, Is_one, Ls_append, Ls_one, Bs_append, Bs_one, Es_append, Es_one, Es_set', eB, eI, eL]) (by simp [hhOk, back, Cat.cells, Is_append, Is_one, Ls_append, Ls_one, Bs_append, Bs_one, Es_append, Es_one, Es_set', eB, eI, eL])) ?_
   refine w_cond rfl (fun g => ?_) fun g => ?_
   · have g9 : s8.2 < (components_.length : Int) := by first | simpa using g | (simp at g; exact g) | (simp at g; omega)
     clear g
     replace h := if_l g9 h
     refine w_skip ?_
     refine tn ?_
     refine w_seq ?_
     refine w_block ?_
     refine w_seq ?_
     refine w_run mo (by rw [hN]; decide) fun K hK => ?_
     replace h := ass_some h
     obtain ⟨a10, h⟩ := h
     simp [-guardE_b, -Is_at, -Is_at', -Ls_at, -Ls_at', eL, eI, allInts, eP_Cat, Cat.cells, at_I a10]
     repeat (with_reducible refine And.intro ?_ ?_; · first | assumption | omega | (simp; done) | (simp; omega) | simp_all)
     replace h := bind_some h
     obtain ⟨v11, hv11, h⟩ := h
     refine callA_intro (w_s_l05Inverse _ _ v11 hv11) (.cons (.aggL (.cons .val (.cons .lst (.cons .lst (.cons .lst (.cons .lst .nil)))))) (.cons .val .nil)) ?_
     simp [-guardE_b, -Is_at, -Is_at', -Ls_at, -Ls_at', unk, unA, unE, unT, unC, flat, eL, eI, allInts, eP_Cat, Cat.cells]
     repeat (with_reducible refine And.intro ?_ ?_; · first | assumption | omega | (simp; done) | (simp; omega) | simp_all)
     refine hK _ ?_
     clear hK K
     refine tn ?_
     refine w_weak (st' := ⟨[(1, .lst true 1 (Is components_)), (2, .adr 0 0 0), (6, .own 1 0 s8.1.length), (7, .val (.int .i64 s8.2)), (8, .val (.int .i64 v11))], [(0, .mix 5 [[.val (.int .i64 d_.n), .lst true 1 (Is d_.fr), .lst true 1 (Is d_.to), .lst true 1 (Is d_.id), .lst true 1 (Ls d_.cs)]]), (1, .row 1 (Is s8.1))], 2⟩) (Wk.rel [(0, 0), (1, 1)] (by simp) (by simp) (by rw [hP]; simp) (by simp) (by simp) (by simp [Cat.cells, Is_append, Is_one, Ls_append, Ls_one, Bs_append, Bs_one, Es_append, Es_one, Es_set', eB, eI, eL]) (by simp [hhOk, back, Cat.cells, Is_append, Is_one, Ls_append, Ls_one, Bs_append, Bs_one, Es_append, Es_one, Es_set', eB, eI, eL])) ?_
     refine w_seq ?_
     refine w_seq ?_
     refine w_run mo (by rw [hN]; decide) fun K hK => ?_
     simp [-guardE_b, -Is_at, -Is_at', -Ls_at, -Ls_at', eL, eI, allInts, eP_Cat, Cat.cells]
     repeat (with_reducible refine And.intro ?_ ?_; · first | assumption | omega | (simp; done) | (simp; omega) | simp_all)
     refine hK _ ?_
     clear hK K
     refine tn ?_
     refine w_weak (st' := ⟨[(1, .lst true 1 (Is components_)), (2, .adr 0 0 0), (6, .own 1 0 s8.1.length), (7, .val (.int .i64 s8.2)), (8, .val (.int .i64 v11)), (23, .val (.bool (decide (v11 < 0))))], [(0, .mix 5 [[.val (.int .i64 d_.n), .lst true 1 (Is d_.fr), .lst true 1 (Is d_.to), .lst true 1 (Is d_.id), .lst true 1 (Ls d_.cs)]]), (1, .row 1 (Is s8.1))], 2⟩) (Wk.rel [(0, 0), (1, 1)] (by simp) (by simp) (by rw [hP]; simp) (by simp) (by simp) (by simp [Cat.cells, Is_append, Is_one, Ls_append, Ls_one, Bs_append, Bs_one, Es_append, Es_one, Es_set', eB, eI, eL]) (by simp [hhOk, back, Cat.cells, Is_append, Is_one, Ls_append, Ls_one, Bs_append, Bs_one, Es_append, Es_one, Es_set', eB, eI, eL])) ?_
     refine w_cond rfl (fun g => ?_) fun g => ?_
     · have g12 : v11 < 0 := by first | simpa using g | (simp at g; exact g) | (simp at g; omega)
       clear g
       replace h := if_l g12 h
       refine w_seq ?_
       refine w_run mo (by rw [hN]; decide) fun K hK => ?_
       simp [-guardE_b, -Is_at, -Is_at', -Ls_at, -Ls_at', eL, eI, allInts, eP_Cat, Cat.cells]
       repeat (with_reducible refine And.intro ?_ ?_; · first | assumption | omega | (simp; done) | (simp; omega) | simp_all)
       refine hK _ ?_
       clear hK K
       refine tn ?_
       refine w_weak (st' := ⟨[(4, .val (.slice none 0 0)), (5, .val (.bool false))], [], 0⟩) (Wk.rel [] (by simp) (by simp) (by rw [hP]; simp) (by simp) (by simp) (by simp [Cat.cells, Is_append, Is_one, Ls_append, Ls_one, Bs_append, Bs_one, Es_append, Es_one, Es_set', eB, eI, eL]) (by simp [hhOk, back, Cat.cells, Is_append, Is_one, Ls_append, Ls_one, Bs_append, Bs_one, Es_append, Es_one, Es_set', eB, eI, eL])) ?_
       refine w_ret ?_
       refine tr ?_
       refine br ?_
       refine tr ?_
       refine lr ?_
       refine br ?_
       refine tr ?_
       cases h
       have q : _ = e1 := hk8
       have h := h1
       rw [← q] at h
       clear q
       try dsimp only at h
       have hr := Option.some.inj h
       rw [← hr]
       refine ⟨_, (.tmp (.tmp .nil)), ?_⟩
       refine ⟨(.one rfl rfl (.one rfl rfl .nil)), [.val (.slice none 0 0), .val (.bool false)], [], by simp [Cat.cells, Is_append, Is_one, Ls_append, Ls_one, Bs_append, Bs_one, Es_append, Es_one, Es_set', eB, eI, eL], by simp, (.cons .nil (.cons .refl .nil))⟩
     have g12 : ¬ (v11 < 0) := by first | simpa using g | (simp at g; exact g) | (simp at g; omega)
     clear g
     replace h := if_r g12 h
     refine w_skip ?_
     refine tn ?_
     refine w_run mo (by rw [hN]; decide) fun K hK => ?_
     replace h := ass_some h
     obtain ⟨a13, h⟩ := h
     try simp only [List.length_append, List.length_cons, List.length_nil] at a13
     simp [-guardE_b, -Is_at, -Is_at', -Ls_at, -Ls_at', eL, eI, allInts, eP_Cat, Cat.cells, a13]
     repeat (with_reducible refine And.intro ?_ ?_; · first | assumption | omega | (simp; done) | (simp; omega) | simp_all)
     refine hK _ ?_
     clear hK K
     refine bn ?_
     refine tn ?_
     refine w_weak (st' := ⟨[(1, .lst true 1 (Is components_)), (2, .adr 0 0 0), (6, .own 1 0 ((s8.1 ++ [v11]).length)), (7, .val (.int .i64 s8.2))], [(0, .mix 5 [[.val (.int .i64 d_.n), .lst true 1 (Is d_.fr), .lst true 1 (Is d_.to), .lst true 1 (Is d_.id), .lst true 1 (Ls d_.cs)]]), (1, .row 1 (Is (s8.1 ++ [v11])))], 2⟩) (Wk.rel [(0, 0), (3, 1)] (by simp) (by simp) (by rw [hP]; simp) (by simp) (by simp) (by simp [Cat.cells, Is_append, Is_one, Ls_append, Ls_one, Bs_append, Bs_one, Es_append, Es_one, Es_set', eB, eI, eL]) (by simp [hhOk, back, Cat.cells, Is_append, Is_one, Ls_append, Ls_one, Bs_append, Bs_one, Es_append, Es_one, Es_set', eB, eI, eL])) ?_
     refine w_run mo (by rw [hN]; decide) fun K hK => ?_
     replace h := ass_some h
     obtain ⟨a14, h⟩ := h
     simp [-guardE_b, -Is_at, -Is_at', -Ls_at, -Ls_at', eL, eI, allInts, eP_Cat, Cat.cells, wrap_id a14]
     repeat (with_reducible refine And.intro ?_ ?_; · first | assumption | omega | (simp; done) | (simp; omega) | simp_all)
     refine hK _ ?_
     clear hK K
     cases h
     exact rn (s' := (s8.1 ++ [v11], s8.2 + 1)) hk8 (Wk.rel [(0, 0), (1, 1)] (by simp) (by simp) (by rw [hP]; simp) (by simp) (by simp) (by simp [Cat.cells, Is_append, Is_one, Ls_append, Ls_one, Bs_append, Bs_one, Es_append, Es_one, Es_set', eB, eI, eL]) (by simp [hhOk, back, Cat.cells, Is_append, Is_one, Ls_append, Ls_one, Bs_append, Bs_one, Es_append, Es_one, Es_set', eB, eI, eL]))
   have g9 : ¬ (s8.2 < (components_.length : Int)) := by first | simpa using g | (simp at g; exact g) | (simp at g; omega)
   clear g
   replace h := if_r g9 h
   refine w_exit ?_
   refine tx ?_
   refine lx ?_
   refine bh ?_
   cases h
   exact jn (b := s8.1) hk8 (Wk.rel [(1, 0)] (by simp) (by simp) (by rw [hP]; simp) (by simp) (by simp) (by simp [Cat.cells, Is_append, Is_one, Ls_append, Ls_one, Bs_append, Bs_one, Es_append, Es_one, Es_set', eB, eI, eL]) (by simp [hhOk, back, Cat.cells, Is_append, Is_one, Ls_append, Ls_one, Bs_append, Bs_one, Es_append, Es_one, Es_set', eB, eI, eL]))
 intro b1 hb1
 have h := h1
 rw [← hb1] at h
 clear h1
 try dsimp only at h
 refine w_seq ?_
 refine w_run mo (by rw [hN]; decide) fun K hK => ?_
 simp [-guardE_b, -Is_at, -Is_at', -Ls_at, -Ls_at', eL, eI, allInts, eP_Cat, Cat.cells]
 repeat (with_reducible refine And.intro ?_ ?_; · first | assumption | omega | (simp; done) | (simp; omega) | simp_all)
 refine hK _ ?_
 clear hK K
 refine tn ?_
 refine w_weak (st' := ⟨[(4, .own 0 0 b1.length), (5, .val (.bool true))], [(0, .row 1 (Is b1))], 1⟩) (Wk.rel [(0, 0)] (by simp) (by simp) (by rw [hP]; simp) (by simp) (by simp) (by simp [Cat.cells, Is_append, Is_one, Ls_append, Ls_one, Bs_append, Bs_one, Es_append, Es_one, Es_set', eB, eI, eL]) (by simp [hhOk, back, Cat.cells, Is_append, Is_one, Ls_append, Ls_one, Bs_append, Bs_one, Es_append, Es_one, Es_set', eB, eI, eL])) ?_
 refine w_ret ?_
 have hr := Option.some.inj h
 rw [← hr]
 refine ⟨_, (.tmp (.tmp .nil)), ?_⟩
 refine ⟨(.one rfl rfl (.one rfl rfl .nil)), [.lst true 1 (Is b1), .val (.bool true)], [0], by simp [Cat.cells, Is_append, Is_one, Ls_append, Ls_one, Bs_append, Bs_one, Es_append, Es_one, Es_set', eB, eI, eL], by simp, (UpL.refl _)⟩
noncomputable def s_s_l07Make (f_ : Fn) (g_ : Fn) (components_ : List Int) : Option Tra :=
 (s_s_l07Own f_).bind fun v1 =>
 (s_s_l07Own g_).bind fun v2 =>
 (s_s_l01Own components_).bind fun v3 =>
 some (⟨v1, v2, v3⟩ : Tra)
set_option maxHeartbeats 4000000 in
theorem w_s_l07Make (f_ : Fn) (g_ : Fn) (components_ : List Int) (r : Tra) (h : s_s_l07Make f_ g_ components_ = some r) : Contract Try.prog 87 [.agg (f_.cells true), .agg (g_.cells true), .lst true 1 (Is components_)] (.agg (r.cells true)) := by
 refine contract_introG (rvs := [.cell 6 61]) (rs := [.agg (r.cells true)]) Try.func87 rfl rfl rfl rfl (by simp [Try.f87]) fun F hN hP => ?_
 unfold s_s_l07Make at h
 refine w_seq ?_
 refine w_run mo (by rw [hN]; decide) fun K hK => ?_
 simp [-guardE_b, -Is_at, -Is_at', -Ls_at, -Ls_at', eL, eI, allInts, eP_Fn, eP_Tra, Fn.cells, Tra.cells]
 repeat (with_reducible refine And.intro ?_ ?_; · first | assumption | omega | (simp; done) | (simp; omega) | simp_all)
 refine hK _ ?_
 clear hK K
 refine tn ?_
 refine w_weak (st' := ⟨[(2, .lst true 1 (Is components_)), (3, .adr 0 0 0), (4, .adr 1 0 0), (6, .adr 2 0 0)], [(0, .mix 12 [[.val (.int .i64 f_.s.n), .lst true 1 (Is f_.s.fr), .lst true 1 (Is f_.s.to), .lst true 1 (Is f_.s.id), .lst true 1 (Ls f_.s.cs), .val (.int .i64 f_.t.n), .lst true 1 (Is f_.t.fr), .lst true 1 (Is f_.t.to), .lst true 1 (Is f_.t.id), .lst true 1 (Ls f_.t.cs), .lst true 1 (Is f_.ob), .lst true 1 (Is f_.ar)]]), (1, .mix 12 [[.val (.int .i64 g_.s.n), .lst true 1 (Is g_.s.fr), .lst true 1 (Is g_.s.to), .lst true 1 (Is g_.s.id), .lst true 1 (Ls g_.s.cs), .val (.int .i64 g_.t.n), .lst true 1 (Is g_.t.fr), .lst true 1 (Is g_.t.to), .lst true 1 (Is g_.t.id), .lst true 1 (Ls g_.t.cs), .lst true 1 (Is g_.ob), .lst true 1 (Is g_.ar)]]), (2, .mix 25 [[.val (.int .i64 0), .val (.slice none 0 0), .val (.slice none 0 0), .val (.slice none 0 0), .val (.slice none 0 0), .val (.int .i64 0), .val (.slice none 0 0), .val (.slice none 0 0), .val (.slice none 0 0), .val (.slice none 0 0), .val (.slice none 0 0), .val (.slice none 0 0), .val (.int .i64 0), .val (.slice none 0 0), .val (.slice none 0 0), .val (.slice none 0 0), .val (.slice none 0 0), .val (.int .i64 0), .val (.slice none 0 0), .val (.slice none 0 0), .val (.slice none 0 0), .val (.slice none 0 0), .val (.slice none 0 0), .val (.slice none 0 0), .val (.slice none 0 0)]])], 3⟩) (Wk.rel [(0, 0), (1, 1), (2, 2)] (by simp) (by simp) (by rw [hP]; simp) (by simp) (by simp) (by simp [Fn.cells, Tra.cells, Is_append, Is_one, Ls_append, Ls_one, Bs_append, Bs_one, Es_append, Es_one, Es_set', eB, eI, eL]) (by simp [hhOk, back, Fn.cells, Tra.cells, Is_append, Is_one, Ls_append, Ls_one, Bs_append, Bs_one, Es_append, Es_one, Es_set', eB, eI, eL])) ?_
 refine w_seq ?_
 refine w_run mo (by rw [hN]; decide) fun K hK => ?_
 simp [-guardE_b, -Is_at, -Is_at', -Ls_at, -Ls_at', eL, eI, allInts, eP_Fn, eP_Tra, Fn.cells, Tra.cells]
 repeat (with_reducible refine And.intro ?_ ?_; · first | assumption | omega | (simp; done) | (simp; omega) | simp_all)
 replace h := bind_some h
 obtain ⟨v1, hv1, h⟩ := h
 refine callA_intro (w_s_l07Own _ v1 hv1) (.cons (.aggL (.cons .val (.cons .lst (.cons .lst (.cons .lst (.cons .lst (.cons .val (.cons .lst (.cons .lst (.cons .lst (.cons .lst (.cons .lst (.cons .lst .nil))))))))))))) .nil) ?_
 simp [-guardE_b, -Is_at, -Is_at', -Ls_at, -Ls_at', unk, unA, unE, unT, unC, flat, eL, eI, allInts, eP_Fn, eP_Tra, Fn.cells, Tra.cells]
 repeat (with_reducible refine And.intro ?_ ?_; · first | assumption | omega | (simp; done) | (simp; omega) | simp_all)
 replace h := bind_some h
 obtain ⟨v2, hv2, h⟩ := h
 refine callA_intro (w_s_l07Own _ v2 hv2) (.cons (.aggL (.cons .val (.cons .lst (.cons .lst (.cons .lst (.cons .lst (.cons .val (.cons .lst (.cons .lst (.cons .lst (.cons .lst (.cons .lst (.cons .lst .nil))))))))))))) .nil) ?_
 simp [-guardE_b, -Is_at, -Is_at', -Ls_at, -Ls_at', unk, unA, unE, unT, unC, flat, eL, eI, allInts, eP_Fn, eP_Tra, Fn.cells, Tra.cells]
 repeat (with_reducible refine And.intro ?_ ?_; · first | assumption | omega | (simp; done) | (simp; omega) | simp_all)
 replace h := bind_some h
 obtain ⟨v3, hv3, h⟩ := h
 refine callA_intro (w_s_l01Own _ v3 hv3) (.cons .lst .nil) ?_
 simp [-guardE_b, -Is_at, -Is_at', -Ls_at, -Ls_at', unk, unA, unE, unT, unC, flat, eL, eI, allInts, eP_Fn, eP_Tra, Fn.cells, Tra.cells]
 repeat (with_reducible refine And.intro ?_ ?_; · first | assumption | omega | (simp; done) | (simp; omega) | simp_all)
 refine hK _ ?_
 clear hK K
 refine tn ?_
 refine w_weak (st' := ⟨[(6, .adr 0 0 0)], [(0, .mix 25 [[.val (.int .i64 v1.s.n), .own 1 0 v1.s.fr.length, .own 2 0 v1.s.to.length, .own 3 0 v1.s.id.length, .own 4 0 v1.s.cs.length, .val (.int .i64 v1.t.n), .own 5 0 v1.t.fr.length, .own 6 0 v1.t.to.length, .own 7 0 v1.t.id.length, .own 8 0 v1.t.cs.length, .own 9 0 v1.ob.length, .own 10 0 v1.ar.length, .val (.int .i64 v2.s.n), .own 11 0 v2.s.fr.length, .own 12 0 v2.s.to.length, .own 13 0 v2.s.id.length, .own 14 0 v2.s.cs.length, .val (.int .i64 v2.t.n), .own 15 0 v2.t.fr.length, .own 16 0 v2.t.to.length, .own 17 0 v2.t.id.length, .own 18 0 v2.t.cs.length, .own 19 0 v2.ob.length, .own 20 0 v2.ar.length, .own 21 0 v3.length]]), (1, .row 1 (Is v1.s.fr)), (2, .row 1 (Is v1.s.to)), (3, .row 1 (Is v1.s.id)), (4, .row 1 (Ls v1.s.cs)), (5, .row 1 (Is v1.t.fr)), (6, .row 1 (Is v1.t.to)), (7, .row 1 (Is v1.t.id)), (8, .row 1 (Ls v1.t.cs)), (9, .row 1 (Is v1.ob)), (10, .row 1 (Is v1.ar)), (11, .row 1 (Is v2.s.fr)), (12, .row 1 (Is v2.s.to)), (13, .row 1 (Is v2.s.id)), (14, .row 1 (Ls v2.s.cs)), (15, .row 1 (Is v2.t.fr)), (16, .row 1 (Is v2.t.to)), (17, .row 1 (Is v2.t.id)), (18, .row 1 (Ls v2.t.cs)), (19, .row 1 (Is v2.ob)), (20, .row 1 (Is v2.ar)), (21, .row 1 (Is v3))], 22⟩) (Wk.rel [(2, 0), (4, 1), (5, 2), (6, 3), (7, 4), (9, 5), (10, 6), (11, 7), (12, 8), (13, 9), (14, 10), (16, 11), (17, 12), (18, 13), (19, 14), (21, 15), (22, 16), (23, 17), (24, 18), (25, 19), (26, 20), (27, 21)] (by simp) (by simp) (by rw [hP]; simp) (by simp) (by simp) (by simp [Fn.cells, Tra.cells, Is_append, Is_one, Ls_append, Ls_one, Bs_append, Bs_one, Es_append, Es_one, Es_set', eB, eI, eL]) (by simp [hhOk, back, Fn.cells, Tra.cells, Is_append, Is_one, Ls_append, Ls_one, Bs_append, Bs_one, Es_append, Es_one, Es_set', eB, eI, eL])) ?_
 refine w_ret ?_
 have hr := Option.some.inj h
 rw [← hr]
 refine ⟨_, (.cell tf_61 rfl rfl rfl (by simp) (by simp) .nil), ?_⟩
 refine ⟨(.agg rfl .nil), [.val (.int .i64 v1.s.n), .lst true 1 (Is v1.s.fr), .lst true 1 (Is v1.s.to), .lst true 1 (Is v1.s.id), .lst true 1 (Ls v1.s.cs), .val (.int .i64 v1.t.n), .lst true 1 (Is v1.t.fr), .lst true 1 (Is v1.t.to), .lst true 1 (Is v1.t.id), .lst true 1 (Ls v1.t.cs), .lst true 1 (Is v1.ob), .lst true 1 (Is v1.ar), .val (.int .i64 v2.s.n), .lst true 1 (Is v2.s.fr), .lst true 1 (Is v2.s.to), .lst true 1 (Is v2.s.id), .lst true 1 (Ls v2.s.cs), .val (.int .i64 v2.t.n), .lst true 1 (Is v2.t.fr), .lst true 1 (Is v2.t.to), .lst true 1 (Is v2.t.id), .lst true 1 (Ls v2.t.cs), .lst true 1 (Is v2.ob), .lst true 1 (Is v2.ar), .lst true 1 (Is v3)], [1, 2, 3, 4, 5, 6, 7, 8, 9, 10, 11, 12, 13, 14, 15, 16, 17, 18, 19, 20, 21], by simp [Fn.cells, Tra.cells, Is_append, Is_one, Ls_append, Ls_one, Bs_append, Bs_one, Es_append, Es_one, Es_set', eB, eI, eL], by simp, (UpL.refl _)⟩
noncomputable def s_i_Transformation_isIso (t_ : Tra) : Option Bool :=
 (loopF (σ := Int) (ε := Unit ⊕ Bool) (fun s7 =>
   if s7 < (t_.p.length : Int) then
     ass (0 ≤ s7 ∧ s7 < (t_.p.length : Int)) <|
     (s_i_Category_inverse t_.s.t (ix t_.p s7)).bind fun v10 =>
     if v10 < 0 then
       some (Ctl.ret (Sum.inr false))
     else
       ass (B64 (s7 + 1)) <|
       some (Ctl.next (s7 + 1))
   else
     some (Ctl.ret (Sum.inl ()))) fuel 0).bind fun e1 =>
 match e1 with
 | .inl b1 =>
   some true
 | .inr p1 =>
   some p1
set_option maxHeartbeats 4000000 in
theorem w_i_Transformation_isIso (t_ : Tra) (r : Bool) (h : s_i_Transformation_isIso t_ = some r) : Contract Try.prog 89 [.rptr (t_.cells true)] (.val (.bool r)) := by
 refine contract_introG (rvs := [.tmp 2]) (rs := [.val (.bool r)]) Try.func89 rfl rfl rfl rfl (by simp [Try.f89]) fun F hN hP => ?_
 unfold s_i_Transformation_isIso at h
 refine w_seq ?_
 refine w_run mo (by rw [hN]; decide) fun K hK => ?_
 simp [-guardE_b, -Is_at, -Is_at', -Ls_at, -Ls_at', eL, eI, allInts, eP_Cat, eP_Tra, Cat.cells, Tra.cells]
 repeat (with_reducible refine And.intro ?_ ?_; · first | assumption | omega | (simp; done) | (simp; omega) | simp_all)
 refine hK _ ?_
 clear hK K
 refine tn ?_
 refine w_weak (st' := ⟨[(0, .rptr [.val (.int .i64 t_.s.s.n), .lst true 1 (Is t_.s.s.fr), .lst true 1 (Is t_.s.s.to), .lst true 1 (Is t_.s.s.id), .lst true 1 (Ls t_.s.s.cs), .val (.int .i64 t_.s.t.n), .lst true 1 (Is t_.s.t.fr), .lst true 1 (Is t_.s.t.to), .lst true 1 (Is t_.s.t.id), .lst true 1 (Ls t_.s.t.cs), .lst true 1 (Is t_.s.ob), .lst true 1 (Is t_.s.ar), .val (.int .i64 t_.t.s.n), .lst true 1 (Is t_.t.s.fr), .lst true 1 (Is t_.t.s.to), .lst true 1 (Is t_.t.s.id), .lst true 1 (Ls t_.t.s.cs), .val (.int .i64 t_.t.t.n), .lst true 1 (Is t_.t.t.fr), .lst true 1 (Is t_.t.t.to), .lst true 1 (Is t_.t.t.id), .lst true 1 (Ls t_.t.t.cs), .lst true 1 (Is t_.t.ob), .lst true 1 (Is t_.t.ar), .lst true 1 (Is t_.p)])], [], 0⟩) (Wk.rel [] (by simp) (by simp) (by rw [hP]; simp) (by simp) (by simp) (by simp [Cat.cells, Tra.cells, Is_append, Is_one, Ls_append, Ls_one, Bs_append, Bs_one, Es_append, Es_one, Es_set', eB, eI, eL]) (by simp [hhOk, back, Cat.cells, Tra.cells, Is_append, Is_one, Ls_append, Ls_one, Bs_append, Bs_one, Es_append, Es_one, Es_set', eB, eI, eL])) ?_
 refine w_seq ?_
 refine w_seq ?_
 refine w_run mo (by rw [hN]; decide) fun K hK => ?_
 simp [-guardE_b, -Is_at, -Is_at', -Ls_at, -Ls_at', eL, eI, allInts, eP_Cat, eP_Tra, Cat.cells, Tra.cells]
 repeat (with_reducible refine And.intro ?_ ?_; · first | assumption | omega | (simp; done) | (simp; omega) | simp_all)
 refine hK _ ?_
 clear hK K
 refine tn ?_
 refine w_weak (st' := ⟨[(0, .rptr [.val (.int .i64 t_.s.s.n), .lst true 1 (Is t_.s.s.fr), .lst true 1 (Is t_.s.s.to), .lst true 1 (Is t_.s.s.id), .lst true 1 (Ls t_.s.s.cs), .val (.int .i64 t_.s.t.n), .lst true 1 (Is t_.s.t.fr), .lst true 1 (Is t_.s.t.to), .lst true 1 (Is t_.s.t.id), .lst true 1 (Ls t_.s.t.cs), .lst true 1 (Is t_.s.ob), .lst true 1 (Is t_.s.ar), .val (.int .i64 t_.t.s.n), .lst true 1 (Is t_.t.s.fr), .lst true 1 (Is t_.t.s.to), .lst true 1 (Is t_.t.s.id), .lst true 1 (Ls t_.t.s.cs), .val (.int .i64 t_.t.t.n), .lst true 1 (Is t_.t.t.fr), .lst true 1 (Is t_.t.t.to), .lst true 1 (Is t_.t.t.id), .lst true 1 (Ls t_.t.t.cs), .lst true 1 (Is t_.t.ob), .lst true 1 (Is t_.t.ar), .lst true 1 (Is t_.p)]), (8, .lst true 1 (Is t_.p)), (9, .val (.int .i64 (t_.p.length : Int))), (10, .val (.int .i64 0))], [], 0⟩) (Wk.rel [] (by simp) (by simp) (by rw [hP]; simp) (by simp) (by simp) (by simp [Cat.cells, Tra.cells, Is_append, Is_one, Ls_append, Ls_one, Bs_append, Bs_one, Es_append, Es_one, Es_set', eB, eI, eL]) (by simp [hhOk, back, Cat.cells, Tra.cells, Is_append, Is_one, Ls_append, Ls_one, Bs_append, Bs_one, Es_append, Es_one, Es_set', eB, eI, eL])) ?_
 replace h := bind_some h
 obtain ⟨e1, h, h1⟩ := h
 refine w_joinT (fun b1 : Unit => ⟨[], [], 0⟩) (fun b1 => Sum.inl b1 = e1) ?_ ?_
 · refine w_block ?_
   refine w_loopF h (fun s7 : Int => ⟨[(0, .rptr [.val (.int .i64 t_.s.s.n), .lst true 1 (Is t_.s.s.fr), .lst true 1 (Is t_.s.s.to), .lst true 1 (Is t_.s.s.id), .lst true 1 (Ls t_.s.s.cs), .val (.int .i64 t_.s.t.n), .lst true 1 (Is t_.s.t.fr), .lst true 1 (Is t_.s.t.to), .lst true 1 (Is t_.s.t.id), .lst true 1 (Ls t_.s.t.cs), .lst true 1 (Is t_.s.ob), .lst true 1 (Is t_.s.ar), .val (.int .i64 t_.t.s.n), .lst true 1 (Is t_.t.s.fr), .lst true 1 (Is t_.t.s.to), .lst true 1 (Is t_.t.s.id), .lst true 1 (Ls t_.t.s.cs), .val (.int .i64 t_.t.t.n), .lst true 1 (Is t_.t.t.fr), .lst true 1 (Is t_.t.t.to), .lst true 1 (Is t_.t.t.id), .lst true 1 (Ls t_.t.t.cs), .lst true 1 (Is t_.t.ob), .lst true 1 (Is t_.t.ar), .lst true 1 (Is t_.p)]), (8, .lst true 1 (Is t_.p)), (9, .val (.int .i64 (t_.p.length : Int))), (10, .val (.int .i64 s7))], [], 0⟩) (Wk.rel [] (by simp) (by simp) (by rw [hP]; simp) (by simp) (by simp) (by simp [Cat.cells, Tra.cells, Is_append, Is_one, Ls_append, Ls_one, Bs_append, Bs_one, Es_append, Es_one, Es_set', eB, eI, eL]) (by simp [hhOk, back, Cat.cells, Tra.cells, Is_append, Is_one, Ls_append, Ls_one, Bs_append, Bs_one, Es_append, Es_one, Es_set', eB, eI, eL])) ?_
   clear h
   intro k7 s7 c7 h hk7
   refine w_seq ?_
   refine w_run mo (by rw [hN]; decide) fun K hK => ?_
   simp [-guardE_b, -Is_at, -Is_at', -Ls_at, -Ls_at', eL, eI, allInts, eP_Cat, eP_Tra, Cat.cells, Tra.cells]
   repeat (with_reducible refine And.intro ?_ ?_; · first | assumption | omega | (simp; done) | (simp; omega) | simp_all)
   refine hK _ ?_
   clear hK K
   refine tn ?_
   refine w_weak (st' := ⟨[(0, .rptr [.val (.int .i64 t_.s.s.n), .lst true 1 (Is t_.s.s.fr), .lst true 1 (Is t_.s.s.to), .lst true 1 (Is t_.s.s.id), .lst true 1 (Ls t_.s.s.cs), .val (.int .i64 t_.s.t.n), .lst true 1 (Is t_.s.t.fr), .lst true 1 (Is t_.s.t.to), .lst true 1 (Is t_.s.t.id), .lst true 1 (Ls t_.s.t.cs), .lst true 1 (Is t_.s.ob), .lst true 1 (Is t_.s.ar), .val (.int .i64 t_.t.s.n), .lst true 1 (Is t_.t.s.fr), .lst true 1 (Is t_.t.s.to), .lst true 1 (Is t_.t.s.id), .lst true 1 (Ls t_.t.s.cs), .val (.int .i64 t_.t.t.n), .lst true 1 (Is t_.t.t.fr), .lst true 1 (Is t_.t.t.to), .lst true 1 (Is t_.t.t.id), .lst true 1 (Ls t_.t.t.cs), .lst true 1 (Is t_.t.ob), .lst true 1 (Is t_.t.ar), .lst true 1 (Is t_.p)]), (8, .lst true 1 (Is t_.p)), (9, .val (.int .i64 (t_.p.length : Int))), (10, .val (.int .i64 s7)), (11, .val (.bool (decide (s7 < (t_.p.length : Int)))))], [], 0⟩) (Wk.rel [] (by simp) (by simp) (by rw [hP]; simp) (by simp) (by simp) (by simp [Cat.cells, Tra.cells, Is_append, Is_one, Ls_append, Ls_one, Bs_append, Bs_one, Es_append, Es_one, Es_set', eB, eI, eL]) (by simp [hhOk, back, Cat.cells, Tra.cells, Is_append, Is_one, Ls_append, Ls_one, Bs_append, Bs_one, Es_append, Es_one, Es_set', eB, eI, eL])) ?_
   refine w_seq ?_
   refine w_cond rfl (fun g => ?_) fun g => ?_
   · have g8 : s7 < (t_.p.length : Int) := by first | simpa using g | (simp at g; exact g) | (simp at g; omega)
     clear g
     replace h := if_l g8 h
     refine w_skip ?_
     refine tn ?_
     refine w_seq ?_
     refine w_block ?_
     refine w_seq ?_
     refine w_run mo (by rw [hN]; decide) fun K hK => ?_
     replace h := ass_some h
     obtain ⟨a9, h⟩ := h
     simp [-guardE_b, -Is_at, -Is_at', -Ls_at, -Ls_at', eL, eI, allInts, eP_Cat, eP_Tra, Cat.cells, Tra.cells, at_I a9]
     repeat (with_reducible refine And.intro ?_ ?_; · first | assumption | omega | (simp; done) | (simp; omega) | simp_all)
     refine hK _ ?_
     clear hK K
     refine tn ?_
     refine w_weak (st' := ⟨[(0, .rptr [.val (.int .i64 t_.s.s.n), .lst true 1 (Is t_.s.s.fr), .lst true 1 (Is t_.s.s.to), .lst true 1 (Is t_.s.s.id), .lst true 1 (Ls t_.s.s.cs), .val (.int .i64 t_.s.t.n), .lst true 1 (Is t_.s.t.fr), .lst true 1 (Is t_.s.t.to), .lst true 1 (Is t_.s.t.id), .lst true 1 (Ls t_.s.t.cs), .lst true 1 (Is t_.s.ob), .lst true 1 (Is t_.s.ar), .val (.int .i64 t_.t.s.n), .lst true 1 (Is t_.t.s.fr), .lst true 1 (Is t_.t.s.to), .lst true 1 (Is t_.t.s.id), .lst true 1 (Ls t_.t.s.cs), .val (.int .i64 t_.t.t.n), .lst true 1 (Is t_.t.t.fr), .lst true 1 (Is t_.t.t.to), .lst true 1 (Is t_.t.t.id), .lst true 1 (Ls t_.t.t.cs), .lst true 1 (Is t_.t.ob), .lst true 1 (Is t_.t.ar), .lst true 1 (Is t_.p)]), (4, .val (.int .i64 (ix t_.p s7))), (8, .lst true 1 (Is t_.p)), (9, .val (.int .i64 (t_.p.length : Int))), (10, .val (.int .i64 s7))], [], 0⟩) (Wk.rel [] (by simp) (by simp) (by rw [hP]; simp) (by simp) (by simp) (by simp [Cat.cells, Tra.cells, Is_append, Is_one, Ls_append, Ls_one, Bs_append, Bs_one, Es_append, Es_one, Es_set', eB, eI, eL]) (by simp [hhOk, back, Cat.cells, Tra.cells, Is_append, Is_one, Ls_append, Ls_one, Bs_append, Bs_one, Es_append, Es_one, Es_set', eB, eI, eL])) ?_
     refine w_seq ?_
     refine w_run mo (by rw [hN]; decide) fun K hK => ?_
     simp [-guardE_b, -Is_at, -Is_at', -Ls_at, -Ls_at', eL, eI, allInts, eP_Cat, eP_Tra, Cat.cells, Tra.cells]
     repeat (with_reducible refine And.intro ?_ ?_; · first | assumption | omega | (simp; done) | (simp; omega) | simp_all)
     replace h := bind_some h
     obtain ⟨v10, hv10, h⟩ := h
     refine callA_intro (w_i_Category_inverse _ _ v10 hv10) (.cons (.preT (by simp [Cat.cells, Tra.cells])) (.cons .val .nil)) ?_
     simp [-guardE_b, -Is_at, -Is_at', -Ls_at, -Ls_at', unk, unA, unE, unT, unC, flat, eL, eI, allInts, eP_Cat, eP_Tra, Cat.cells, Tra.cells]
     repeat (with_reducible refine And.intro ?_ ?_; · first | assumption | omega | (simp; done) | (simp; omega) | simp_all)
     refine hK _ ?_
     clear hK K
     refine tn ?_
     refine w_weak (st' := ⟨[(0, .rptr [.val (.int .i64 t_.s.s.n), .lst true 1 (Is t_.s.s.fr), .lst true 1 (Is t_.s.s.to), .lst true 1 (Is t_.s.s.id), .lst true 1 (Ls t_.s.s.cs), .val (.int .i64 t_.s.t.n), .lst true 1 (Is t_.s.t.fr), .lst true 1 (Is t_.s.t.to), .lst true 1 (Is t_.s.t.id), .lst true 1 (Ls t_.s.t.cs), .lst true 1 (Is t_.s.ob), .lst true 1 (Is t_.s.ar), .val (.int .i64 t_.t.s.n), .lst true 1 (Is t_.t.s.fr), .lst true 1 (Is t_.t.s.to), .lst true 1 (Is t_.t.s.id), .lst true 1 (Ls t_.t.s.cs), .val (.int .i64 t_.t.t.n), .lst true 1 (Is t_.t.t.fr), .lst true 1 (Is t_.t.t.to), .lst true 1 (Is t_.t.t.id), .lst true 1 (Ls t_.t.t.cs), .lst true 1 (Is t_.t.ob), .lst true 1 (Is t_.t.ar), .lst true 1 (Is t_.p)]), (8, .lst true 1 (Is t_.p)), (9, .val (.int .i64 (t_.p.length : Int))), (10, .val (.int .i64 s7)), (20, .val (.bool (decide (v10 < 0))))], [], 0⟩) (Wk.rel [] (by simp) (by simp) (by rw [hP]; simp) (by simp) (by simp) (by simp [Cat.cells, Tra.cells, Is_append, Is_one, Ls_append, Ls_one, Bs_append, Bs_one, Es_append, Es_one, Es_set', eB, eI, eL]) (by simp [hhOk, back, Cat.cells, Tra.cells, Is_append, Is_one, Ls_append, Ls_one, Bs_append, Bs_one, Es_append, Es_one, Es_set', eB, eI, eL])) ?_
     refine w_cond rfl (fun g => ?_) fun g => ?_
     · have g11 : v10 < 0 := by first | simpa using g | (simp at g; exact g) | (simp at g; omega)
       clear g
       replace h := if_l g11 h
       refine w_seq ?_
       refine w_run mo (by rw [hN]; decide) fun K hK => ?_
       simp [-guardE_b, -Is_at, -Is_at', -Ls_at, -Ls_at', eL, eI, allInts, eP_Cat, eP_Tra, Cat.cells, Tra.cells]
       repeat (with_reducible refine And.intro ?_ ?_; · first | assumption | omega | (simp; done) | (simp; omega) | simp_all)
       refine hK _ ?_
       clear hK K
       refine tn ?_
       refine w_weak (st' := ⟨[(2, .val (.bool false))], [], 0⟩) (Wk.rel [] (by simp) (by simp) (by rw [hP]; simp) (by simp) (by simp) (by simp [Cat.cells, Tra.cells, Is_append, Is_one, Ls_append, Ls_one, Bs_append, Bs_one, Es_append, Es_one, Es_set', eB, eI, eL]) (by simp [hhOk, back, Cat.cells, Tra.cells, Is_append, Is_one, Ls_append, Ls_one, Bs_append, Bs_one, Es_append, Es_one, Es_set', eB, eI, eL])) ?_
       refine w_ret ?_
       refine br ?_
       refine tr ?_
       refine lr ?_
       refine br ?_
       refine tr ?_
       cases h
       have q : _ = e1 := hk7
       have h := h1
       rw [← q] at h
       clear q
       try dsimp only at h
       have hr := Option.some.inj h
       rw [← hr]
       refine ⟨_, (.tmp .nil), ?_⟩
       refine ⟨(.one rfl rfl .nil), [.val (.bool false)], [], by simp [Cat.cells, Tra.cells, Is_append, Is_one, Ls_append, Ls_one, Bs_append, Bs_one, Es_append, Es_one, Es_set', eB, eI, eL], by simp, (UpL.refl _)⟩
     have g11 : ¬ (v10 < 0) := by first | simpa using g | (simp at g; exact g) | (simp at g; omega)
     clear g
     replace h := if_r g11 h
     refine w_skip ?_
     refine bn ?_
     refine tn ?_
     refine w_run mo (by rw [hN]; decide) fun K hK => ?_
     replace h := ass_some h
     obtain ⟨a12, h⟩ := h
     simp [-guardE_b, -Is_at, -Is_at', -Ls_at, -Ls_at', eL, eI, allInts, eP_Cat, eP_Tra, Cat.cells, Tra.cells, wrap_id a12]
     repeat (with_reducible refine And.intro ?_ ?_; · first | assumption | omega | (simp; done) | (simp; omega) | simp_all)
     refine hK _ ?_
     clear hK K
     cases h
     exact rn (s' := s7 + 1) hk7 (Wk.rel [] (by simp) (by simp) (by rw [hP]; simp) (by simp) (by simp) (by simp [Cat.cells, Tra.cells, Is_append, Is_one, Ls_append, Ls_one, Bs_append, Bs_one, Es_append, Es_one, Es_set', eB, eI, eL]) (by simp [hhOk, back, Cat.cells, Tra.cells, Is_append, Is_one, Ls_append, Ls_one, Bs_append, Bs_one, Es_append, Es_one, Es_set', eB, eI, eL]))
   have g8 : ¬ (s7 < (t_.p.length : Int)) := by first | simpa using g | (simp at g; exact g) | (simp at g; omega)
   clear g
   replace h := if_r g8 h
   refine w_exit ?_
   refine tx ?_
   refine lx ?_
   refine bh ?_
   cases h
   exact jn (b := ()) hk7 (Wk.rel [] (by simp) (by simp) (by rw [hP]; simp) (by simp) (by simp) (by simp [Cat.cells, Tra.cells, Is_append, Is_one, Ls_append, Ls_one, Bs_append, Bs_one, Es_append, Es_one, Es_set', eB, eI, eL]) (by simp [hhOk, back, Cat.cells, Tra.cells, Is_append, Is_one, Ls_append, Ls_one, Bs_append, Bs_one, Es_append, Es_one, Es_set', eB, eI, eL]))
 intro b1 hb1
 have h := h1
 rw [← hb1] at h
 clear h1
 try dsimp only at h
 refine w_seq ?_
 refine w_run mo (by rw [hN]; decide) fun K hK => ?_
 simp [-guardE_b, -Is_at, -Is_at', -Ls_at, -Ls_at', eL, eI, allInts, eP_Cat, eP_Tra, Cat.cells, Tra.cells]
 repeat (with_reducible refine And.intro ?_ ?_; · first | assumption | omega | (simp; done) | (simp; omega) | simp_all)
 refine hK _ ?_
 clear hK K
 refine tn ?_
 refine w_weak (st' := ⟨[(2, .val (.bool true))], [], 0⟩) (Wk.rel [] (by simp) (by simp) (by rw [hP]; simp) (by simp) (by simp) (by simp [Cat.cells, Tra.cells, Is_append, Is_one, Ls_append, Ls_one, Bs_append, Bs_one, Es_append, Es_one, Es_set', eB, eI, eL]) (by simp [hhOk, back, Cat.cells, Tra.cells, Is_append, Is_one, Ls_append, Ls_one, Bs_append, Bs_one, Es_append, Es_one, Es_set', eB, eI, eL])) ?_
 refine w_ret ?_
 have hr := Option.some.inj h
 rw [← hr]
 refine ⟨_, (.tmp .nil), ?_⟩
 refine ⟨(.one rfl rfl .nil), [.val (.bool true)], [], by simp [Cat.cells, Tra.cells, Is_append, Is_one, Ls_append, Ls_one, Bs_append, Bs_one, Es_append, Es_one, Es_set', eB, eI, eL], by simp, (UpL.refl _)⟩
noncomputable def s_i_transformation (f_ : Fn) (g_ : Fn) (components_ : List Int) : Option Tra :=
 (s_i_Functor_copy f_).bind fun v1 =>
 (s_i_Functor_copy g_).bind fun v2 =>
 (s_i_clone components_).bind fun v3 =>
 some (⟨v1, v2, v3⟩ : Tra)
set_option maxHeartbeats 4000000 in
theorem w_i_transformation (f_ : Fn) (g_ : Fn) (components_ : List Int) (r : Tra) (h : s_i_transformation f_ g_ components_ = some r) : Contract Try.prog 91 [.rptr (f_.cells true), .rptr (g_.cells true), .lst true 1 (Is components_)] (.agg (r.cells true)) := by
 refine contract_introG (rvs := [.cell 6 61]) (rs := [.agg (r.cells true)]) Try.func91 rfl rfl rfl rfl (by simp [Try.f91]) fun F hN hP => ?_
 unfold s_i_transformation at h
 refine w_seq ?_
 refine w_run mo (by rw [hN]; decide) fun K hK => ?_
 simp [-guardE_b, -Is_at, -Is_at', -Ls_at, -Ls_at', eL, eI, allInts, eP_Fn, eP_Tra, Fn.cells, Tra.cells]
 repeat (with_reducible refine And.intro ?_ ?_; · first | assumption | omega | (simp; done) | (simp; omega) | simp_all)
 refine hK _ ?_
 clear hK K
 refine tn ?_
 refine w_weak (st' := ⟨[(0, .rptr [.val (.int .i64 f_.s.n), .lst true 1 (Is f_.s.fr), .lst true 1 (Is f_.s.to), .lst true 1 (Is f_.s.id), .lst true 1 (Ls f_.s.cs), .val (.int .i64 f_.t.n), .lst true 1 (Is f_.t.fr), .lst true 1 (Is f_.t.to), .lst true 1 (Is f_.t.id), .lst true 1 (Ls f_.t.cs), .lst true 1 (Is f_.ob), .lst true 1 (Is f_.ar)]), (1, .rptr [.val (.int .i64 g_.s.n), .lst true 1 (Is g_.s.fr), .lst true 1 (Is g_.s.to), .lst true 1 (Is g_.s.id), .lst true 1 (Ls g_.s.cs), .val (.int .i64 g_.t.n), .lst true 1 (Is g_.t.fr), .lst true 1 (Is g_.t.to), .lst true 1 (Is g_.t.id), .lst true 1 (Ls g_.t.cs), .lst true 1 (Is g_.ob), .lst true 1 (Is g_.ar)]), (2, .lst true 1 (Is components_)), (6, .adr 0 0 0)], [(0, .mix 25 [[.val (.int .i64 0), .val (.slice none 0 0), .val (.slice none 0 0), .val (.slice none 0 0), .val (.slice none 0 0), .val (.int .i64 0), .val (.slice none 0 0), .val (.slice none 0 0), .val (.slice none 0 0), .val (.slice none 0 0), .val (.slice none 0 0), .val (.slice none 0 0), .val (.int .i64 0), .val (.slice none 0 0), .val (.slice none 0 0), .val (.slice none 0 0), .val (.slice none 0 0), .val (.int .i64 0), .val (.slice none 0 0), .val (.slice none 0 0), .val (.slice none 0 0), .val (.slice none 0 0), .val (.slice none 0 0), .val (.slice none 0 0), .val (.slice none 0 0)]])], 1⟩) (Wk.rel [(0, 0)] (by simp) (by simp) (by rw [hP]; simp) (by simp) (by simp) (by simp [Fn.cells, Tra.cells, Is_append, Is_one, Ls_append, Ls_one, Bs_append, Bs_one, Es_append, Es_one, Es_set', eB, eI, eL]) (by simp [hhOk, back, Fn.cells, Tra.cells, Is_append, Is_one, Ls_append, Ls_one, Bs_append, Bs_one, Es_append, Es_one, Es_set', eB, eI, eL])) ?_
 refine w_seq ?_
 refine w_run mo (by rw [hN]; decide) fun K hK => ?_
 simp [-guardE_b, -Is_at, -Is_at', -Ls_at, -Ls_at', eL, eI, allInts, eP_Fn, eP_Tra, Fn.cells, Tra.cells]
 repeat (with_reducible refine And.intro ?_ ?_; · first | assumption | omega | (simp; done) | (simp; omega) | simp_all)
 replace h := bind_some h
 obtain ⟨v1, hv1, h⟩ := h
 refine callA_intro (w_i_Functor_copy _ v1 hv1) (.cons (.preT (by simp [Fn.cells])) .nil) ?_
 simp [-guardE_b, -Is_at, -Is_at', -Ls_at, -Ls_at', unk, unA, unE, unT, unC, flat, eL, eI, allInts, eP_Fn, eP_Tra, Fn.cells, Tra.cells]
 repeat (with_reducible refine And.intro ?_ ?_; · first | assumption | omega | (simp; done) | (simp; omega) | simp_all)
 replace h := bind_some h
 obtain ⟨v2, hv2, h⟩ := h
 refine callA_intro (w_i_Functor_copy _ v2 hv2) (.cons (.preT (by simp [Fn.cells])) .nil) ?_
 simp [-guardE_b, -Is_at, -Is_at', -Ls_at, -Ls_at', unk, unA, unE, unT, unC, flat, eL, eI, allInts, eP_Fn, eP_Tra, Fn.cells, Tra.cells]
 repeat (with_reducible refine And.intro ?_ ?_; · first | assumption | omega | (simp; done) | (simp; omega) | simp_all)
 replace h := bind_some h
 obtain ⟨v3, hv3, h⟩ := h
 refine callA_intro (w_i_clone _ v3 hv3) (.cons .lst .nil) ?_
 simp [-guardE_b, -Is_at, -Is_at', -Ls_at, -Ls_at', unk, unA, unE, unT, unC, flat, eL, eI, allInts, eP_Fn, eP_Tra, Fn.cells, Tra.cells]
 repeat (with_reducible refine And.intro ?_ ?_; · first | assumption | omega | (simp; done) | (simp; omega) | simp_all)
 refine hK _ ?_
 clear hK K
 refine tn ?_
 refine w_weak (st' := ⟨[(6, .adr 0 0 0)], [(0, .mix 25 [[.val (.int .i64 v1.s.n), .own 1 0 v1.s.fr.length, .own 2 0 v1.s.to.length, .own 3 0 v1.s.id.length, .own 4 0 v1.s.cs.length, .val (.int .i64 v1.t.n), .own 5 0 v1.t.fr.length, .own 6 0 v1.t.to.length, .own 7 0 v1.t.id.length, .own 8 0 v1.t.cs.length, .own 9 0 v1.ob.length, .own 10 0 v1.ar.length, .val (.int .i64 v2.s.n), .own 11 0 v2.s.fr.length, .own 12 0 v2.s.to.length, .own 13 0 v2.s.id.length, .own 14 0 v2.s.cs.length, .val (.int .i64 v2.t.n), .own 15 0 v2.t.fr.length, .own 16 0 v2.t.to.length, .own 17 0 v2.t.id.length, .own 18 0 v2.t.cs.length, .own 19 0 v2.ob.length, .own 20 0 v2.ar.length, .own 21 0 v3.length]]), (1, .row 1 (Is v1.s.fr)), (2, .row 1 (Is v1.s.to)), (3, .row 1 (Is v1.s.id)), (4, .row 1 (Ls v1.s.cs)), (5, .row 1 (Is v1.t.fr)), (6, .row 1 (Is v1.t.to)), (7, .row 1 (Is v1.t.id)), (8, .row 1 (Ls v1.t.cs)), (9, .row 1 (Is v1.ob)), (10, .row 1 (Is v1.ar)), (11, .row 1 (Is v2.s.fr)), (12, .row 1 (Is v2.s.to)), (13, .row 1 (Is v2.s.id)), (14, .row 1 (Ls v2.s.cs)), (15, .row 1 (Is v2.t.fr)), (16, .row 1 (Is v2.t.to)), (17, .row 1 (Is v2.t.id)), (18, .row 1 (Ls v2.t.cs)), (19, .row 1 (Is v2.ob)), (20, .row 1 (Is v2.ar)), (21, .row 1 (Is v3))], 22⟩) (Wk.rel [(0, 0), (2, 1), (3, 2), (4, 3), (5, 4), (7, 5), (8, 6), (9, 7), (10, 8), (11, 9), (12, 10), (14, 11), (15, 12), (16, 13), (17, 14), (19, 15), (20, 16), (21, 17), (22, 18), (23, 19), (24, 20), (25, 21)] (by simp) (by simp) (by rw [hP]; simp) (by simp) (by simp) (by simp [Fn.cells, Tra.cells, Is_append, Is_one, Ls_append, Ls_one, Bs_append, Bs_one, Es_append, Es_one, Es_set', eB, eI, eL]) (by simp [hhOk, back, Fn.cells, Tra.cells, Is_append, Is_one, Ls_append, Ls_one, Bs_append, Bs_one, Es_append, Es_one, Es_set', eB, eI, eL])) ?_
 refine w_ret ?_
 have hr := Option.some.inj h
 rw [← hr]
 refine ⟨_, (.cell tf_61 rfl rfl rfl (by simp) (by simp) .nil), ?_⟩
 refine ⟨(.agg rfl .nil), [.val (.int .i64 v1.s.n), .lst true 1 (Is v1.s.fr), .lst true 1 (Is v1.s.to), .lst true 1 (Is v1.s.id), .lst true 1 (Ls v1.s.cs), .val (.int .i64 v1.t.n), .lst true 1 (Is v1.t.fr), .lst true 1 (Is v1.t.to), .lst true 1 (Is v1.t.id), .lst true 1 (Ls v1.t.cs), .lst true 1 (Is v1.ob), .lst true 1 (Is v1.ar), .val (.int .i64 v2.s.n), .lst true 1 (Is v2.s.fr), .lst true 1 (Is v2.s.to), .lst true 1 (Is v2.s.id), .lst true 1 (Ls v2.s.cs), .val (.int .i64 v2.t.n), .lst true 1 (Is v2.t.fr), .lst true 1 (Is v2.t.to), .lst true 1 (Is v2.t.id), .lst true 1 (Ls v2.t.cs), .lst true 1 (Is v2.ob), .lst true 1 (Is v2.ar), .lst true 1 (Is v3)], [1, 2, 3, 4, 5, 6, 7, 8, 9, 10, 11, 12, 13, 14, 15, 16, 17, 18, 19, 20, 21], by simp [Fn.cells, Tra.cells, Is_append, Is_one, Ls_append, Ls_one, Bs_append, Bs_one, Es_append, Es_one, Es_set', eB, eI, eL], by simp, (UpL.refl _)⟩
end Go.Vc.T

set_option maxRecDepth 100000
set_option linter.unusedSimpArgs false
set_option linter.unusedVariables false
namespace Go.Vc.T
open Go Go.Vc Go.Proofs
noncomputable def s_i_InverseTransformation (t_ : Tra) : Option (Tra × Int) :=
 (s_i_Transformation_isNatural t_).bind fun v1 =>
 if ¬ (v1 = true) then
   some ((⟨(⟨(⟨0, [], [], [], []⟩ : Cat), (⟨0, [], [], [], []⟩ : Cat), [], []⟩ : Fn), (⟨(⟨0, [], [], [], []⟩ : Cat), (⟨0, [], [], [], []⟩ : Cat), [], []⟩ : Fn), []⟩ : Tra), 1)
 else
   (s_i_Transformation_isIso t_).bind fun v3 =>
   if ¬ (v3 = true) then
     some ((⟨(⟨(⟨0, [], [], [], []⟩ : Cat), (⟨0, [], [], [], []⟩ : Cat), [], []⟩ : Fn), (⟨(⟨0, [], [], [], []⟩ : Cat), (⟨0, [], [], [], []⟩ : Cat), [], []⟩ : Fn), []⟩ : Tra), 4)
   else
     ass (0 ≤ (t_.p.length : Int) ∧ (t_.p.length : Int) ≤ 1073741824) <|
     (loopF (σ := List Int × Int) (ε := List Int) (fun s12 =>
       if s12.2 < (t_.p.length : Int) then
         ass (0 ≤ s12.2 ∧ s12.2 < (t_.p.length : Int)) <|
         (s_i_Category_inverse t_.s.t (ix t_.p s12.2)).bind fun v15 =>
         ass (0 ≤ s12.2 ∧ s12.2 < (s12.1.length : Int)) <|
         ass (B64 (s12.2 + 1)) <|
         some (Ctl.next (s12.1.set s12.2.toNat v15, s12.2 + 1))
       else
         some (Ctl.ret s12.1)) fuel (List.replicate ((t_.p.length : Int).toNat) 0, 0)).bind fun b6 =>
     (s_i_transformation t_.t t_.s b6).bind fun v18 =>
     some (v18, 0)
set_option maxHeartbeats 4000000 in
theorem w_i_InverseTransformation (t_ : Tra) (r : Tra × Int) (h : s_i_InverseTransformation t_ = some r) : Contract Try.prog 36 [.agg (t_.cells true)] (.tup [.agg (r.1.cells true), .val (.int .i64 r.2)]) := by
 refine contract_introG (rvs := [.cell 2 61, .tmp 3]) (rs := [.agg (r.1.cells true), .val (.int .i64 r.2)]) Try.func36 rfl rfl rfl rfl (by simp [Try.f36]) fun F hN hP => ?_
 unfold s_i_InverseTransformation at h
 refine w_seq ?_
 refine w_run mo (by rw [hN]; decide) fun K hK => ?_
 simp [-guardE_b, -Is_at, -Is_at', -Ls_at, -Ls_at', eL, eI, allInts, eP_Cat, eP_Fn, eP_Tra, Cat.cells, Fn.cells, Tra.cells]
 repeat (with_reducible refine And.intro ?_ ?_; · first | assumption | omega | (simp; done) | (simp; omega) | simp_all)
 refine hK _ ?_
 clear hK K
 refine tn ?_
 refine w_weak (st' := ⟨[(1, .adr 0 0 0), (2, .adr 1 0 0)], [(0, .mix 25 [[.val (.int .i64 t_.s.s.n), .lst true 1 (Is t_.s.s.fr), .lst true 1 (Is t_.s.s.to), .lst true 1 (Is t_.s.s.id), .lst true 1 (Ls t_.s.s.cs), .val (.int .i64 t_.s.t.n), .lst true 1 (Is t_.s.t.fr), .lst true 1 (Is t_.s.t.to), .lst true 1 (Is t_.s.t.id), .lst true 1 (Ls t_.s.t.cs), .lst true 1 (Is t_.s.ob), .lst true 1 (Is t_.s.ar), .val (.int .i64 t_.t.s.n), .lst true 1 (Is t_.t.s.fr), .lst true 1 (Is t_.t.s.to), .lst true 1 (Is t_.t.s.id), .lst true 1 (Ls t_.t.s.cs), .val (.int .i64 t_.t.t.n), .lst true 1 (Is t_.t.t.fr), .lst true 1 (Is t_.t.t.to), .lst true 1 (Is t_.t.t.id), .lst true 1 (Ls t_.t.t.cs), .lst true 1 (Is t_.t.ob), .lst true 1 (Is t_.t.ar), .lst true 1 (Is t_.p)]]), (1, .mix 25 [[.val (.int .i64 0), .val (.slice none 0 0), .val (.slice none 0 0), .val (.slice none 0 0), .val (.slice none 0 0), .val (.int .i64 0), .val (.slice none 0 0), .val (.slice none 0 0), .val (.slice none 0 0), .val (.slice none 0 0), .val (.slice none 0 0), .val (.slice none 0 0), .val (.int .i64 0), .val (.slice none 0 0), .val (.slice none 0 0), .val (.slice none 0 0), .val (.slice none 0 0), .val (.int .i64 0), .val (.slice none 0 0), .val (.slice none 0 0), .val (.slice none 0 0), .val (.slice none 0 0), .val (.slice none 0 0), .val (.slice none 0 0), .val (.slice none 0 0)]])], 2⟩) (Wk.rel [(0, 0), (1, 1)] (by simp) (by simp) (by rw [hP]; simp) (by simp) (by simp) (by simp [Cat.cells, Fn.cells, Tra.cells, Is_append, Is_one, Ls_append, Ls_one, Bs_append, Bs_one, Es_append, Es_one, Es_set', eB, eI, eL]) (by simp [hhOk, back, Cat.cells, Fn.cells, Tra.cells, Is_append, Is_one, Ls_append, Ls_one, Bs_append, Bs_one, Es_append, Es_one, Es_set', eB, eI, eL])) ?_
 refine w_seq ?_
 refine w_seq ?_
 refine w_run mo (by rw [hN]; decide) fun K hK => ?_
 simp [-guardE_b, -Is_at, -Is_at', -Ls_at, -Ls_at', eL, eI, allInts, eP_Cat, eP_Fn, eP_Tra, Cat.cells, Fn.cells, Tra.cells]
 repeat (with_reducible refine And.intro ?_ ?_; · first | assumption | omega | (simp; done) | (simp; omega) | simp_all)
 replace h := bind_some h
 obtain ⟨v1, hv1, h⟩ := h
 refine callA_intro (w_i_Transformation_isNatural _ v1 hv1) (.cons (.field rfl (by simp [Tra.cells]) (.cons .val (.cons .lst (.cons .lst (.cons .lst (.cons .lst (.cons .val (.cons .lst (.cons .lst (.cons .lst (.cons .lst (.cons .lst (.cons .lst (.cons .val (.cons .lst (.cons .lst (.cons .lst (.cons .lst (.cons .val (.cons .lst (.cons .lst (.cons .lst (.cons .lst (.cons .lst (.cons .lst (.cons .lst .nil)))))))))))))))))))))))))) .nil) ?_
 simp [-guardE_b, -Is_at, -Is_at', -Ls_at, -Ls_at', unk, unA, unE, unT, unC, flat, eL, eI, allInts, eP_Cat, eP_Fn, eP_Tra, Cat.cells, Fn.cells, Tra.cells]
 repeat (with_reducible refine And.intro ?_ ?_; · first | assumption | omega | (simp; done) | (simp; omega) | simp_all)
 refine hK _ ?_
 clear hK K
 refine tn ?_
 refine w_weak (st' := ⟨[(1, .adr 0 0 0), (2, .adr 1 0 0), (8, .val (.bool (!v1)))], [(0, .mix 25 [[.val (.int .i64 t_.s.s.n), .lst true 1 (Is t_.s.s.fr), .lst true 1 (Is t_.s.s.to), .lst true 1 (Is t_.s.s.id), .lst true 1 (Ls t_.s.s.cs), .val (.int .i64 t_.s.t.n), .lst true 1 (Is t_.s.t.fr), .lst true 1 (Is t_.s.t.to), .lst true 1 (Is t_.s.t.id), .lst true 1 (Ls t_.s.t.cs), .lst true 1 (Is t_.s.ob), .lst true 1 (Is t_.s.ar), .val (.int .i64 t_.t.s.n), .lst true 1 (Is t_.t.s.fr), .lst true 1 (Is t_.t.s.to), .lst true 1 (Is t_.t.s.id), .lst true 1 (Ls t_.t.s.cs), .val (.int .i64 t_.t.t.n), .lst true 1 (Is t_.t.t.fr), .lst true 1 (Is t_.t.t.to), .lst true 1 (Is t_.t.t.id), .lst true 1 (Ls t_.t.t.cs), .lst true 1 (Is t_.t.ob), .lst true 1 (Is t_.t.ar), .lst true 1 (Is t_.p)]]), (1, .mix 25 [[.val (.int .i64 0), .val (.slice none 0 0), .val (.slice none 0 0), .val (.slice none 0 0), .val (.slice none 0 0), .val (.int .i64 0), .val (.slice none 0 0), .val (.slice none 0 0), .val (.slice none 0 0), .val (.slice none 0 0), .val (.slice none 0 0), .val (.slice none 0 0), .val (.int .i64 0), .val (.slice none 0 0), .val (.slice none 0 0), .val (.slice none 0 0), .val (.slice none 0 0), .val (.int .i64 0), .val (.slice none 0 0), .val (.slice none 0 0), .val (.slice none 0 0), .val (.slice none 0 0), .val (.slice none 0 0), .val (.slice none 0 0), .val (.slice none 0 0)]])], 2⟩) (Wk.rel [(0, 0), (1, 1)] (by simp) (by simp) (by rw [hP]; simp) (by simp) (by simp) (by simp [Cat.cells, Fn.cells, Tra.cells, Is_append, Is_one, Ls_append, Ls_one, Bs_append, Bs_one, Es_append, Es_one, Es_set', eB, eI, eL]) (by simp [hhOk, back, Cat.cells, Fn.cells, Tra.cells, Is_append, Is_one, Ls_append, Ls_one, Bs_append, Bs_one, Es_append, Es_one, Es_set', eB, eI, eL])) ?_
 refine w_cond rfl (fun g => ?_) fun g => ?_
 · have g2 : ¬ (v1 = true) := by first | simpa using g | (simp at g; exact g) | (simp at g; omega)
   clear g
   replace h := if_l g2 h
   refine w_seq ?_
   refine w_run mo (by rw [hN]; decide) fun K hK => ?_
   simp [-guardE_b, -Is_at, -Is_at', -Ls_at, -Ls_at', eL, eI, allInts, eP_Cat, eP_Fn, eP_Tra, Cat.cells, Fn.cells, Tra.cells]
   repeat (with_reducible refine And.intro ?_ ?_; · first | assumption | omega | (simp; done) | (simp; omega) | simp_all)
   refine hK _ ?_
   clear hK K
   refine tn ?_
   refine w_weak (st' := ⟨[(2, .adr 0 0 0), (3, .val (.int .i64 1))], [(0, .mix 25 [[.val (.int .i64 0), .val (.slice none 0 0), .val (.slice none 0 0), .val (.slice none 0 0), .val (.slice none 0 0), .val (.int .i64 0), .val (.slice none 0 0), .val (.slice none 0 0), .val (.slice none 0 0), .val (.slice none 0 0), .val (.slice none 0 0), .val (.slice none 0 0), .val (.int .i64 0), .val (.slice none 0 0), .val (.slice none 0 0), .val (.slice none 0 0), .val (.slice none 0 0), .val (.int .i64 0), .val (.slice none 0 0), .val (.slice none 0 0), .val (.slice none 0 0), .val (.slice none 0 0), .val (.slice none 0 0), .val (.slice none 0 0), .val (.slice none 0 0)]])], 1⟩) (Wk.rel [(1, 0)] (by simp) (by simp) (by rw [hP]; simp) (by simp) (by simp) (by simp [Cat.cells, Fn.cells, Tra.cells, Is_append, Is_one, Ls_append, Ls_one, Bs_append, Bs_one, Es_append, Es_one, Es_set', eB, eI, eL]) (by simp [hhOk, back, Cat.cells, Fn.cells, Tra.cells, Is_append, Is_one, Ls_append, Ls_one, Bs_append, Bs_one, Es_append, Es_one, Es_set', eB, eI, eL])) ?_
   refine w_ret ?_
   refine tr ?_
   have hr := Option.some.inj h
   rw [← hr]
   refine ⟨_, (.cell tf_61 rfl rfl rfl (by simp) (by simp) (.tmp .nil)), ?_⟩
   refine ⟨(.agg rfl (.one rfl rfl .nil)), [.val (.int .i64 0), .val (.slice none 0 0), .val (.slice none 0 0), .val (.slice none 0 0), .val (.slice none 0 0), .val (.int .i64 0), .val (.slice none 0 0), .val (.slice none 0 0), .val (.slice none 0 0), .val (.slice none 0 0), .val (.slice none 0 0), .val (.slice none 0 0), .val (.int .i64 0), .val (.slice none 0 0), .val (.slice none 0 0), .val (.slice none 0 0), .val (.slice none 0 0), .val (.int .i64 0), .val (.slice none 0 0), .val (.slice none 0 0), .val (.slice none 0 0), .val (.slice none 0 0), .val (.slice none 0 0), .val (.slice none 0 0), .val (.slice none 0 0), .val (.int .i64 1)], [], by simp [Cat.cells, Fn.cells, Tra.cells, Is_append, Is_one, Ls_append, Ls_one, Bs_append, Bs_one, Es_append, Es_one, Es_set', eB, eI, eL], by simp, (.cons .refl (.cons .nil (.cons .nil (.cons .nil (.cons .nil (.cons .refl (.cons .nil (.cons .nil (.cons .nil (.cons .nil (.cons .nil (.cons .nil (.cons .refl (.cons .nil (.cons .nil (.cons .nil (.cons .nil (.cons .refl (.cons .nil (.cons .nil (.cons .nil (.cons .nil (.cons .nil (.cons .nil (.cons .nil (.cons .refl .nil))))))))))))))))))))))))))⟩
 have g2 : ¬ (¬ (v1 = true)) := by first | simpa using g | (simp at g; exact g) | (simp at g; omega)
 clear g
 replace h := if_r g2 h
 refine w_skip ?_
 refine tn ?_
 refine w_seq ?_
 refine w_seq ?_
 refine w_run mo (by rw [hN]; decide) fun K hK => ?_
 simp [-guardE_b, -Is_at, -Is_at', -Ls_at, -Ls_at', eL, eI, allInts, eP_Cat, eP_Fn, eP_Tra, Cat.cells, Fn.cells, Tra.cells]
 repeat (with_reducible refine And.intro ?_ ?_; · first | assumption | omega | (simp; done) | (simp; omega) | simp_all)
 replace h := bind_some h
 obtain ⟨v3, hv3, h⟩ := h
 refine callA_intro (w_i_Transformation_isIso _ v3 hv3) (.cons (.field rfl (by simp [Tra.cells]) (.cons .val (.cons .lst (.cons .lst (.cons .lst (.cons .lst (.cons .val (.cons .lst (.cons .lst (.cons .lst (.cons .lst (.cons .lst (.cons .lst (.cons .val (.cons .lst (.cons .lst (.cons .lst (.cons .lst (.cons .val (.cons .lst (.cons .lst (.cons .lst (.cons .lst (.cons .lst (.cons .lst (.cons .lst .nil)))))))))))))))))))))))))) .nil) ?_
 simp [-guardE_b, -Is_at, -Is_at', -Ls_at, -Ls_at', unk, unA, unE, unT, unC, flat, eL, eI, allInts, eP_Cat, eP_Fn, eP_Tra, Cat.cells, Fn.cells, Tra.cells]
 repeat (with_reducible refine And.intro ?_ ?_; · first | assumption | omega | (simp; done) | (simp; omega) | simp_all)
 refine hK _ ?_
 clear hK K
 refine tn ?_
 refine w_weak (st' := ⟨[(1, .adr 0 0 0), (2, .adr 1 0 0), (11, .val (.bool (!v3)))], [(0, .mix 25 [[.val (.int .i64 t_.s.s.n), .lst true 1 (Is t_.s.s.fr), .lst true 1 (Is t_.s.s.to), .lst true 1 (Is t_.s.s.id), .lst true 1 (Ls t_.s.s.cs), .val (.int .i64 t_.s.t.n), .lst true 1 (Is t_.s.t.fr), .lst true 1 (Is t_.s.t.to), .lst true 1 (Is t_.s.t.id), .lst true 1 (Ls t_.s.t.cs), .lst true 1 (Is t_.s.ob), .lst true 1 (Is t_.s.ar), .val (.int .i64 t_.t.s.n), .lst true 1 (Is t_.t.s.fr), .lst true 1 (Is t_.t.s.to), .lst true 1 (Is t_.t.s.id), .lst true 1 (Ls t_.t.s.cs), .val (.int .i64 t_.t.t.n), .lst true 1 (Is t_.t.t.fr), .lst true 1 (Is t_.t.t.to), .lst true 1 (Is t_.t.t.id), .lst true 1 (Ls t_.t.t.cs), .lst true 1 (Is t_.t.ob), .lst true 1 (Is t_.t.ar), .lst true 1 (Is t_.p)]]), (1, .mix 25 [[.val (.int .i64 0), .val (.slice none 0 0), .val (.slice none 0 0), .val (.slice none 0 0), .val (.slice none 0 0), .val (.int .i64 0), .val (.slice none 0 0), .val (.slice none 0 0), .val (.slice none 0 0), .val (.slice none 0 0), .val (.slice none 0 0), .val (.slice none 0 0), .val (.int .i64 0), .val (.slice none 0 0), .val (.slice none 0 0), .val (.slice none 0 0), .val (.slice none 0 0), .val (.int .i64 0), .val (.slice none 0 0), .val (.slice none 0 0), .val (.slice none 0 0), .val (.slice none 0 0), .val (.slice none 0 0), .val (.slice none 0 0), .val (.slice none 0 0)]])], 2⟩) (Wk.rel [(0, 0), (1, 1)] (by simp) (by simp) (by rw [hP]; simp) (by simp) (by simp) (by simp [Cat.cells, Fn.cells, Tra.cells, Is_append, Is_one, Ls_append, Ls_one, Bs_append, Bs_one, Es_append, Es_one, Es_set', eB, eI, eL]) (by simp [hhOk, back, Cat.cells, Fn.cells, Tra.cells, Is_append, Is_one, Ls_append, Ls_one, Bs_append, Bs_one, Es_append, Es_one, Es_set', eB, eI, eL])) ?_
 refine w_cond rfl (fun g => ?_) fun g => ?_
 · have g4 : ¬ (v3 = true) := by first | simpa using g | (simp at g; exact g) | (simp at g; omega)
   clear g
   replace h := if_l g4 h
   refine w_seq ?_
   refine w_run mo (by rw [hN]; decide) fun K hK => ?_
   simp [-guardE_b, -Is_at, -Is_at', -Ls_at, -Ls_at', eL, eI, allInts, eP_Cat, eP_Fn, eP_Tra, Cat.cells, Fn.cells, Tra.cells]
   repeat (with_reducible refine And.intro ?_ ?_; · first | assumption | omega | (simp; done) | (simp; omega) | simp_all)
   refine hK _ ?_
   clear hK K
   refine tn ?_
   refine w_weak (st' := ⟨[(2, .adr 0 0 0), (3, .val (.int .i64 4))], [(0, .mix 25 [[.val (.int .i64 0), .val (.slice none 0 0), .val (.slice none 0 0), .val (.slice none 0 0), .val (.slice none 0 0), .val (.int .i64 0), .val (.slice none 0 0), .val (.slice none 0 0), .val (.slice none 0 0), .val (.slice none 0 0), .val (.slice none 0 0), .val (.slice none 0 0), .val (.int .i64 0), .val (.slice none 0 0), .val (.slice none 0 0), .val (.slice none 0 0), .val (.slice none 0 0), .val (.int .i64 0), .val (.slice none 0 0), .val (.slice none 0 0), .val (.slice none 0 0), .val (.slice none 0 0), .val (.slice none 0 0), .val (.slice none 0 0), .val (.slice none 0 0)]])], 1⟩) (Wk.rel [(1, 0)] (by simp) (by simp) (by rw [hP]; simp) (by simp) (by simp) (by simp [Cat.cells, Fn.cells, Tra.cells, Is_append, Is_one, Ls_append, Ls_one, Bs_append, Bs_one, Es_append, Es_one, Es_set', eB, eI, eL]) (by simp [hhOk, back, Cat.cells, Fn.cells, Tra.cells, Is_append, Is_one, Ls_append, Ls_one, Bs_append, Bs_one, Es_append, Es_one, Es_set', eB, eI, eL])) ?_
   refine w_ret ?_
   refine tr ?_
   have hr := Option.some.inj h
   rw [← hr]
   refine ⟨_, (.cell tf_61 rfl rfl rfl (by simp) (by simp) (.tmp .nil)), ?_⟩
   refine ⟨(.agg rfl (.one rfl rfl .nil)), [.val (.int .i64 0), .val (.slice none 0 0), .val (.slice none 0 0), .val (.slice none 0 0), .val (.slice none 0 0), .val (.int .i64 0), .val (.slice none 0 0), .val (.slice none 0 0), .val (.slice none 0 0), .val (.slice none 0 0), .val (.slice none 0 0), .val (.slice none 0 0), .val (.int .i64 0), .val (.slice none 0 0), .val (.slice none 0 0), .val (.slice none 0 0), .val (.slice none 0 0), .val (.int .i64 0), .val (.slice none 0 0), .val (.slice none 0 0), .val (.slice none 0 0), .val (.slice none 0 0), .val (.slice none 0 0), .val (.slice none 0 0), .val (.slice none 0 0), .val (.int .i64 4)], [], by simp [Cat.cells, Fn.cells, Tra.cells, Is_append, Is_one, Ls_append, Ls_one, Bs_append, Bs_one, Es_append, Es_one, Es_set', eB, eI, eL], by simp, (.cons .refl (.cons .nil (.cons .nil (.cons .nil (.cons .nil (.cons .refl (.cons .nil (.cons .nil (.cons .nil (.cons .nil (.cons .nil (.cons .nil (.cons .refl (.cons .nil (.cons .nil (.cons .nil (.cons .nil (.cons .refl (.cons .nil (.cons .nil (.cons .nil (.cons .nil (.cons .nil (.cons .nil (.cons .nil (.cons .refl .nil))))))))))))))))))))))))))⟩
 have g4 : ¬ (¬ (v3 = true)) := by first | simpa using g | (simp at g; exact g) | (simp at g; omega)
 clear g
 replace h := if_r g4 h
 refine w_skip ?_
 refine tn ?_
 refine w_seq ?_
 refine w_run mo (by rw [hN]; decide) fun K hK => ?_
 replace h := ass_some h
 obtain ⟨a5, h⟩ := h
 simp [-guardE_b, -Is_at, -Is_at', -Ls_at, -Ls_at', eL, eI, allInts, eP_Cat, eP_Fn, eP_Tra, Cat.cells, Fn.cells, Tra.cells]
 repeat (with_reducible refine And.intro ?_ ?_; · first | assumption | omega | (simp; done) | (simp; omega) | simp_all)
 refine hK _ ?_
 clear hK K
 refine tn ?_
 refine w_weak (st' := ⟨[(1, .adr 0 0 0), (2, .adr 1 0 0), (4, .own 2 0 ((List.replicate ((t_.p.length : Int).toNat) 0).length))], [(0, .mix 25 [[.val (.int .i64 t_.s.s.n), .lst true 1 (Is t_.s.s.fr), .lst true 1 (Is t_.s.s.to), .lst true 1 (Is t_.s.s.id), .lst true 1 (Ls t_.s.s.cs), .val (.int .i64 t_.s.t.n), .lst true 1 (Is t_.s.t.fr), .lst true 1 (Is t_.s.t.to), .lst true 1 (Is t_.s.t.id), .lst true 1 (Ls t_.s.t.cs), .lst true 1 (Is t_.s.ob), .lst true 1 (Is t_.s.ar), .val (.int .i64 t_.t.s.n), .lst true 1 (Is t_.t.s.fr), .lst true 1 (Is t_.t.s.to), .lst true 1 (Is t_.t.s.id), .lst true 1 (Ls t_.t.s.cs), .val (.int .i64 t_.t.t.n), .lst true 1 (Is t_.t.t.fr), .lst true 1 (Is t_.t.t.to), .lst true 1 (Is t_.t.t.id), .lst true 1 (Ls t_.t.t.cs), .lst true 1 (Is t_.t.ob), .lst true 1 (Is t_.t.ar), .lst true 1 (Is t_.p)]]), (1, .mix 25 [[.val (.int .i64 0), .val (.slice none 0 0), .val (.slice none 0 0), .val (.slice none 0 0), .val (.slice none 0 0), .val (.int .i64 0), .val (.slice none 0 0), .val (.slice none 0 0), .val (.slice none 0 0), .val (.slice none 0 0), .val (.slice none 0 0), .val (.slice none 0 0), .val (.int .i64 0), .val (.slice none 0 0), .val (.slice none 0 0), .val (.slice none 0 0), .val (.slice none 0 0), .val (.int .i64 0), .val (.slice none 0 0), .val (.slice none 0 0), .val (.slice none 0 0), .val (.slice none 0 0), .val (.slice none 0 0), .val (.slice none 0 0), .val (.slice none 0 0)]]), (2, .row 1 (Is (List.replicate ((t_.p.length : Int).toNat) 0)))], 3⟩) (Wk.rel [(0, 0), (1, 1), (2, 2)] (by simp) (by simp) (by rw [hP]; simp) (by simp) (by simp) (by simp [Cat.cells, Fn.cells, Tra.cells, Is_append, Is_one, Ls_append, Ls_one, Bs_append, Bs_one, Es_append, Es_one, Es_set', eB, eI, eL]) (by simp [hhOk, back, Cat.cells, Fn.cells, Tra.cells, Is_append, Is_one, Ls_append, Ls_one, Bs_append, Bs_one, Es_append, Es_one, Es_set', eB, eI, eL])) ?_
 refine w_seq ?_
 refine w_seq ?_
 refine w_run mo (by rw [hN]; decide) fun K hK => ?_
 simp [-guardE_b, -Is_at, -Is_at', -Ls_at, -Ls_at', eL, eI, allInts, eP_Cat, eP_Fn, eP_Tra, Cat.cells, Fn.cells, Tra.cells]
 repeat (with_reducible refine And.intro ?_ ?_; · first | assumption | omega | (simp; done) | (simp; omega) | simp_all)
 refine hK _ ?_
 clear hK K
 refine tn ?_
 refine w_weak (st' := ⟨[(1, .adr 0 0 0), (2, .adr 1 0 0), (4, .own 2 0 ((List.replicate ((t_.p.length : Int).toNat) 0).length)), (18, .lst true 1 (Is t_.p)), (19, .val (.int .i64 (t_.p.length : Int))), (20, .val (.int .i64 0))], [(0, .mix 25 [[.val (.int .i64 t_.s.s.n), .lst true 1 (Is t_.s.s.fr), .lst true 1 (Is t_.s.s.to), .lst true 1 (Is t_.s.s.id), .lst true 1 (Ls t_.s.s.cs), .val (.int .i64 t_.s.t.n), .lst true 1 (Is t_.s.t.fr), .lst true 1 (Is t_.s.t.to), .lst true 1 (Is t_.s.t.id), .lst true 1 (Ls t_.s.t.cs), .lst true 1 (Is t_.s.ob), .lst true 1 (Is t_.s.ar), .val (.int .i64 t_.t.s.n), .lst true 1 (Is t_.t.s.fr), .lst true 1 (Is t_.t.s.to), .lst true 1 (Is t_.t.s.id), .lst true 1 (Ls t_.t.s.cs), .val (.int .i64 t_.t.t.n), .lst true 1 (Is t_.t.t.fr), .lst true 1 (Is t_.t.t.to), .lst true 1 (Is t_.t.t.id), .lst true 1 (Ls t_.t.t.cs), .lst true 1 (Is t_.t.ob), .lst true 1 (Is t_.t.ar), .lst true 1 (Is t_.p)]]), (1, .mix 25 [[.val (.int .i64 0), .val (.slice none 0 0), .val (.slice none 0 0), .val (.slice none 0 0), .val (.slice none 0 0), .val (.int .i64 0), .val (.slice none 0 0), .val (.slice none 0 0), .val (.slice none 0 0), .val (.slice none 0 0), .val (.slice none 0 0), .val (.slice none 0 0), .val (.int .i64 0), .val (.slice none 0 0), .val (.slice none 0 0), .val (.slice none 0 0), .val (.slice none 0 0), .val (.int .i64 0), .val (.slice none 0 0), .val (.slice none 0 0), .val (.slice none 0 0), .val (.slice none 0 0), .val (.slice none 0 0), .val (.slice none 0 0), .val (.slice none 0 0)]]), (2, .row 1 (Is (List.replicate ((t_.p.length : Int).toNat) 0)))], 3⟩) (Wk.rel [(0, 0), (1, 1), (2, 2)] (by simp) (by simp) (by rw [hP]; simp) (by simp) (by simp) (by simp [Cat.cells, Fn.cells, Tra.cells, Is_append, Is_one, Ls_append, Ls_one, Bs_append, Bs_one, Es_append, Es_one, Es_set', eB, eI, eL]) (by simp [hhOk, back, Cat.cells, Fn.cells, Tra.cells, Is_append, Is_one, Ls_append, Ls_one, Bs_append, Bs_one, Es_append, Es_one, Es_set', eB, eI, eL])) ?_
 replace h := bind_some h
 obtain ⟨e6, h, h6⟩ := h
 refine w_joinT (fun b6 : List Int => ⟨[(1, .adr 0 0 0), (2, .adr 1 0 0), (4, .own 2 0 b6.length)], [(0, .mix 25 [[.val (.int .i64 t_.s.s.n), .lst true 1 (Is t_.s.s.fr), .lst true 1 (Is t_.s.s.to), .lst true 1 (Is t_.s.s.id), .lst true 1 (Ls t_.s.s.cs), .val (.int .i64 t_.s.t.n), .lst true 1 (Is t_.s.t.fr), .lst true 1 (Is t_.s.t.to), .lst true 1 (Is t_.s.t.id), .lst true 1 (Ls t_.s.t.cs), .lst true 1 (Is t_.s.ob), .lst true 1 (Is t_.s.ar), .val (.int .i64 t_.t.s.n), .lst true 1 (Is t_.t.s.fr), .lst true 1 (Is t_.t.s.to), .lst true 1 (Is t_.t.s.id), .lst true 1 (Ls t_.t.s.cs), .val (.int .i64 t_.t.t.n), .lst true 1 (Is t_.t.t.fr), .lst true 1 (Is t_.t.t.to), .lst true 1 (Is t_.t.t.id), .lst true 1 (Ls t_.t.t.cs), .lst true 1 (Is t_.t.ob), .lst true 1 (Is t_.t.ar), .lst true 1 (Is t_.p)]]), (1, .mix 25 [[.val (.int .i64 0), .val (.slice none 0 0), .val (.slice none 0 0), .val (.slice none 0 0), .val (.slice none 0 0), .val (.int .i64 0), .val (.slice none 0 0), .val (.slice none 0 0), .val (.slice none 0 0), .val (.slice none 0 0), .val (.slice none 0 0), .val (.slice none 0 0), .val (.int .i64 0), .val (.slice none 0 0), .val (.slice none 0 0), .val (.slice none 0 0), .val (.slice none 0 0), .val (.int .i64 0), .val (.slice none 0 0), .val (.slice none 0 0), .val (.slice none 0 0), .val (.slice none 0 0), .val (.slice none 0 0), .val (.slice none 0 0), .val (.slice none 0 0)]]), (2, .row 1 (Is b6))], 3⟩) (fun b6 => b6 = e6) ?_ ?_
 · refine w_block ?_
   refine w_loopF h (fun s12 : List Int × Int => ⟨[(1, .adr 0 0 0), (2, .adr 1 0 0), (4, .own 2 0 s12.1.length), (18, .lst true 1 (Is t_.p)), (19, .val (.int .i64 (t_.p.length : Int))), (20, .val (.int .i64 s12.2))], [(0, .mix 25 [[.val (.int .i64 t_.s.s.n), .lst true 1 (Is t_.s.s.fr), .lst true 1 (Is t_.s.s.to), .lst true 1 (Is t_.s.s.id), .lst true 1 (Ls t_.s.s.cs), .val (.int .i64 t_.s.t.n), .lst true 1 (Is t_.s.t.fr), .lst true 1 (Is t_.s.t.to), .lst true 1 (Is t_.s.t.id), .lst true 1 (Ls t_.s.t.cs), .lst true 1 (Is t_.s.ob), .lst true 1 (Is t_.s.ar), .val (.int .i64 t_.t.s.n), .lst true 1 (Is t_.t.s.fr), .lst true 1 (Is t_.t.s.to), .lst true 1 (Is t_.t.s.id), .lst true 1 (Ls t_.t.s.cs), .val (.int .i64 t_.t.t.n), .lst true 1 (Is t_.t.t.fr), .lst true 1 (Is t_.t.t.to), .lst true 1 (Is t_.t.t.id), .lst true 1 (Ls t_.t.t.cs), .lst true 1 (Is t_.t.ob), .lst true 1 (Is t_.t.ar), .lst true 1 (Is t_.p)]]), (1, .mix 25 [[.val (.int .i64 0), .val (.slice none 0 0), .val (.slice none 0 0), .val (.slice none 0 0), .val (.slice none 0 0), .val (.int .i64 0), .val (.slice none 0 0), .val (.slice none 0 0), .val (.slice none 0 0), .val (.slice none 0 0), .val (.slice none 0 0), .val (.slice none 0 0), .val (.int .i64 0), .val (.slice none 0 0), .val (.slice none 0 0), .val (.slice none 0 0), .val (.slice none 0 0), .val (.int .i64 0), .val (.slice none 0 0), .val (.slice none 0 0), .val (.slice none 0 0), .val (.slice none 0 0), .val (.slice none 0 0), .val (.slice none 0 0), .val (.slice none 0 0)]]), (2, .row 1 (Is s12.1))], 3⟩) (Wk.rel [(0, 0), (1, 1), (2, 2)] (by simp) (by simp) (by rw [hP]; simp) (by simp) (by simp) (by simp [Cat.cells, Fn.cells, Tra.cells, Is_append, Is_one, Ls_append, Ls_one, Bs_append, Bs_one, Es_append, Es_one, Es_set', eB, eI, eL]) (by simp [hhOk, back, Cat.cells, Fn.cells, Tra.cells, Is_append, Is_one, Ls_append, Ls_one, Bs_append, Bs_one, Es_append, Es_one, Es_set', eB, eI, eL])) ?_
   clear h
   intro k12 s12 c12 h hk12
   refine w_seq ?_
   refine w_run mo (by rw [hN]; decide) fun K hK => ?_
   simp [-guardE_b, -Is_at, -Is_at', -Ls_at, -Ls_at', eL, eI, allInts, eP_Cat, eP_Fn, eP_Tra, Cat.cells, Fn.cells, Tra.cells]
   repeat (with_reducible refine And.intro ?_ ?_; · first | assumption | omega | (simp; done) | (simp; omega) | simp_all)
   refine hK _ ?_
   clear hK K
   refine tn ?_
   refine w_weak (st' := ⟨[(1, .adr 0 0 0), (2, .adr 1 0 0), (4, .own 2 0 s12.1.length), (18, .lst true 1 (Is t_.p)), (19, .val (.int .i64 (t_.p.length : Int))), (20, .val (.int .i64 s12.2)), (21, .val (.bool (decide (s12.2 < (t_.p.length : Int)))))], [(0, .mix 25 [[.val (.int .i64 t_.s.s.n), .lst true 1 (Is t_.s.s.fr), .lst true 1 (Is t_.s.s.to), .lst true 1 (Is t_.s.s.id), .lst true 1 (Ls t_.s.s.cs), .val (.int .i64 t_.s.t.n), .lst true 1 (Is t_.s.t.fr), .lst true 1 (Is t_.s.t.to), .lst true 1 (Is t_.s.t.id), .lst true 1 (Ls t_.s.t.cs), .lst true 1 (Is t_.s.ob), .lst true 1 (Is t_.s.ar), .val (.int .i64 t_.t.s.n), .lst true 1 (Is t_.t.s.fr), .lst true 1 (Is t_.t.s.to), .lst true 1 (Is t_.t.s.id), .lst true 1 (Ls t_.t.s.cs), .val (.int .i64 t_.t.t.n), .lst true 1 (Is t_.t.t.fr), .lst true 1 (Is t_.t.t.to), .lst true 1 (Is t_.t.t.id), .lst true 1 (Ls t_.t.t.cs), .lst true 1 (Is t_.t.ob), .lst true 1 (Is t_.t.ar), .lst true 1 (Is t_.p)]]), (1, .mix 25 [[.val (.int .i64 0), .val (.slice none 0 0), .val (.slice none 0 0), .val (.slice none 0 0), .val (.slice none 0 0), .val (.int .i64 0), .val (.slice none 0 0), .val (.slice none 0 0), .val (.slice none 0 0), .val (.slice none 0 0), .val (.slice none 0 0), .val (.slice none 0 0), .val (.int .i64 0), .val (.slice none 0 0), .val (.slice none 0 0), .val (.slice none 0 0), .val (.slice none 0 0), .val (.int .i64 0), .val (.slice none 0 0), .val (.slice none 0 0), .val (.slice none 0 0), .val (.slice none 0 0), .val (.slice none 0 0), .val (.slice none 0 0), .val (.slice none 0 0)]]), (2, .row 1 (Is s12.1))], 3⟩) (Wk.rel [(0, 0), (1, 1), (2, 2)] (by simp) (by simp) (by rw [hP]; simp) (by simp) (by simp) (by simp [Cat.cells, Fn.cells, Tra.cells, Is_append, Is_one, Ls_append, Ls_one, Bs_append, Bs_one, Es_append, Es_one, Es_set', eB, eI, eL]) (by simp [hhOk, back, Cat.cells, Fn.cells, Tra.cells, Is_append, Is_one, Ls_append, Ls_one, Bs_append, Bs_one, Es_append, Es_one, Es_set', eB, eI, eL])) ?_
   refine w_seq ?_
   refine w_cond rfl (fun g => ?_) fun g => ?_
   · have g13 : s12.2 < (t_.p.length : Int) := by first | simpa using g | (simp at g; exact g) | (simp at g; omega)
     clear g
     replace h := if_l g13 h
     refine w_skip ?_
     refine tn ?_
     refine w_seq ?_
     refine w_block ?_
     refine w_seq ?_
     refine w_run mo (by rw [hN]; decide) fun K hK => ?_
     replace h := ass_some h
     obtain ⟨a14, h⟩ := h
     simp [-guardE_b, -Is_at, -Is_at', -Ls_at, -Ls_at', eL, eI, allInts, eP_Cat, eP_Fn, eP_Tra, Cat.cells, Fn.cells, Tra.cells, at_I a14]
     repeat (with_reducible refine And.intro ?_ ?_; · first | assumption | omega | (simp; done) | (simp; omega) | simp_all)
     refine hK _ ?_
     clear hK K
     refine tn ?_
     refine w_weak (st' := ⟨[(1, .adr 0 0 0), (2, .adr 1 0 0), (4, .own 2 0 s12.1.length), (5, .val (.int .i64 s12.2)), (6, .val (.int .i64 (ix t_.p s12.2))), (18, .lst true 1 (Is t_.p)), (19, .val (.int .i64 (t_.p.length : Int))), (20, .val (.int .i64 s12.2))], [(0, .mix 25 [[.val (.int .i64 t_.s.s.n), .lst true 1 (Is t_.s.s.fr), .lst true 1 (Is t_.s.s.to), .lst true 1 (Is t_.s.s.id), .lst true 1 (Ls t_.s.s.cs), .val (.int .i64 t_.s.t.n), .lst true 1 (Is t_.s.t.fr), .lst true 1 (Is t_.s.t.to), .lst true 1 (Is t_.s.t.id), .lst true 1 (Ls t_.s.t.cs), .lst true 1 (Is t_.s.ob), .lst true 1 (Is t_.s.ar), .val (.int .i64 t_.t.s.n), .lst true 1 (Is t_.t.s.fr), .lst true 1 (Is t_.t.s.to), .lst true 1 (Is t_.t.s.id), .lst true 1 (Ls t_.t.s.cs), .val (.int .i64 t_.t.t.n), .lst true 1 (Is t_.t.t.fr), .lst true 1 (Is t_.t.t.to), .lst true 1 (Is t_.t.t.id), .lst true 1 (Ls t_.t.t.cs), .lst true 1 (Is t_.t.ob), .lst true 1 (Is t_.t.ar), .lst true 1 (Is t_.p)]]), (1, .mix 25 [[.val (.int .i64 0), .val (.slice none 0 0), .val (.slice none 0 0), .val (.slice none 0 0), .val (.slice none 0 0), .val (.int .i64 0), .val (.slice none 0 0), .val (.slice none 0 0), .val (.slice none 0 0), .val (.slice none 0 0), .val (.slice none 0 0), .val (.slice none 0 0), .val (.int .i64 0), .val (.slice none 0 0), .val (.slice none 0 0), .val (.slice none 0 0), .val (.slice none 0 0), .val (.int .i64 0), .val (.slice none 0 0), .val (.slice none 0 0), .val (.slice none 0 0), .val (.slice none 0 0), .val (.slice none 0 0), .val (.slice none 0 0), .val (.slice none 0 0)]]), (2, .row 1 (Is s12.1))], 3⟩) (Wk.rel [(0, 0), (1, 1), (2, 2)] (by simp) (by simp) (by rw [hP]; simp) (by simp) (by simp) (by simp [Cat.cells, Fn.cells, Tra.cells, Is_append, Is_one, Ls_append, Ls_one, Bs_append, Bs_one, Es_append, Es_one, Es_set', eB, eI, eL]) (by simp [hhOk, back, Cat.cells, Fn.cells, Tra.cells, Is_append, Is_one, Ls_append, Ls_one, Bs_append, Bs_one, Es_append, Es_one, Es_set', eB, eI, eL])) ?_
     refine w_run mo (by rw [hN]; decide) fun K hK => ?_
     simp [-guardE_b, -Is_at, -Is_at', -Ls_at, -Ls_at', eL, eI, allInts, eP_Cat, eP_Fn, eP_Tra, Cat.cells, Fn.cells, Tra.cells]
     repeat (with_reducible refine And.intro ?_ ?_; · first | assumption | omega | (simp; done) | (simp; omega) | simp_all)
     replace h := bind_some h
     obtain ⟨v15, hv15, h⟩ := h
     refine callA_intro (w_i_Category_inverse _ _ v15 hv15) (.cons (.field rfl (by simp [Cat.cells, Tra.cells]) (.cons .val (.cons .lst (.cons .lst (.cons .lst (.cons .lst .nil)))))) (.cons .val .nil)) ?_
     replace h := ass_some h
     obtain ⟨a16, h⟩ := h
     simp [-guardE_b, -Is_at, -Is_at', -Ls_at, -Ls_at', unk, unA, unE, unT, unC, flat, eL, eI, allInts, eP_Cat, eP_Fn, eP_Tra, Cat.cells, Fn.cells, Tra.cells, at_I a16]
     repeat (with_reducible refine And.intro ?_ ?_; · first | assumption | omega | (simp; done) | (simp; omega) | simp_all)
     refine hK _ ?_
     clear hK K
     refine bn ?_
     refine tn ?_
     refine w_weak (st' := ⟨[(1, .adr 0 0 0), (2, .adr 1 0 0), (4, .own 2 0 ((s12.1.set s12.2.toNat v15).length)), (18, .lst true 1 (Is t_.p)), (19, .val (.int .i64 (t_.p.length : Int))), (20, .val (.int .i64 s12.2))], [(0, .mix 25 [[.val (.int .i64 t_.s.s.n), .lst true 1 (Is t_.s.s.fr), .lst true 1 (Is t_.s.s.to), .lst true 1 (Is t_.s.s.id), .lst true 1 (Ls t_.s.s.cs), .val (.int .i64 t_.s.t.n), .lst true 1 (Is t_.s.t.fr), .lst true 1 (Is t_.s.t.to), .lst true 1 (Is t_.s.t.id), .lst true 1 (Ls t_.s.t.cs), .lst true 1 (Is t_.s.ob), .lst true 1 (Is t_.s.ar), .val (.int .i64 t_.t.s.n), .lst true 1 (Is t_.t.s.fr), .lst true 1 (Is t_.t.s.to), .lst true 1 (Is t_.t.s.id), .lst true 1 (Ls t_.t.s.cs), .val (.int .i64 t_.t.t.n), .lst true 1 (Is t_.t.t.fr), .lst true 1 (Is t_.t.t.to), .lst true 1 (Is t_.t.t.id), .lst true 1 (Ls t_.t.t.cs), .lst true 1 (Is t_.t.ob), .lst true 1 (Is t_.t.ar), .lst true 1 (Is t_.p)]]), (1, .mix 25 [[.val (.int .i64 0), .val (.slice none 0 0), .val (.slice none 0 0), .val (.slice none 0 0), .val (.slice none 0 0), .val (.int .i64 0), .val (.slice none 0 0), .val (.slice none 0 0), .val (.slice none 0 0), .val (.slice none 0 0), .val (.slice none 0 0), .val (.slice none 0 0), .val (.int .i64 0), .val (.slice none 0 0), .val (.slice none 0 0), .val (.slice none 0 0), .val (.slice none 0 0), .val (.int .i64 0), .val (.slice none 0 0), .val (.slice none 0 0), .val (.slice none 0 0), .val (.slice none 0 0), .val (.slice none 0 0), .val (.slice none 0 0), .val (.slice none 0 0)]]), (2, .row 1 (Is (s12.1.set s12.2.toNat v15)))], 3⟩) (Wk.rel [(0, 0), (1, 1), (2, 2)] (by simp) (by simp) (by rw [hP]; simp) (by simp) (by simp) (by simp [Cat.cells, Fn.cells, Tra.cells, Is_append, Is_one, Ls_append, Ls_one, Bs_append, Bs_one, Es_append, Es_one, Es_set', eB, eI, eL]) (by simp [hhOk, back, Cat.cells, Fn.cells, Tra.cells, Is_append, Is_one, Ls_append, Ls_one, Bs_append, Bs_one, Es_append, Es_one, Es_set', eB, eI, eL])) ?_
     refine w_run mo (by rw [hN]; decide) fun K hK => ?_
     replace h := ass_some h
     obtain ⟨a17, h⟩ := h
     simp [-guardE_b, -Is_at, -Is_at', -Ls_at, -Ls_at', eL, eI, allInts, eP_Cat, eP_Fn, eP_Tra, Cat.cells, Fn.cells, Tra.cells, wrap_id a17]
     repeat (with_reducible refine And.intro ?_ ?_; · first | assumption | omega | (simp; done) | (simp; omega) | simp_all)
     refine hK _ ?_
     clear hK K
     cases h
     exact rn (s' := (s12.1.set s12.2.toNat v15, s12.2 + 1)) hk12 (Wk.rel [(0, 0), (1, 1), (2, 2)] (by simp) (by simp) (by rw [hP]; simp) (by simp) (by simp) (by simp [Cat.cells, Fn.cells, Tra.cells, Is_append, Is_one, Ls_append, Ls_one, Bs_append, Bs_one, Es_append, Es_one, Es_set', eB, eI, eL]) (by simp [hhOk, back, Cat.cells, Fn.cells, Tra.cells, Is_append, Is_one, Ls_append, Ls_one, Bs_append, Bs_one, Es_append, Es_one, Es_set', eB, eI, eL]))
   have g13 : ¬ (s12.2 < (t_.p.length : Int)) := by first | simpa using g | (simp at g; exact g) | (simp at g; omega)
   clear g
   replace h := if_r g13 h
   refine w_exit ?_
   refine tx ?_
   refine lx ?_
   refine bh ?_
   cases h
   exact jn (b := s12.1) hk12 (Wk.rel [(0, 0), (1, 1), (2, 2)] (by simp) (by simp) (by rw [hP]; simp) (by simp) (by simp) (by simp [Cat.cells, Fn.cells, Tra.cells, Is_append, Is_one, Ls_append, Ls_one, Bs_append, Bs_one, Es_append, Es_one, Es_set', eB, eI, eL]) (by simp [hhOk, back, Cat.cells, Fn.cells, Tra.cells, Is_append, Is_one, Ls_append, Ls_one, Bs_append, Bs_one, Es_append, Es_one, Es_set', eB, eI, eL]))
 intro b6 hb6
 have h := h6
 rw [← hb6] at h
 clear h6
 try dsimp only at h
 refine w_seq ?_
 refine w_run mo (by rw [hN]; decide) fun K hK => ?_
 simp [-guardE_b, -Is_at, -Is_at', -Ls_at, -Ls_at', eL, eI, allInts, eP_Cat, eP_Fn, eP_Tra, Cat.cells, Fn.cells, Tra.cells]
 repeat (with_reducible refine And.intro ?_ ?_; · first | assumption | omega | (simp; done) | (simp; omega) | simp_all)
 replace h := bind_some h
 obtain ⟨v18, hv18, h⟩ := h
 refine callA_intro (w_i_transformation _ _ _ v18 hv18) (.cons (.field rfl (by simp [Cat.cells, Fn.cells, Tra.cells]) (.cons .val (.cons .lst (.cons .lst (.cons .lst (.cons .lst (.cons .val (.cons .lst (.cons .lst (.cons .lst (.cons .lst (.cons .lst (.cons .lst .nil))))))))))))) (.cons (.field rfl (by simp [Cat.cells, Fn.cells, Tra.cells]) (.cons .val (.cons .lst (.cons .lst (.cons .lst (.cons .lst (.cons .val (.cons .lst (.cons .lst (.cons .lst (.cons .lst (.cons .lst (.cons .lst .nil))))))))))))) (.cons (.whole (by simp) (by simp) (by simp)) .nil))) ?_
 simp [-guardE_b, -Is_at, -Is_at', -Ls_at, -Ls_at', unk, unA, unE, unT, unC, flat, eL, eI, allInts, eP_Cat, eP_Fn, eP_Tra, Cat.cells, Fn.cells, Tra.cells]
 repeat (with_reducible refine And.intro ?_ ?_; · first | assumption | omega | (simp; done) | (simp; omega) | simp_all)
 refine hK _ ?_
 clear hK K
 refine tn ?_
 refine w_weak (st' := ⟨[(2, .adr 0 0 0), (3, .val (.int .i64 0))], [(0, .mix 25 [[.val (.int .i64 v18.s.s.n), .own 1 0 v18.s.s.fr.length, .own 2 0 v18.s.s.to.length, .own 3 0 v18.s.s.id.length, .own 4 0 v18.s.s.cs.length, .val (.int .i64 v18.s.t.n), .own 5 0 v18.s.t.fr.length, .own 6 0 v18.s.t.to.length, .own 7 0 v18.s.t.id.length, .own 8 0 v18.s.t.cs.length, .own 9 0 v18.s.ob.length, .own 10 0 v18.s.ar.length, .val (.int .i64 v18.t.s.n), .own 11 0 v18.t.s.fr.length, .own 12 0 v18.t.s.to.length, .own 13 0 v18.t.s.id.length, .own 14 0 v18.t.s.cs.length, .val (.int .i64 v18.t.t.n), .own 15 0 v18.t.t.fr.length, .own 16 0 v18.t.t.to.length, .own 17 0 v18.t.t.id.length, .own 18 0 v18.t.t.cs.length, .own 19 0 v18.t.ob.length, .own 20 0 v18.t.ar.length, .own 21 0 v18.p.length]]), (1, .row 1 (Is v18.s.s.fr)), (2, .row 1 (Is v18.s.s.to)), (3, .row 1 (Is v18.s.s.id)), (4, .row 1 (Ls v18.s.s.cs)), (5, .row 1 (Is v18.s.t.fr)), (6, .row 1 (Is v18.s.t.to)), (7, .row 1 (Is v18.s.t.id)), (8, .row 1 (Ls v18.s.t.cs)), (9, .row 1 (Is v18.s.ob)), (10, .row 1 (Is v18.s.ar)), (11, .row 1 (Is v18.t.s.fr)), (12, .row 1 (Is v18.t.s.to)), (13, .row 1 (Is v18.t.s.id)), (14, .row 1 (Ls v18.t.s.cs)), (15, .row 1 (Is v18.t.t.fr)), (16, .row 1 (Is v18.t.t.to)), (17, .row 1 (Is v18.t.t.id)), (18, .row 1 (Ls v18.t.t.cs)), (19, .row 1 (Is v18.t.ob)), (20, .row 1 (Is v18.t.ar)), (21, .row 1 (Is v18.p))], 22⟩) (Wk.rel [(1, 0), (4, 1), (5, 2), (6, 3), (7, 4), (9, 5), (10, 6), (11, 7), (12, 8), (13, 9), (14, 10), (16, 11), (17, 12), (18, 13), (19, 14), (21, 15), (22, 16), (23, 17), (24, 18), (25, 19), (26, 20), (27, 21)] (by simp) (by simp) (by rw [hP]; simp) (by simp) (by simp) (by simp [Cat.cells, Fn.cells, Tra.cells, Is_append, Is_one, Ls_append, Ls_one, Bs_append, Bs_one, Es_append, Es_one, Es_set', eB, eI, eL]) (by simp [hhOk, back, Cat.cells, Fn.cells, Tra.cells, Is_append, Is_one, Ls_append, Ls_one, Bs_append, Bs_one, Es_append, Es_one, Es_set', eB, eI, eL])) ?_
 refine w_ret ?_
 have hr := Option.some.inj h
 rw [← hr]
 refine ⟨_, (.cell tf_61 rfl rfl rfl (by simp) (by simp) (.tmp .nil)), ?_⟩
 refine ⟨(.agg rfl (.one rfl rfl .nil)), [.val (.int .i64 v18.s.s.n), .lst true 1 (Is v18.s.s.fr), .lst true 1 (Is v18.s.s.to), .lst true 1 (Is v18.s.s.id), .lst true 1 (Ls v18.s.s.cs), .val (.int .i64 v18.s.t.n), .lst true 1 (Is v18.s.t.fr), .lst true 1 (Is v18.s.t.to), .lst true 1 (Is v18.s.t.id), .lst true 1 (Ls v18.s.t.cs), .lst true 1 (Is v18.s.ob), .lst true 1 (Is v18.s.ar), .val (.int .i64 v18.t.s.n), .lst true 1 (Is v18.t.s.fr), .lst true 1 (Is v18.t.s.to), .lst true 1 (Is v18.t.s.id), .lst true 1 (Ls v18.t.s.cs), .val (.int .i64 v18.t.t.n), .lst true 1 (Is v18.t.t.fr), .lst true 1 (Is v18.t.t.to), .lst true 1 (Is v18.t.t.id), .lst true 1 (Ls v18.t.t.cs), .lst true 1 (Is v18.t.ob), .lst true 1 (Is v18.t.ar), .lst true 1 (Is v18.p), .val (.int .i64 0)], [1, 2, 3, 4, 5, 6, 7, 8, 9, 10, 11, 12, 13, 14, 15, 16, 17, 18, 19, 20, 21], by simp [Cat.cells, Fn.cells, Tra.cells, Is_append, Is_one, Ls_append, Ls_one, Bs_append, Bs_one, Es_append, Es_one, Es_set', eB, eI, eL], by simp, (UpL.refl _)⟩
end Go.Vc.T

set_option maxRecDepth 100000
set_option linter.unusedSimpArgs false
set_option linter.unusedVariables false
namespace Go.Vc.T
open Go Go.Vc Go.Proofs
noncomputable def s_s_InverseTransformation (t_ : Tra) : Option (Tra × Int) :=
 (s_s_l07Is t_).bind fun v1 =>
 if ¬ (v1 = true) then
   some ((⟨(⟨(⟨0, [], [], [], []⟩ : Cat), (⟨0, [], [], [], []⟩ : Cat), [], []⟩ : Fn), (⟨(⟨0, [], [], [], []⟩ : Cat), (⟨0, [], [], [], []⟩ : Cat), [], []⟩ : Fn), []⟩ : Tra), 1)
 else
   (s_s_l07Inverse t_.s.t t_.p).bind fun v3 =>
   if ¬ (v3.2 = true) then
     some ((⟨(⟨(⟨0, [], [], [], []⟩ : Cat), (⟨0, [], [], [], []⟩ : Cat), [], []⟩ : Fn), (⟨(⟨0, [], [], [], []⟩ : Cat), (⟨0, [], [], [], []⟩ : Cat), [], []⟩ : Fn), []⟩ : Tra), 4)
   else
     (s_s_l07Make t_.t t_.s v3.1).bind fun v5 =>
     some (v5, 0)
set_option maxHeartbeats 4000000 in
theorem w_s_InverseTransformation (t_ : Tra) (r : Tra × Int) (h : s_s_InverseTransformation t_ = some r) : Contract Try.prog 34 [.agg (t_.cells true)] (.tup [.agg (r.1.cells true), .val (.int .i64 r.2)]) := by
 refine contract_introG (rvs := [.cell 2 61, .tmp 3]) (rs := [.agg (r.1.cells true), .val (.int .i64 r.2)]) Try.func34 rfl rfl rfl rfl (by simp [Try.f34]) fun F hN hP => ?_
 unfold s_s_InverseTransformation at h
 refine w_seq ?_
 refine w_run mo (by rw [hN]; decide) fun K hK => ?_
 simp [-guardE_b, -Is_at, -Is_at', -Ls_at, -Ls_at', eL, eI, allInts, eP_Cat, eP_Fn, eP_Tra, Cat.cells, Fn.cells, Tra.cells]
 repeat (with_reducible refine And.intro ?_ ?_; · first | assumption | omega | (simp; done) | (simp; omega) | simp_all)
 refine hK _ ?_
 clear hK K
 refine tn ?_
 refine w_weak (st' := ⟨[(1, .adr 0 0 0), (2, .adr 1 0 0)], [(0, .mix 25 [[.val (.int .i64 t_.s.s.n), .lst true 1 (Is t_.s.s.fr), .lst true 1 (Is t_.s.s.to), .lst true 1 (Is t_.s.s.id), .lst true 1 (Ls t_.s.s.cs), .val (.int .i64 t_.s.t.n), .lst true 1 (Is t_.s.t.fr), .lst true 1 (Is t_.s.t.to), .lst true 1 (Is t_.s.t.id), .lst true 1 (Ls t_.s.t.cs), .lst true 1 (Is t_.s.ob), .lst true 1 (Is t_.s.ar), .val (.int .i64 t_.t.s.n), .lst true 1 (Is t_.t.s.fr), .lst true 1 (Is t_.t.s.to), .lst true 1 (Is t_.t.s.id), .lst true 1 (Ls t_.t.s.cs), .val (.int .i64 t_.t.t.n), .lst true 1 (Is t_.t.t.fr), .lst true 1 (Is t_.t.t.to), .lst true 1 (Is t_.t.t.id), .lst true 1 (Ls t_.t.t.cs), .lst true 1 (Is t_.t.ob), .lst true 1 (Is t_.t.ar), .lst true 1 (Is t_.p)]]), (1, .mix 25 [[.val (.int .i64 0), .val (.slice none 0 0), .val (.slice none 0 0), .val (.slice none 0 0), .val (.slice none 0 0), .val (.int .i64 0), .val (.slice none 0 0), .val (.slice none 0 0), .val (.slice none 0 0), .val (.slice none 0 0), .val (.slice none 0 0), .val (.slice none 0 0), .val (.int .i64 0), .val (.slice none 0 0), .val (.slice none 0 0), .val (.slice none 0 0), .val (.slice none 0 0), .val (.int .i64 0), .val (.slice none 0 0), .val (.slice none 0 0), .val (.slice none 0 0), .val (.slice none 0 0), .val (.slice none 0 0), .val (.slice none 0 0), .val (.slice none 0 0)]])], 2⟩) (Wk.rel [(0, 0), (1, 1)] (by simp) (by simp) (by rw [hP]; simp) (by simp) (by simp) (by simp [Cat.cells, Fn.cells, Tra.cells, Is_append, Is_one, Ls_append, Ls_one, Bs_append, Bs_one, Es_append, Es_one, Es_set', eB, eI, eL]) (by simp [hhOk, back, Cat.cells, Fn.cells, Tra.cells, Is_append, Is_one, Ls_append, Ls_one, Bs_append, Bs_one, Es_append, Es_one, Es_set', eB, eI, eL])) ?_
 refine w_seq ?_
 refine w_seq ?_
 refine w_run mo (by rw [hN]; decide) fun K hK => ?_
 simp [-guardE_b, -Is_at, -Is_at', -Ls_at, -Ls_at', eL, eI, allInts, eP_Cat, eP_Fn, eP_Tra, Cat.cells, Fn.cells, Tra.cells]
 repeat (with_reducible refine And.intro ?_ ?_; · first | assumption | omega | (simp; done) | (simp; omega) | simp_all)
 replace h := bind_some h
 obtain ⟨v1, hv1, h⟩ := h
 refine callA_intro (w_s_l07Is _ v1 hv1) (.cons (.aggL (.cons .val (.cons .lst (.cons .lst (.cons .lst (.cons .lst (.cons .val (.cons .lst (.cons .lst (.cons .lst (.cons .lst (.cons .lst (.cons .lst (.cons .val (.cons .lst (.cons .lst (.cons .lst (.cons .lst (.cons .val (.cons .lst (.cons .lst (.cons .lst (.cons .lst (.cons .lst (.cons .lst (.cons .lst .nil)))))))))))))))))))))))))) .nil) ?_
 simp [-guardE_b, -Is_at, -Is_at', -Ls_at, -Ls_at', unk, unA, unE, unT, unC, flat, eL, eI, allInts, eP_Cat, eP_Fn, eP_Tra, Cat.cells, Fn.cells, Tra.cells]
 repeat (with_reducible refine And.intro ?_ ?_; · first | assumption | omega | (simp; done) | (simp; omega) | simp_all)
 refine hK _ ?_
 clear hK K
 refine tn ?_
 refine w_weak (st' := ⟨[(1, .adr 0 0 0), (2, .adr 1 0 0), (8, .val (.bool (!v1)))], [(0, .mix 25 [[.val (.int .i64 t_.s.s.n), .lst true 1 (Is t_.s.s.fr), .lst true 1 (Is t_.s.s.to), .lst true 1 (Is t_.s.s.id), .lst true 1 (Ls t_.s.s.cs), .val (.int .i64 t_.s.t.n), .lst true 1 (Is t_.s.t.fr), .lst true 1 (Is t_.s.t.to), .lst true 1 (Is t_.s.t.id), .lst true 1 (Ls t_.s.t.cs), .lst true 1 (Is t_.s.ob), .lst true 1 (Is t_.s.ar), .val (.int .i64 t_.t.s.n), .lst true 1 (Is t_.t.s.fr), .lst true 1 (Is t_.t.s.to), .lst true 1 (Is t_.t.s.id), .lst true 1 (Ls t_.t.s.cs), .val (.int .i64 t_.t.t.n), .lst true 1 (Is t_.t.t.fr), .lst true 1 (Is t_.t.t.to), .lst true 1 (Is t_.t.t.id), .lst true 1 (Ls t_.t.t.cs), .lst true 1 (Is t_.t.ob), .lst true 1 (Is t_.t.ar), .lst true 1 (Is t_.p)]]), (1, .mix 25 [[.val (.int .i64 0), .val (.slice none 0 0), .val (.slice none 0 0), .val (.slice none 0 0), .val (.slice none 0 0), .val (.int .i64 0), .val (.slice none 0 0), .val (.slice none 0 0), .val (.slice none 0 0), .val (.slice none 0 0), .val (.slice none 0 0), .val (.slice none 0 0), .val (.int .i64 0), .val (.slice none 0 0), .val (.slice none 0 0), .val (.slice none 0 0), .val (.slice none 0 0), .val (.int .i64 0), .val (.slice none 0 0), .val (.slice none 0 0), .val (.slice none 0 0), .val (.slice none 0 0), .val (.slice none 0 0), .val (.slice none 0 0), .val (.slice none 0 0)]])], 2⟩) (Wk.rel [(0, 0), (1, 1)] (by simp) (by simp) (by rw [hP]; simp) (by simp) (by simp) (by simp [Cat.cells, Fn.cells, Tra.cells, Is_append, Is_one, Ls_append, Ls_one, Bs_append, Bs_one, Es_append, Es_one, Es_set', eB, eI, eL]) (by simp [hhOk, back, Cat.cells, Fn.cells, Tra.cells, Is_append, Is_one, Ls_append, Ls_one, Bs_append, Bs_one, Es_append, Es_one, Es_set', eB, eI, eL])) ?_
 refine w_cond rfl (fun g => ?_) fun g => ?_
 · have g2 : ¬ (v1 = true) := by first | simpa using g | (simp at g; exact g) | (simp at g; omega)
   clear g
   replace h := if_l g2 h
   refine w_seq ?_
   refine w_run mo (by rw [hN]; decide) fun K hK => ?_
   simp [-guardE_b, -Is_at, -Is_at', -Ls_at, -Ls_at', eL, eI, allInts, eP_Cat, eP_Fn, eP_Tra, Cat.cells, Fn.cells, Tra.cells]
   repeat (with_reducible refine And.intro ?_ ?_; · first | assumption | omega | (simp; done) | (simp; omega) | simp_all)
   refine hK _ ?_
   clear hK K
   refine tn ?_
   refine w_weak (st' := ⟨[(2, .adr 0 0 0), (3, .val (.int .i64 1))], [(0, .mix 25 [[.val (.int .i64 0), .val (.slice none 0 0), .val (.slice none 0 0), .val (.slice none 0 0), .val (.slice none 0 0), .val (.int .i64 0), .val (.slice none 0 0), .val (.slice none 0 0), .val (.slice none 0 0), .val (.slice none 0 0), .val (.slice none 0 0), .val (.slice none 0 0), .val (.int .i64 0), .val (.slice none 0 0), .val (.slice none 0 0), .val (.slice none 0 0), .val (.slice none 0 0), .val (.int .i64 0), .val (.slice none 0 0), .val (.slice none 0 0), .val (.slice none 0 0), .val (.slice none 0 0), .val (.slice none 0 0), .val (.slice none 0 0), .val (.slice none 0 0)]])], 1⟩) (Wk.rel [(1, 0)] (by simp) (by simp) (by rw [hP]; simp) (by simp) (by simp) (by simp [Cat.cells, Fn.cells, Tra.cells, Is_append, Is_one, Ls_append, Ls_one, Bs_append, Bs_one, Es_append, Es_one, Es_set', eB, eI, eL]) (by simp [hhOk, back, Cat.cells, Fn.cells, Tra.cells, Is_append, Is_one, Ls_append, Ls_one, Bs_append, Bs_one, Es_append, Es_one, Es_set', eB, eI, eL])) ?_
   refine w_ret ?_
   refine tr ?_
   have hr := Option.some.inj h
   rw [← hr]
   refine ⟨_, (.cell tf_61 rfl rfl rfl (by simp) (by simp) (.tmp .nil)), ?_⟩
   refine ⟨(.agg rfl (.one rfl rfl .nil)), [.val (.int .i64 0), .val (.slice none 0 0), .val (.slice none 0 0), .val (.slice none 0 0), .val (.slice none 0 0), .val (.int .i64 0), .val (.slice none 0 0), .val (.slice none 0 0), .val (.slice none 0 0), .val (.slice none 0 0), .val (.slice none 0 0), .val (.slice none 0 0), .val (.int .i64 0), .val (.slice none 0 0), .val (.slice none 0 0), .val (.slice none 0 0), .val (.slice none 0 0), .val (.int .i64 0), .val (.slice none 0 0), .val (.slice none 0 0), .val (.slice none 0 0), .val (.slice none 0 0), .val (.slice none 0 0), .val (.slice none 0 0), .val (.slice none 0 0), .val (.int .i64 1)], [], by simp [Cat.cells, Fn.cells, Tra.cells, Is_append, Is_one, Ls_append, Ls_one, Bs_append, Bs_one, Es_append, Es_one, Es_set', eB, eI, eL], by simp, (.cons .refl (.cons .nil (.cons .nil (.cons .nil (.cons .nil (.cons .refl (.cons .nil (.cons .nil (.cons .nil (.cons .nil (.cons .nil (.cons .nil (.cons .refl (.cons .nil (.cons .nil (.cons .nil (.cons .nil (.cons .refl (.cons .nil (.cons .nil (.cons .nil (.cons .nil (.cons .nil (.cons .nil (.cons .nil (.cons .refl .nil))))))))))))))))))))))))))⟩
 have g2 : ¬ (¬ (v1 = true)) := by first | simpa using g | (simp at g; exact g) | (simp at g; omega)
 clear g
 replace h := if_r g2 h
 refine w_skip ?_
 refine tn ?_
 refine w_seq ?_
 refine w_run mo (by rw [hN]; decide) fun K hK => ?_
 simp [-guardE_b, -Is_at, -Is_at', -Ls_at, -Ls_at', eL, eI, allInts, eP_Cat, eP_Fn, eP_Tra, Cat.cells, Fn.cells, Tra.cells]
 repeat (with_reducible refine And.intro ?_ ?_; · first | assumption | omega | (simp; done) | (simp; omega) | simp_all)
 replace h := bind_some h
 obtain ⟨v3, hv3, h⟩ := h
 refine callA_intro (w_s_l07Inverse _ _ v3 hv3) (.cons (.aggL (.cons .val (.cons .lst (.cons .lst (.cons .lst (.cons .lst .nil)))))) (.cons .lst .nil)) ?_
 simp [-guardE_b, -Is_at, -Is_at', -Ls_at, -Ls_at', unk, unA, unE, unT, unC, flat, eL, eI, allInts, eP_Cat, eP_Fn, eP_Tra, Cat.cells, Fn.cells, Tra.cells]
 repeat (with_reducible refine And.intro ?_ ?_; · first | assumption | omega | (simp; done) | (simp; omega) | simp_all)
 refine hK _ ?_
 clear hK K
 refine tn ?_
 refine w_weak (st' := ⟨[(1, .adr 0 0 0), (2, .adr 1 0 0), (4, .own 2 0 v3.1.length), (5, .val (.bool v3.2))], [(0, .mix 25 [[.val (.int .i64 t_.s.s.n), .lst true 1 (Is t_.s.s.fr), .lst true 1 (Is t_.s.s.to), .lst true 1 (Is t_.s.s.id), .lst true 1 (Ls t_.s.s.cs), .val (.int .i64 t_.s.t.n), .lst true 1 (Is t_.s.t.fr), .lst true 1 (Is t_.s.t.to), .lst true 1 (Is t_.s.t.id), .lst true 1 (Ls t_.s.t.cs), .lst true 1 (Is t_.s.ob), .lst true 1 (Is t_.s.ar), .val (.int .i64 t_.t.s.n), .lst true 1 (Is t_.t.s.fr), .lst true 1 (Is t_.t.s.to), .lst true 1 (Is t_.t.s.id), .lst true 1 (Ls t_.t.s.cs), .val (.int .i64 t_.t.t.n), .lst true 1 (Is t_.t.t.fr), .lst true 1 (Is t_.t.t.to), .lst true 1 (Is t_.t.t.id), .lst true 1 (Ls t_.t.t.cs), .lst true 1 (Is t_.t.ob), .lst true 1 (Is t_.t.ar), .lst true 1 (Is t_.p)]]), (1, .mix 25 [[.val (.int .i64 0), .val (.slice none 0 0), .val (.slice none 0 0), .val (.slice none 0 0), .val (.slice none 0 0), .val (.int .i64 0), .val (.slice none 0 0), .val (.slice none 0 0), .val (.slice none 0 0), .val (.slice none 0 0), .val (.slice none 0 0), .val (.slice none 0 0), .val (.int .i64 0), .val (.slice none 0 0), .val (.slice none 0 0), .val (.slice none 0 0), .val (.slice none 0 0), .val (.int .i64 0), .val (.slice none 0 0), .val (.slice none 0 0), .val (.slice none 0 0), .val (.slice none 0 0), .val (.slice none 0 0), .val (.slice none 0 0), .val (.slice none 0 0)]]), (2, .row 1 (Is v3.1))], 3⟩) (Wk.rel [(0, 0), (1, 1), (2, 2)] (by simp) (by simp) (by rw [hP]; simp) (by simp) (by simp) (by simp [Cat.cells, Fn.cells, Tra.cells, Is_append, Is_one, Ls_append, Ls_one, Bs_append, Bs_one, Es_append, Es_one, Es_set', eB, eI, eL]) (by simp [hhOk, back, Cat.cells, Fn.cells, Tra.cells, Is_append, Is_one, Ls_append, Ls_one, Bs_append, Bs_one, Es_append, Es_one, Es_set', eB, eI, eL])) ?_
 refine w_seq ?_
 refine w_seq ?_
 refine w_run mo (by rw [hN]; decide) fun K hK => ?_
 simp [-guardE_b, -Is_at, -Is_at', -Ls_at, -Ls_at', eL, eI, allInts, eP_Cat, eP_Fn, eP_Tra, Cat.cells, Fn.cells, Tra.cells]
 repeat (with_reducible refine And.intro ?_ ?_; · first | assumption | omega | (simp; done) | (simp; omega) | simp_all)
 refine hK _ ?_
 clear hK K
 refine tn ?_
 refine w_weak (st' := ⟨[(1, .adr 0 0 0), (2, .adr 1 0 0), (4, .own 2 0 v3.1.length), (20, .val (.bool (!v3.2)))], [(0, .mix 25 [[.val (.int .i64 t_.s.s.n), .lst true 1 (Is t_.s.s.fr), .lst true 1 (Is t_.s.s.to), .lst true 1 (Is t_.s.s.id), .lst true 1 (Ls t_.s.s.cs), .val (.int .i64 t_.s.t.n), .lst true 1 (Is t_.s.t.fr), .lst true 1 (Is t_.s.t.to), .lst true 1 (Is t_.s.t.id), .lst true 1 (Ls t_.s.t.cs), .lst true 1 (Is t_.s.ob), .lst true 1 (Is t_.s.ar), .val (.int .i64 t_.t.s.n), .lst true 1 (Is t_.t.s.fr), .lst true 1 (Is t_.t.s.to), .lst true 1 (Is t_.t.s.id), .lst true 1 (Ls t_.t.s.cs), .val (.int .i64 t_.t.t.n), .lst true 1 (Is t_.t.t.fr), .lst true 1 (Is t_.t.t.to), .lst true 1 (Is t_.t.t.id), .lst true 1 (Ls t_.t.t.cs), .lst true 1 (Is t_.t.ob), .lst true 1 (Is t_.t.ar), .lst true 1 (Is t_.p)]]), (1, .mix 25 [[.val (.int .i64 0), .val (.slice none 0 0), .val (.slice none 0 0), .val (.slice none 0 0), .val (.slice none 0 0), .val (.int .i64 0), .val (.slice none 0 0), .val (.slice none 0 0), .val (.slice none 0 0), .val (.slice none 0 0), .val (.slice none 0 0), .val (.slice none 0 0), .val (.int .i64 0), .val (.slice none 0 0), .val (.slice none 0 0), .val (.slice none 0 0), .val (.slice none 0 0), .val (.int .i64 0), .val (.slice none 0 0), .val (.slice none 0 0), .val (.slice none 0 0), .val (.slice none 0 0), .val (.slice none 0 0), .val (.slice none 0 0), .val (.slice none 0 0)]]), (2, .row 1 (Is v3.1))], 3⟩) (Wk.rel [(0, 0), (1, 1), (2, 2)] (by simp) (by simp) (by rw [hP]; simp) (by simp) (by simp) (by simp [Cat.cells, Fn.cells, Tra.cells, Is_append, Is_one, Ls_append, Ls_one, Bs_append, Bs_one, Es_append, Es_one, Es_set', eB, eI, eL]) (by simp [hhOk, back, Cat.cells, Fn.cells, Tra.cells, Is_append, Is_one, Ls_append, Ls_one, Bs_append, Bs_one, Es_append, Es_one, Es_set', eB, eI, eL])) ?_
 refine w_cond rfl (fun g => ?_) fun g => ?_
 · have g4 : ¬ (v3.2 = true) := by first | simpa using g | (simp at g; exact g) | (simp at g; omega)
   clear g
   replace h := if_l g4 h
   refine w_seq ?_
   refine w_run mo (by rw [hN]; decide) fun K hK => ?_
   simp [-guardE_b, -Is_at, -Is_at', -Ls_at, -Ls_at', eL, eI, allInts, eP_Cat, eP_Fn, eP_Tra, Cat.cells, Fn.cells, Tra.cells]
   repeat (with_reducible refine And.intro ?_ ?_; · first | assumption | omega | (simp; done) | (simp; omega) | simp_all)
   refine hK _ ?_
   clear hK K
   refine tn ?_
   refine w_weak (st' := ⟨[(2, .adr 0 0 0), (3, .val (.int .i64 4))], [(0, .mix 25 [[.val (.int .i64 0), .val (.slice none 0 0), .val (.slice none 0 0), .val (.slice none 0 0), .val (.slice none 0 0), .val (.int .i64 0), .val (.slice none 0 0), .val (.slice none 0 0), .val (.slice none 0 0), .val (.slice none 0 0), .val (.slice none 0 0), .val (.slice none 0 0), .val (.int .i64 0), .val (.slice none 0 0), .val (.slice none 0 0), .val (.slice none 0 0), .val (.slice none 0 0), .val (.int .i64 0), .val (.slice none 0 0), .val (.slice none 0 0), .val (.slice none 0 0), .val (.slice none 0 0), .val (.slice none 0 0), .val (.slice none 0 0), .val (.slice none 0 0)]])], 1⟩) (Wk.rel [(1, 0)] (by simp) (by simp) (by rw [hP]; simp) (by simp) (by simp) (by simp [Cat.cells, Fn.cells, Tra.cells, Is_append, Is_one, Ls_append, Ls_one, Bs_append, Bs_one, Es_append, Es_one, Es_set', eB, eI, eL]) (by simp [hhOk, back, Cat.cells, Fn.cells, Tra.cells, Is_append, Is_one, Ls_append, Ls_one, Bs_append, Bs_one, Es_append, Es_one, Es_set', eB, eI, eL])) ?_
   refine w_ret ?_
   refine tr ?_
   have hr := Option.some.inj h
   rw [← hr]
   refine ⟨_, (.cell tf_61 rfl rfl rfl (by simp) (by simp) (.tmp .nil)), ?_⟩
   refine ⟨(.agg rfl (.one rfl rfl .nil)), [.val (.int .i64 0), .val (.slice none 0 0), .val (.slice none 0 0), .val (.slice none 0 0), .val (.slice none 0 0), .val (.int .i64 0), .val (.slice none 0 0), .val (.slice none 0 0), .val (.slice none 0 0), .val (.slice none 0 0), .val (.slice none 0 0), .val (.slice none 0 0), .val (.int .i64 0), .val (.slice none 0 0), .val (.slice none 0 0), .val (.slice none 0 0), .val (.slice none 0 0), .val (.int .i64 0), .val (.slice none 0 0), .val (.slice none 0 0), .val (.slice none 0 0), .val (.slice none 0 0), .val (.slice none 0 0), .val (.slice none 0 0), .val (.slice none 0 0), .val (.int .i64 4)], [], by simp [Cat.cells, Fn.cells, Tra.cells, Is_append, Is_one, Ls_append, Ls_one, Bs_append, Bs_one, Es_append, Es_one, Es_set', eB, eI, eL], by simp, (.cons .refl (.cons .nil (.cons .nil (.cons .nil (.cons .nil (.cons .refl (.cons .nil (.cons .nil (.cons .nil (.cons .nil (.cons .nil (.cons .nil (.cons .refl (.cons .nil (.cons .nil (.cons .nil (.cons .nil (.cons .refl (.cons .nil (.cons .nil (.cons .nil (.cons .nil (.cons .nil (.cons .nil (.cons .nil (.cons .refl .nil))))))))))))))))))))))))))⟩
 have g4 : ¬ (¬ (v3.2 = true)) := by first | simpa using g | (simp at g; exact g) | (simp at g; omega)
 clear g
 replace h := if_r g4 h
 refine w_skip ?_
 refine tn ?_
 refine w_seq ?_
 refine w_run mo (by rw [hN]; decide) fun K hK => ?_
 simp [-guardE_b, -Is_at, -Is_at', -Ls_at, -Ls_at', eL, eI, allInts, eP_Cat, eP_Fn, eP_Tra, Cat.cells, Fn.cells, Tra.cells]
 repeat (with_reducible refine And.intro ?_ ?_; · first | assumption | omega | (simp; done) | (simp; omega) | simp_all)
 replace h := bind_some h
 obtain ⟨v5, hv5, h⟩ := h
 refine callA_intro (w_s_l07Make _ _ _ v5 hv5) (.cons (.aggL (.cons .val (.cons .lst (.cons .lst (.cons .lst (.cons .lst (.cons .val (.cons .lst (.cons .lst (.cons .lst (.cons .lst (.cons .lst (.cons .lst .nil))))))))))))) (.cons (.aggL (.cons .val (.cons .lst (.cons .lst (.cons .lst (.cons .lst (.cons .val (.cons .lst (.cons .lst (.cons .lst (.cons .lst (.cons .lst (.cons .lst .nil))))))))))))) (.cons (.whole (by simp) (by simp) (by simp)) .nil))) ?_
 simp [-guardE_b, -Is_at, -Is_at', -Ls_at, -Ls_at', unk, unA, unE, unT, unC, flat, eL, eI, allInts, eP_Cat, eP_Fn, eP_Tra, Cat.cells, Fn.cells, Tra.cells]
 repeat (with_reducible refine And.intro ?_ ?_; · first | assumption | omega | (simp; done) | (simp; omega) | simp_all)
 refine hK _ ?_
 clear hK K
 refine tn ?_
 refine w_weak (st' := ⟨[(2, .adr 0 0 0), (3, .val (.int .i64 0))], [(0, .mix 25 [[.val (.int .i64 v5.s.s.n), .own 1 0 v5.s.s.fr.length, .own 2 0 v5.s.s.to.length, .own 3 0 v5.s.s.id.length, .own 4 0 v5.s.s.cs.length, .val (.int .i64 v5.s.t.n), .own 5 0 v5.s.t.fr.length, .own 6 0 v5.s.t.to.length, .own 7 0 v5.s.t.id.length, .own 8 0 v5.s.t.cs.length, .own 9 0 v5.s.ob.length, .own 10 0 v5.s.ar.length, .val (.int .i64 v5.t.s.n), .own 11 0 v5.t.s.fr.length, .own 12 0 v5.t.s.to.length, .own 13 0 v5.t.s.id.length, .own 14 0 v5.t.s.cs.length, .val (.int .i64 v5.t.t.n), .own 15 0 v5.t.t.fr.length, .own 16 0 v5.t.t.to.length, .own 17 0 v5.t.t.id.length, .own 18 0 v5.t.t.cs.length, .own 19 0 v5.t.ob.length, .own 20 0 v5.t.ar.length, .own 21 0 v5.p.length]]), (1, .row 1 (Is v5.s.s.fr)), (2, .row 1 (Is v5.s.s.to)), (3, .row 1 (Is v5.s.s.id)), (4, .row 1 (Ls v5.s.s.cs)), (5, .row 1 (Is v5.s.t.fr)), (6, .row 1 (Is v5.s.t.to)), (7, .row 1 (Is v5.s.t.id)), (8, .row 1 (Ls v5.s.t.cs)), (9, .row 1 (Is v5.s.ob)), (10, .row 1 (Is v5.s.ar)), (11, .row 1 (Is v5.t.s.fr)), (12, .row 1 (Is v5.t.s.to)), (13, .row 1 (Is v5.t.s.id)), (14, .row 1 (Ls v5.t.s.cs)), (15, .row 1 (Is v5.t.t.fr)), (16, .row 1 (Is v5.t.t.to)), (17, .row 1 (Is v5.t.t.id)), (18, .row 1 (Ls v5.t.t.cs)), (19, .row 1 (Is v5.t.ob)), (20, .row 1 (Is v5.t.ar)), (21, .row 1 (Is v5.p))], 22⟩) (Wk.rel [(1, 0), (4, 1), (5, 2), (6, 3), (7, 4), (9, 5), (10, 6), (11, 7), (12, 8), (13, 9), (14, 10), (16, 11), (17, 12), (18, 13), (19, 14), (21, 15), (22, 16), (23, 17), (24, 18), (25, 19), (26, 20), (27, 21)] (by simp) (by simp) (by rw [hP]; simp) (by simp) (by simp) (by simp [Cat.cells, Fn.cells, Tra.cells, Is_append, Is_one, Ls_append, Ls_one, Bs_append, Bs_one, Es_append, Es_one, Es_set', eB, eI, eL]) (by simp [hhOk, back, Cat.cells, Fn.cells, Tra.cells, Is_append, Is_one, Ls_append, Ls_one, Bs_append, Bs_one, Es_append, Es_one, Es_set', eB, eI, eL])) ?_
 refine w_ret ?_
 have hr := Option.some.inj h
 rw [← hr]
 refine ⟨_, (.cell tf_61 rfl rfl rfl (by simp) (by simp) (.tmp .nil)), ?_⟩
 refine ⟨(.agg rfl (.one rfl rfl .nil)), [.val (.int .i64 v5.s.s.n), .lst true 1 (Is v5.s.s.fr), .lst true 1 (Is v5.s.s.to), .lst true 1 (Is v5.s.s.id), .lst true 1 (Ls v5.s.s.cs), .val (.int .i64 v5.s.t.n), .lst true 1 (Is v5.s.t.fr), .lst true 1 (Is v5.s.t.to), .lst true 1 (Is v5.s.t.id), .lst true 1 (Ls v5.s.t.cs), .lst true 1 (Is v5.s.ob), .lst true 1 (Is v5.s.ar), .val (.int .i64 v5.t.s.n), .lst true 1 (Is v5.t.s.fr), .lst true 1 (Is v5.t.s.to), .lst true 1 (Is v5.t.s.id), .lst true 1 (Ls v5.t.s.cs), .val (.int .i64 v5.t.t.n), .lst true 1 (Is v5.t.t.fr), .lst true 1 (Is v5.t.t.to), .lst true 1 (Is v5.t.t.id), .lst true 1 (Ls v5.t.t.cs), .lst true 1 (Is v5.t.ob), .lst true 1 (Is v5.t.ar), .lst true 1 (Is v5.p), .val (.int .i64 0)], [1, 2, 3, 4, 5, 6, 7, 8, 9, 10, 11, 12, 13, 14, 15, 16, 17, 18, 19, 20, 21], by simp [Cat.cells, Fn.cells, Tra.cells, Is_append, Is_one, Ls_append, Ls_one, Bs_append, Bs_one, Es_append, Es_one, Es_set', eB, eI, eL], by simp, (UpL.refl _)⟩
end Go.Vc.T
