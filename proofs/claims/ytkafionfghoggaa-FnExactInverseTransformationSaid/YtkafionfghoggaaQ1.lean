/- A part of the proof: a verified generator of conditions, and what each function of the program does. -/
import Derived.Test.YtkafionfghoggaaQ0
set_option maxRecDepth 100000
set_option linter.unusedSimpArgs false
set_option linter.unusedVariables false

namespace Go.Vc
open Go
structure Mu where
 sz : Nat
 es : List (List AV)
 fs : List (List AV)
def Mu.none : Mu := ⟨0, [], []⟩
def resV : AV → Option Value
 | .val v => if scB v then some v else Option.none
 | .tup [] => some (.tuple #[])
 | _ => Option.none
theorem resV_rel {w : World} {R : Nat → Prop} {ρ : Nat → Option Bk} {res : AV} {rv : Value} (h : resV res = some rv) : XRel w R ρ rv res := by
 unfold resV at h
 split at h
 · split at h
   · rename_i hs; cases h; exact .r (.val (scB_sc hs))
   cases h
 · cases h; exact .tup rfl fun k hk => by simp at hk
 cases h
structure MPre (w : World) (R : Nat → Prop) (o : Nat → Option (List Nat)) (ρ : Nat → Option Bk) (ms : List Mu) (vals : Array Value) (args : List AV) : Prop where
 hR : ∀ b, R b → b < w.heap.size ∧ o b = none
 ho : ∀ b L, o b = some L → b < w.heap.size
 ent : ∀ j bk, j < ms.length → ρ j = some bk → ∃ v, Hdr v bk (ms.getD j .none).sz ∧ TRel w R o [j] v (.lst true (ms.getD j .none).sz (ms.getD j .none).es)
 lim : ∀ j bk, ρ j = some bk → j < ms.length
 size : vals.size = args.length
 args : ∀ k, k < args.length → XRel w R ρ (vals.getD k undef) (args.getD k .bot)
structure MPost (w w' : World) (R : Nat → Prop) (o : Nat → Option (List Nat)) (ρ : Nat → Option Bk) (ms : List Mu) : Prop where
 os : w'.os = w.os
 tape : w'.tape = w.tape
 output : w'.output = w.output
 size : w.heap.size ≤ w'.heap.size
 keep : ∀ b, b < w.heap.size → o b = none → w'.heap[b]? = w.heap[b]?
 ex : ∃ o', (∀ b L, o' b = some L → b < w'.heap.size ∧ (w.heap.size ≤ b ∨ ∃ L', o b = some L')) ∧
   ∀ j bk, j < ms.length → ρ j = some bk → ∃ v, Hdr v bk (ms.getD j .none).sz ∧ TRel w' R o' [j] v (.lst true (ms.getD j .none).sz (ms.getD j .none).fs)
structure MContract (P : Program) (f : Nat) (args : List AV) (ms : List Mu) (res : AV) : Prop where
 enters : ∃ fn, P.funcs[f]? = some fn ∧ (fn.name == "runtime.NumGoroutine") = false ∧ fn.body.isSome = true
 len : ∀ j, j < ms.length → (ms.getD j .none).fs.length = (ms.getD j .none).es.length
 calls : ∃ rv, resV res = some rv ∧ ∀ (w : World) (R : Nat → Prop) (o : Nat → Option (List Nat)) (ρ : Nat → Option Bk) (vals : Array Value), MPre w R o ρ ms vals args →
   Calls P f vals w fun e w' => e = .returned rv ∧ MPost w w' R o ρ ms
inductive MArg (m : List Nat) : AV → AV → Prop
 | val {v} : MArg m (.val v) (.val v)
 | nil {u sz} : MArg m (.val (.slice none 0 0)) (.lst u sz [])
 | lst {u u' sz es} : MArg m (.lst u sz es) (.lst u' sz es)
 | own {j off n} : j < m.length → MArg m (.own (m.getD j 0) off n) (.own j off n)
 | agg {as bs} : as.length = bs.length → (∀ k, k < as.length → MArg m (as.getD k .bot) (bs.getD k .bot)) → MArg m (.agg as) (.agg bs)
def ρc (m : List Nat) (ρ : Nat → Option Bk) : Nat → Option Bk := fun j => if j < m.length then ρ (m.getD j 0) else none
theorem MArg.rel {w : World} {R : Nat → Prop} {ρ : Nat → Option Bk} {m : List Nat} {a b : AV} (h : MArg m a b) : ∀ {v : Value}, XRel w R ρ v a → XRel w R (ρc m ρ) v b := by
 induction h with
 | val => intro v hx; cases hx with | r hx => exact .r hx
 | nil => intro v hx; obtain ⟨rfl, _⟩ := hx.val_eq; exact .r (.nil (by decide))
 | lst => intro v hx; exact .r hx.lst_eq.flag
 | @own j off n hj =>
   intro v hx
   have e : ∀ k, ρ (m.getD j 0) = some k → ρc m ρ j = some k := fun k hk => by simp only [ρc]; rw [if_pos hj]; exact hk
   rcases hx.own_eq with ⟨s0, c0, hb, rfl, rfl, rfl⟩ | ⟨b, bsz, cap, cc, x0, hb, rfl, h5, h6, h7, h8, h9⟩
   · exact .own0 (e _ hb)
   exact .own (e _ hb) h5 h6 h7 h8 h9
 | agg hl _ ih =>
   intro v hx
   obtain ⟨cs, rfl, h1, h2, h3⟩ := hx.agg_eq
   exact .agg (by omega) (fun k hk => h2 k (by omega)) fun k hk => ih k (by omega) (h3 k (by omega))
inductive At (h : HP) (mu : Mu) (id : Nat) : List Nat → Prop
 | root : h id = some (.row mu.sz mu.es) → At h mu id [id]
 | cell {r i k szr esr} : h id = some (.ali r i k mu.sz) → h r = some (.row szr esr) → i < esr.length → k < szr → (esr.getD i []).getD k .bot = .lst true mu.sz mu.es → At h mu id [r, i, k]
structure Turn (ms : List Mu) (P : Nat → List Nat) (r : Nat) (sz : Nat) (es fs : List (List AV)) : Prop where
 whole : ∀ j, j < ms.length → P j = [r] → fs = (ms.getD j .none).fs
 len : fs.length = es.length
 row : (∀ j, j < ms.length → P j ≠ [r]) → ∀ i, i < es.length → (fs.getD i []).length = (es.getD i []).length
 hit : ∀ i k j, j < ms.length → P j = [r, i, k] → i < es.length → k < sz → (fs.getD i []).getD k .bot = .lst true (ms.getD j .none).sz (ms.getD j .none).fs
 miss : ∀ i k, i < es.length → k < sz → (∀ j, j < ms.length → P j ≠ [r] ∧ P j ≠ [r, i, k]) → (fs.getD i []).getD k .bot = (es.getD i []).getD k .bot
structure MCall (h : HP) (n : Nat) (ms : List Mu) (m : List Nat) (P : Nat → List Nat) (sets : List (Nat × Ent)) (dels : List Nat) : Prop where
 len : m.length = ms.length
 at_ : ∀ j, j < ms.length → At h (ms.getD j .none) (m.getD j 0) (P j)
 apart : ∀ i j, i < ms.length → j < ms.length → i ≠ j → ¬ P i <+: P j
 nodup : (sets.map Prod.fst).Nodup
 hsets : ∀ r e, look r sets = some e → ∃ sz es fs, h r = some (.row sz es) ∧ e = .row sz fs ∧ Turn ms P r sz es fs
 all : ∀ j r M, j < ms.length → P j = r :: M → (look r sets).isSome = true
 hdels : ∀ x ∈ dels, x < n
 alis : ∀ id c i k s, id < n → h id = some (.ali c i k s) → id ∈ dels ∨ ∃ d r, Vc.root h d c = some r ∧ look r sets = none
theorem root_det {h : HP} : ∀ (d d' c r r' : Nat), Vc.root h d c = some r → Vc.root h d' c = some r' → r = r' := by
 intro d
 induction d with
 | zero => intro d' c r r' h1; cases h1
 | succ d ih =>
   intro d' c r r' h1 h2
   cases d' with
   | zero => cases h2
   | succ d' =>
     unfold Vc.root at h1 h2
     cases he : h c with
     | none => simp [he] at h1
     | some e =>
       cases e with
       | ali c2 i k s => simp only [he] at h1 h2; exact ih d' c2 r r' h1 h2
       | mix => simp only [he, Option.some.injEq] at h1 h2; rw [← h1, ← h2]
       | row => simp only [he, Option.some.injEq] at h1 h2; rw [← h1, ← h2]
theorem At.head {h : HP} {mu : Mu} {id : Nat} {L : List Nat} (ha : At h mu id L) : ∃ r M, L = r :: M ∧ ∃ sz es, h r = some (.row sz es) := by
 cases ha with
 | root h1 => exact ⟨_, _, rfl, _, _, h1⟩
 | cell h1 h2 => exact ⟨_, _, rfl, _, _, h2⟩
theorem At.shape {h : HP} {mu : Mu} {id : Nat} {L : List Nat} (ha : At h mu id L) : (∃ x, L = [x]) ∨ ∃ r i k, L = [r, i, k] := by
 cases ha with
 | root => exact .inl ⟨_, rfl⟩
 | cell => exact .inr ⟨_, _, _, rfl⟩
theorem At.rel {w : World} {g : Gh} {h : HP} (H : HRel w g h) {mu : Mu} {id : Nat} {L : List Nat} (ha : At h mu id L) {bk : Bk} (hb : g.ρ id = some bk) : ∃ v, Hdr v bk mu.sz ∧ TRel w g.R g.o L v (.lst true mu.sz mu.es) := by
 cases ha with
 | root h1 =>
   obtain ⟨v, hv, hh⟩ := H.row _ _ _ _ h1 hb
   exact ⟨v, hh, hv⟩
 | @cell r i k szr esr h1 h2 h3 h4 h5 =>
   obtain ⟨q1, bkc, q2, q3⟩ := H.ali _ _ _ _ _ _ h1 hb
   obtain ⟨bc, cur, e, v, q4, q5, q6, q7⟩ := q3 1 szr esr (by simp [cont, h2]) (by rw [h2]; rfl) h3 h4
   obtain ⟨v0, hv, hh⟩ := H.row _ _ _ _ h2 q2
   cases hv with
   | nil => simp at h3
   | own us hob hheap a1 a2 a3 a4 a5 a6 a7 =>
     cases hh
     cases q4
     rw [q5] at hheap
     obtain ⟨rfl, rfl⟩ := by simpa using hheap
     have hu : us i k = v := by have := a5 i k h3 h4; rw [q6] at this; simpa using this.symm
     have ht := a7 i k h3 h4
     rw [hu, h5] at ht
     exact ⟨v, q7.resolve_right fun hs => ht.scn_lst hs, ht⟩
theorem hdr_eq {w w' : World} {R R' : Nat → Prop} {o o' : Nat → Option (List Nat)} {L L' : List Nat} {v v' : Value} {bk : Bk} {sz : Nat} {u u' : Bool} {es fs : List (List AV)} (h1 : Hdr v bk sz) (h2 : Hdr v' bk sz)
   (t1 : TRel w R o L v (.lst u sz es)) (t2 : TRel w' R' o' L' v' (.lst u' sz fs)) (hl : fs.length = es.length) : v = v' := by
 cases h1 with
 | nil => cases h2; rfl
 | own =>
   cases h2
   cases t1
   cases t2
   rw [hl]
def Occ (id : Nat) : AV → Prop
 | .own i _ _ => i = id
 | .agg cs => ∃ l, l < cs.length ∧ ∃ off n, cs.getD l .bot = .own id off n
 | _ => False
theorem Occ.rel {w : World} {R : Nat → Prop} {ρ : Nat → Option Bk} {v : Value} {a : AV} {id : Nat} (ho : Occ id a) (hx : XRel w R ρ v a) : ∃ bk, ρ id = some bk := by
 have one : ∀ {u off n}, XRel w R ρ u (.own id off n) → ∃ bk, ρ id = some bk := by
   intro u off n hx
   rcases hx.own_eq with ⟨s0, c0, hb, _⟩ | ⟨b, bsz, cap, cc, x0, hb, _⟩
   · exact ⟨_, hb⟩
   exact ⟨_, hb⟩
 unfold Occ at ho
 split at ho
 · subst ho; exact one hx
 · obtain ⟨l, hl, off, n, he⟩ := ho
   obtain ⟨cs, rfl, h1, h2, h3⟩ := hx.agg_eq
   have := h3 l hl
   rw [he] at this
   exact one this
 exact ho.elim
section
variable {P : Program} {C : Ctx} {a : Act} {w : World} {g : Gh} {h : HP} {n : Nat} {ev : Operand → AV}
theorem step_mut (hev : ∀ x, XRel w g.R g.ρ (a.eval x) (ev x)) (W : WF C w g) (H : HRel w g h) {o : Oper} {cl : Call} {x : Operand} {f : Nat} {caps args : List AV} {ms : List Mu} {res : AV} {m : List Nat} {Pt : Nat → List Nat} {sets : List (Nat × Ent)} {dels : List Nat}
   (hlim : ∀ id k, g.ρ id = some k → id < n) (ho : o.op = .call cl) (hc : cl.callee = .value x) (hx : ev x = .fn f caps) (hcon : MContract P f args ms res) (hM : MCall h n ms m Pt sets dels)
   (hal : (cl.args.toList.map ev ++ caps).length = args.length) (harg : ∀ k, k < args.length → MArg m ((cl.args.toList.map ev ++ caps).getD k .bot) (args.getD k .bot))
   (hcov : ∀ j, j < ms.length → ∃ k, k < args.length ∧ Occ (m.getD j 0) ((cl.args.toList.map ev ++ caps).getD k .bot)) :
   Step P C o a w g h n { v := res, set := sets, del := dels } := by
 intro K Q k
 have hxx := hev x
 rw [hx] at hxx
 obtain ⟨cs, hxv, hcl, hcr⟩ := hxx.fn_eq
 obtain ⟨fn, e1, e2, e3⟩ := hcon.enters
 have hrun : (execOp a.eval o).run P w = .ok (.enter f (cl.args.map a.eval ++ cs)) w := by
   obtain ⟨body, e3'⟩ := Option.isSome_iff_exists.1 e3
   have e2' : fn.name ≠ "runtime.NumGoroutine" := by simpa using e2
   simp [execOp, ho, resolve, hc, hxv, Deferred.ofValue, invoke, callFunc, e1, e2', e3']
 have hvals : ∀ j, j < args.length → XRel w g.R g.ρ ((cl.args.map a.eval ++ cs).getD j undef) ((cl.args.toList.map ev ++ caps).getD j .bot) := by
   intro j hj
   by_cases hlt : j < cl.args.size
   · have h1 : (cl.args.map a.eval ++ cs).getD j undef = a.eval (cl.args[j]) := by
       simp [Array.getElem?_append, hlt]
     have h2 : (cl.args.toList.map ev ++ caps).getD j .bot = ev (cl.args[j]) := by
       simp [List.getD_eq_getElem?_getD, List.getElem?_append, hlt]
     rw [h1, h2]; exact hev _
   have hjc : j - cl.args.size < caps.length := by simp at hal; omega
   have h1 : (cl.args.map a.eval ++ cs).getD j undef = cs.getD (j - cl.args.size) undef := by
     simp [Array.getElem?_append, hlt]
   have h2 : (cl.args.toList.map ev ++ caps).getD j .bot = caps.getD (j - cl.args.size) .bot := by
     simp [List.getD_eq_getElem?_getD, List.getElem?_append, hlt]
   rw [h1, h2]; exact hcr _ hjc
 have hρ : ∀ j, j < ms.length → ∃ bk, g.ρ (m.getD j 0) = some bk ∧ ρc m g.ρ j = some bk := by
   intro j hj
   obtain ⟨q, hq, hocc⟩ := hcov j hj
   obtain ⟨bk, hbk⟩ := hocc.rel (hvals q hq)
   exact ⟨bk, hbk, by simp only [ρc]; rw [if_pos (by rw [hM.len]; exact hj)]; exact hbk⟩
 let Qb : Nat → Nat → List Nat → Prop := fun b j M => j < ms.length ∧ g.o b = some (Pt j ++ M)
 have huniq : ∀ b j M j' M', Qb b j M → Qb b j' M' → j = j' ∧ M = M' := by
   rintro b j M j' M' ⟨h1, h2⟩ ⟨h3, h4⟩
   rw [h2] at h4
   have he : Pt j ++ M = Pt j' ++ M' := by simpa using h4
   have hj : j = j' := by
     rcases Classical.em (j = j') with hj | hj
     · exact hj
     exfalso
     rcases List.prefix_or_prefix_of_prefix (List.prefix_append (Pt j) M) (he ▸ List.prefix_append (Pt j') M') with h5 | h5
     · exact hM.apart j j' h1 h3 hj h5
     exact hM.apart j' j h3 h1 (Ne.symm hj) h5
   subst hj
   exact ⟨rfl, List.append_cancel_left he⟩
 let oc : Nat → Option (List Nat) := fun b => open Classical in if hq : ∃ p : Nat × List Nat, Qb b p.1 p.2 then some (hq.choose.1 :: hq.choose.2) else none
 have oc1 : ∀ b j M, Qb b j M → oc b = some (j :: M) := by
   intro b j M hq
   have he : ∃ p : Nat × List Nat, Qb b p.1 p.2 := ⟨(j, M), hq⟩
   have hsp := he.choose_spec
   simp only [oc]
   rw [dif_pos he]
   obtain ⟨h1, h2⟩ := huniq b _ _ _ _ hsp hq
   rw [h1, h2]
 have oc2 : ∀ b L, oc b = some L → ∃ j M, Qb b j M ∧ L = j :: M := by
   intro b L hL
   simp only [oc] at hL
   split at hL
   · rename_i he
     cases hL
     exact ⟨_, _, he.choose_spec, rfl⟩
   cases hL
 have oc3 : ∀ b, oc b = none → ∀ j M, ¬ Qb b j M := by
   intro b hb j M hq
   rw [oc1 b j M hq] at hb; cases hb
 have hpre : MPre w g.R oc (ρc m g.ρ) ms (cl.args.map a.eval ++ cs) args := by
   refine ⟨fun b hb => ⟨(W.R b hb).1, ?_⟩, fun b L hb => ?_, fun j bk hj hb => ?_, fun j bk hb => ?_, by simp at hal; simp; omega, fun q hq => (harg q hq).rel (hvals q hq)⟩
   · cases hob : oc b with
     | none => rfl
     | some L =>
       obtain ⟨j, M, ⟨_, h2⟩, _⟩ := oc2 b L hob
       rw [(W.R b hb).2] at h2; cases h2
   · obtain ⟨j, M, ⟨_, h2⟩, _⟩ := oc2 b L hb
     exact (W.o b _ h2).1
   · have hb' : g.ρ (m.getD j 0) = some bk := by
       simp only [ρc] at hb
       rw [if_pos (by rw [hM.len]; exact hj)] at hb; exact hb
     obtain ⟨v, h1, h2⟩ := (hM.at_ j hj).rel H hb'
     exact ⟨v, h1, h2.mono (R' := g.R) [j] fun b M hbM => ⟨oc1 b j M ⟨hj, hbM⟩, rfl⟩⟩
   simp only [ρc] at hb
   split at hb
   · rw [← hM.len]; assumption
   cases hb
 obtain ⟨rv, hrv, hcalls⟩ := hcon.calls
 unfold Oper.wp
 rw [hrun, Oper.upon_enter]
 refine (hcalls w g.R oc (ρc m g.ρ) _ hpre).mono fun e w' ⟨he, hp⟩ => ?_
 subst he
 obtain ⟨o1, ho1, hent⟩ := hp.ex
 let o2 : Nat → Option (List Nat) := fun b => match o1 b with
   | some (j :: M) => if j < ms.length then some (Pt j ++ M) else none
   | some [] => none
   | none => if oc b = none then g.o b else none
 have o21 : ∀ b j M, j < ms.length → o1 b = some (j :: M) → o2 b = some (Pt j ++ M) := by
   intro b j M hj hb
   simp only [o2, hb]; rw [if_pos hj]
 have o22 : ∀ b L, g.o b = some L → (∀ j M, ¬ Qb b j M) → o2 b = some L ∧ w'.heap[b]? = w.heap[b]? := by
   intro b L hb hq
   have hocb : oc b = none := by
     cases hob : oc b with
     | none => rfl
     | some L' => obtain ⟨j, M, h1, _⟩ := oc2 b L' hob; exact absurd h1 (hq j M)
   have hlt := (W.o b L hb).1
   have ho1b : o1 b = none := by
     cases h1 : o1 b with
     | none => rfl
     | some L' =>
       rcases (ho1 b L' h1).2 with h2 | ⟨L2, h2⟩
       · omega
       rw [hocb] at h2; cases h2
   refine ⟨by simp only [o2, ho1b]; rw [if_pos hocb]; exact hb, hp.keep b hlt hocb⟩
 have hnoroot : ∀ b r M, g.o b = some (r :: M) → look r sets = none → ∀ j M', ¬ Qb b j M' := by
   rintro b r M hb hr j M' ⟨h1, h2⟩
   obtain ⟨r', M2, hP, _⟩ := (hM.at_ j h1).head
   rw [hb, hP] at h2
   simp only [List.cons_append, Option.some.injEq, List.cons.injEq] at h2
   have := hM.all j r' M2 h1 hP
   rw [← h2.1, hr] at this
   cases this
 have hRw : ∀ b, g.R b → w'.heap[b]? = w.heap[b]? := fun b hb => hp.keep b (W.R b hb).1 ((hpre.hR b hb).2)
 have hrowset : ∀ id e, look id sets = some e → ∃ sz fs, e = .row sz fs := fun id e he => by
   obtain ⟨sz, es, fs, _, h2, _⟩ := hM.hsets id e he
   exact ⟨sz, fs, h2⟩
 have hold : ∀ id e, happ { v := res, set := sets, del := dels } h id = some e → look id sets = none → h id = some e ∧ id ∉ dels := by
   intro id e he hl
   simp only [happ, hl] at he
   split at he
   · cases he
   rename_i hd; exact ⟨he, hd⟩
 refine k rv w' o2 g.ρ ⟨fun b hb => ?_, fun b L hb => ?_, hp.os.trans W.os, hp.tape.trans W.tape, hp.output.trans W.output, Nat.le_trans W.size hp.size, fun b hb hw => ?_⟩ ⟨fun id sz es bk he hb => ?_, fun id sz es bk he hb => ?_, fun id c i kk s bk he hb => ?_⟩ (fun _ _ h => h) (fun _ _ h => .inl h) (resV_rel hrv) hRw
 · have h1 := W.R b hb
   refine ⟨Nat.lt_of_lt_of_le h1.1 hp.size, ?_⟩
   have hocb := (hpre.hR b hb).2
   have ho1b : o1 b = none := by
     cases h2 : o1 b with
     | none => rfl
     | some L' =>
       rcases (ho1 b L' h2).2 with h3 | ⟨L2, h3⟩
       · omega
       rw [hocb] at h3; cases h3
   show o2 b = none
   simp only [o2, ho1b]; rw [if_pos hocb]; exact h1.2
 · have hb2 : o2 b = some L := hb
   simp only [o2] at hb2
   split at hb2
   · rename_i j M h1
     obtain ⟨h2, h3⟩ := ho1 b _ h1
     refine ⟨h2, ?_⟩
     rcases h3 with h3 | ⟨L', h3⟩
     · exact .inl (by have := W.size; omega)
     obtain ⟨j', M', ⟨_, h4⟩, _⟩ := oc2 b L' h3
     exact (W.o b _ h4).2
   · cases hb2
   split at hb2
   · have := W.o b L hb2
     exact ⟨Nat.lt_of_lt_of_le this.1 hp.size, this.2⟩
   cases hb2
 · rw [hp.keep b (by have := W.size; omega) ?_]
   · exact W.keep b hb hw
   cases hob : oc b with
   | none => rfl
   | some L =>
     obtain ⟨j, M, ⟨_, h2⟩, _⟩ := oc2 b L hob
     rcases (W.o b _ h2).2 with h3 | h3
     · omega
     exact absurd h3 hw
 ·
   have hl : look id sets = none := by
     cases hl : look id sets with
     | none => rfl
     | some e =>
       obtain ⟨sz', fs, rfl⟩ := hrowset id e hl
       simp only [happ, hl] at he; cases he
   obtain ⟨he', hd⟩ := hold id _ he hl
   exact (H.mix id sz es bk he' hb).mono hRw (fun _ _ h => h) fun b hbo => o22 b _ hbo (hnoroot b id [] hbo hl)
 · cases hl : look id sets with
   | none =>
     obtain ⟨he', hd⟩ := hold id _ he hl
     obtain ⟨v, hv, hh⟩ := H.row id sz es bk he' hb
     exact ⟨v, hv.same fun b M hbo => o22 b _ hbo (hnoroot b id M hbo hl), hh⟩
   | some e =>
     obtain ⟨sz', es0, fs, hr, rfl, hT⟩ := hM.hsets id e hl
     simp only [happ, hl, Option.some.injEq, Ent.row.injEq] at he
     obtain ⟨rfl, rfl⟩ := he
     obtain ⟨v0, hv0, hh0⟩ := H.row id sz' es0 bk hr hb
     by_cases hA : ∃ j, j < ms.length ∧ Pt j = [id]
     · obtain ⟨j, hj, hPj⟩ := hA
       have hat := hM.at_ j hj
       rw [hPj] at hat
       obtain ⟨bk', hbk1, hbk2⟩ := hρ j hj
       obtain ⟨v1, q1, q2⟩ := hent j bk' hj hbk2
       have hroot : m.getD j 0 = id ∧ (ms.getD j .none).sz = sz' := by
         generalize m.getD j 0 = y at hat
         cases hat with
         | root h1 => rw [hr] at h1; simp at h1; exact ⟨rfl, h1.1.symm⟩
       rw [hroot.1, hb] at hbk1
       cases hbk1
       rw [hroot.2] at q1 q2
       rw [hT.whole j hj hPj]
       exact ⟨v1, q2.mono (R' := g.R) [id] fun b M hbo => ⟨by have := o21 b j M hj (by simpa using hbo); rwa [hPj] at this, rfl⟩, q1⟩
     have hB : ∀ j, j < ms.length → Pt j ≠ [id] := fun j hj h1 => hA ⟨j, hj, h1⟩
     refine ⟨v0, ?_, hh0⟩
     have hnq : ∀ b i k M, (∀ j, j < ms.length → Pt j ≠ [id, i, k]) → g.o b = some ([id] ++ [i, k] ++ M) → ∀ j M', ¬ Qb b j M' := by
       rintro b i k M hne hb j M' ⟨h1, h2⟩
       rw [hb] at h2
       have hat := hM.at_ j h1
       have h3 : id :: i :: k :: M = Pt j ++ M' := by simpa using h2
       rcases hat.shape with ⟨y, hy⟩ | ⟨r', i', k', hy⟩
       · rw [hy] at h3
         simp only [List.singleton_append, List.cons.injEq] at h3
         exact hB j h1 (by rw [hy, h3.1])
       rw [hy] at h3
       simp only [List.cons_append, List.cons.injEq] at h3
       exact hne j h1 (by rw [hy, h3.1, h3.2.1, h3.2.2.1])
     cases hv0 with
     | nil =>
       have : fs = [] := List.eq_nil_of_length_eq_zero (by rw [hT.len]; rfl)
       rw [this]; exact .nil
     | @own _ _ _ b cap cur el us a1 a2 a3 a4 a5 a6 a7 a8 a9 =>
       have hbn : ∀ j M', ¬ Qb b j M' := by
         rintro j M' ⟨h1, h2⟩
         rw [a1] at h2
         obtain ⟨r', M2, hP, _⟩ := (hM.at_ j h1).head
         rw [hP] at h2
         simp only [List.cons_append, Option.some.injEq, List.cons.injEq, List.nil_eq, List.append_eq_nil_iff] at h2
         exact hB j h1 (by rw [hP, h2.2.1, ← h2.1])
       obtain ⟨ob1, ob2⟩ := o22 b _ a1 hbn
       have := TRel.own (w := w') (R := g.R) (o := o2) (L := [id]) (sz := sz') (es := fs) (b := b) (cap := cap) (cur := cur) (e := el) us ob1 (ob2.trans a2) a3 (by rw [hT.len]; exact a4) a5
         (fun i hi => by rw [hT.len] at hi; rw [hT.row hB i hi]; exact a6 i hi) (fun i k hi hk => a7 i k (by rw [hT.len] at hi; exact hi) hk) (fun i k hi hk => a8 i k (by rw [hT.len] at hi; exact hi) hk)
         (fun i k hi hk => by
           rw [hT.len] at hi
           by_cases hhit : ∃ j, j < ms.length ∧ Pt j = [id, i, k]
           · obtain ⟨j, hj, hPj⟩ := hhit
             rw [hT.hit i k j hj hPj hi hk]
             obtain ⟨bk', hbk1, hbk2⟩ := hρ j hj
             obtain ⟨v1, q1, q2⟩ := hent j bk' hj hbk2
             obtain ⟨v2, q3, q4⟩ := (hM.at_ j hj).rel H hbk1
             have hv12 : v2 = v1 := hdr_eq q3 q1 q4 q2 (hcon.len j hj)
             have hat := hM.at_ j hj
             have hus : us i k = v2 := by
               rw [hPj] at hat
               generalize m.getD j 0 = y at hat hbk1
               cases hat with
               | cell h1 h2 h3 h4 h5 =>
                 obtain ⟨z1, bkc, z2, z3⟩ := H.ali _ _ _ _ _ _ h1 hbk1
                 rw [hb] at z2
                 cases z2
                 rw [hr] at h2
                 cases h2
                 obtain ⟨bc, cur2, e2, v, z4, z5, z6, z7⟩ := z3 1 sz' es0 (by simp [cont, hr]) (by rw [hr]; rfl) hi hk
                 cases hh0
                 cases z4
                 rw [z5] at a2
                 obtain ⟨rfl, rfl⟩ := by simpa using a2
                 have hu : us i k = v := by have := a7 i k hi hk; rw [z6] at this; simpa using this.symm
                 have ht := a9 i k hi hk
                 rw [hu, h5] at ht
                 have hhv := z7.resolve_right fun hs => ht.scn_lst hs
                 rw [hu]
                 exact hdr_eq hhv q3 ht q4 rfl
             rw [hus, hv12]
             exact q2.mono (R' := g.R) _ fun b M hbo => ⟨by have := o21 b j M hj (by simpa using hbo); rw [hPj] at this; exact this, rfl⟩
           have hne : ∀ j, j < ms.length → Pt j ≠ [id, i, k] := fun j hj h1 => hhit ⟨j, hj, h1⟩
           rw [hT.miss i k hi hk fun j hj => ⟨hB j hj, hne j hj⟩]
           exact (a9 i k hi hk).same fun b M hbo => o22 b _ hbo (hnq b i k M hne hbo))
       rw [hT.len] at this
       exact this
 have hl : look id sets = none := by
   cases hl : look id sets with
   | none => rfl
   | some e =>
     obtain ⟨sz', fs, rfl⟩ := hrowset id e hl
     simp only [happ, hl] at he; cases he
 obtain ⟨he', hd⟩ := hold id _ he hl
 have hfree : ∀ d r, Vc.root h d c = some r → look r sets = none := by
   obtain ⟨d0, r0, hr0, hl0⟩ := (hM.alis id c i kk s (hlim id bk hb) he').resolve_left hd
   intro d r hr
   rw [← root_det _ _ _ _ _ hr0 hr]; exact hl0
 obtain ⟨h1, bkc, h2, h3⟩ := H.ali id c i kk s bk he' hb
 refine ⟨h1, bkc, h2, fun d szc esc hcc hmc hi hk => ?_⟩
 have keepc : ∀ (d c : Nat) (x : Nat × List (List AV)), (∀ d r, Vc.root h d c = some r → look r sets = none) → cont (happ { v := res, set := sets, del := dels } h) d c = some x → cont h d c = some x ∧ ∃ e, happ { v := res, set := sets, del := dels } h c = some e ∧ h c = some e := by
   intro d
   induction d with
   | zero => intro c x _ hx; cases hx
   | succ d ih =>
     intro c x hf hx
     have hcn : ∃ e, happ { v := res, set := sets, del := dels } h c = some e := by
       cases hh : happ { v := res, set := sets, del := dels } h c with
       | none => simp only [cont, hh] at hx; cases hx
       | some e => exact ⟨e, rfl⟩
     obtain ⟨e, hce⟩ := hcn
     have hcl : look c sets = none := by
       cases hl : look c sets with
       | none => rfl
       | some e' =>
         obtain ⟨sz, es, fs, hr, _⟩ := hM.hsets c e' hl
         have := hf 1 c (by simp [Vc.root, hr])
         rw [hl] at this; cases this
     obtain ⟨hc', _⟩ := hold c e hce hcl
     refine ⟨?_, e, hce, hc'⟩
     unfold cont at hx ⊢
     rw [hce] at hx
     rw [hc']
     cases e with
     | mix => exact hx
     | row => exact hx
     | ali c2 i2 k2 s2 =>
       simp only at hx ⊢
       split at hx
       · cases hx
       rename_i hm2
       cases hc2 : cont (happ { v := res, set := sets, del := dels } h) d c2 with
       | none => simp [hc2] at hx
       | some p =>
         obtain ⟨h4, e2, h5, h6⟩ := ih c2 p (fun d r hr => hf (d + 1) r (by simp [Vc.root, hc', hr])) hc2
         rw [hc2] at hx
         rw [h5] at hm2
         rw [h6, if_neg hm2, h4]
         exact hx
 obtain ⟨hc1, e, hc2, hc3⟩ := keepc d c _ hfree hcc
 have hmc' : isMixE (h c) = false := by rw [hc3, ← hc2]; exact hmc
 obtain ⟨bc, cur, el, v, h4, h5, h6, h7⟩ := h3 d szc esc hc1 hmc' hi hk
 obtain ⟨_, v3, r, M, hroot, _, ht, hhd⟩ := cont_hdr H d c szc esc bkc hc1 hmc' h2
 refine ⟨bc, cur, el, v, h4, ?_, h6, h7⟩
 cases ht with
 | nil => simp at hi
 | own us hob =>
   cases hhd
   cases h4
   exact (o22 _ _ hob (hnoroot _ r M hob (hfree d r hroot))).2.trans h5
theorem At.up {h' : HP} (hs : ∀ id x, h id = some x → h' id = some x) {mu : Mu} {id : Nat} {L : List Nat} (ha : At h mu id L) : At h' mu id L := by
 cases ha with
 | root h1 => exact .root (hs _ _ h1)
 | cell h1 h2 h3 h4 h5 => exact .cell (hs _ _ h1) (hs _ _ h2) h3 h4 h5
theorem root_up {h' : HP} (hs : ∀ id x, h id = some x → h' id = some x) : ∀ (d c r : Nat), Vc.root h d c = some r → Vc.root h' d c = some r := by
 intro d
 induction d with
 | zero => intro c r h1; cases h1
 | succ d ih =>
   intro c r h1
   unfold Vc.root at h1 ⊢
   cases he : h c with
   | none => simp [he] at h1
   | some e =>
     rw [hs _ _ he]
     rw [he] at h1
     cases e with
     | ali c2 i k s => exact ih c2 r h1
     | mix => exact h1
     | row => exact h1
theorem MCall.up {h' : HP} (hs : ∀ id x, h id = some x → h' id = some x) (hlt : ∀ id, id < n → h' id = h id) {ms : List Mu} {m : List Nat} {Pt : Nat → List Nat} {sets : List (Nat × Ent)} {dels : List Nat} (hM : MCall h n ms m Pt sets dels) : MCall h' n ms m Pt sets dels := by
 refine ⟨hM.len, fun j hj => (hM.at_ j hj).up hs, hM.apart, hM.nodup, fun r e hr => ?_, hM.all, hM.hdels, fun id c i k s hid he => ?_⟩
 · obtain ⟨sz, es, fs, h1, h2, h3⟩ := hM.hsets r e hr
   exact ⟨sz, es, fs, hs _ _ h1, h2, h3⟩
 rw [hlt id hid] at he
 rcases hM.alis id c i k s hid he with h1 | ⟨d, r, h1, h2⟩
 · exact .inl h1
 exact .inr ⟨d, r, root_up hs d c r h1, h2⟩
def isCallV : Op → Bool
 | .call ⟨.value _, _, _⟩ => true
 | _ => false
def wrM (mt : Bool) (op : Op) : Bool := writes op || (mt && isCallV op)
end
end Go.Vc

namespace Go.Vc
open Go
structure Sto (h : HP) (n id i k : Nat) (x b : AV) (sz : Nat) (es : List (List AV)) (ds dels : List Nat) : Prop where
 ent : h id = some (.row sz es)
 lay : layC h x = some (b, ds)
 hi : i < es.length
 hk : k < sz
 nodup : (id :: ds).Nodup
 lt : ∀ y ∈ ds ++ dels, y < n
 alis : ∀ id' c i' k' s, id' < n → h id' = some (.ali c i' k' s) → id' ∈ dels ∨ ∃ d r, Vc.root h d c = some r ∧ r ≠ id
theorem cells_one1 {v : Value} (h : one v) : v.cells = #[v] := by revert h; unfold one Value.oneCell'; cases v <;> simp [Value.cells]
theorem keep_cont {h h' : HP} {id : Nat} (hs : ∀ c e, h' c = some e → c ≠ id → h c = some e) : ∀ (d c : Nat) (x : Nat × List (List AV)), (∀ d r, Vc.root h d c = some r → r ≠ id) → (h id).isSome = true → (∀ z zz, h id ≠ some (.mix z zz)) → isMixE (h' id) = false →
   (∀ c i k s, h id ≠ some (.ali c i k s)) → cont h' d c = some x → cont h d c = some x ∧ ∃ e, h' c = some e ∧ h c = some e := by
 intro d
 induction d with
 | zero => intro c x _ _ _ _ _ hx; cases hx
 | succ d ih =>
   intro c x hf hid hmix hmix' hali hx
   have hcid : c ≠ id := by
     rintro rfl
     obtain ⟨e, he⟩ := Option.isSome_iff_exists.1 hid
     have : Vc.root h 1 c = some c := by
       cases e with
       | mix z zz => exact absurd he (hmix z zz)
       | row => simp [Vc.root, he]
       | ali c2 i2 k2 s2 => exact absurd he (hali c2 i2 k2 s2)
     exact hf 1 c this rfl
   have hcn : ∃ e, h' c = some e := by
     cases hh : h' c with
     | none => simp only [cont, hh] at hx; cases hx
     | some e => exact ⟨e, rfl⟩
   obtain ⟨e, hce⟩ := hcn
   have hc' := hs c e hce hcid
   refine ⟨?_, e, hce, hc'⟩
   unfold cont at hx ⊢
   rw [hce] at hx
   rw [hc']
   cases e with
   | mix => exact hx
   | row => exact hx
   | ali c2 i2 k2 s2 =>
     simp only at hx ⊢
     split at hx
     · cases hx
     rename_i hm2
     cases hc2 : cont h' d c2 with
     | none => simp [hc2] at hx
     | some p =>
       obtain ⟨h4, e2, h5, h6⟩ := ih c2 p (fun d r hr => hf (d + 1) r (by simp [Vc.root, hc', hr])) hid hmix hmix' hali hc2
       rw [hc2] at hx
       rw [h5] at hm2
       rw [h6, if_neg hm2, h4]
       exact hx
section
variable {P : Program} {C : Ctx} {a : Act} {w : World} {g : Gh} {h : HP} {n : Nat} {ev : Operand → AV}
theorem step_sto (hev : ∀ x, XRel w g.R g.ρ (a.eval x) (ev x)) (W : WF C w g) (H : HRel w g h) (hlim : ∀ id k, g.ρ id = some k → id < n) {o : Oper} {t : TypeId} {x y : Operand} {ty : Tyi} {id i k sz : Nat} {b : AV} {es : List (List AV)} {ds dels : List Nat}
   (ho : o.op = .store t x y) (hty : tyi P t = some ty) (hts : ty.sz = 1) (hxx : ev x = .adr id i k) (hS : Sto h n id i k (ev y) b sz es ds dels) :
   Step P C o a w g h n { v := .bot, set := [(id, .row sz (es.set i ((es.getD i []).set k b)))], del := ds ++ dels } := by
 intro K Q kk
 obtain ⟨hent, hlay, hi, hk, hnd, hlt, halis⟩ := hS
 have hx := hev x
 rw [hxx] at hx
 obtain ⟨b0, bsz, cap0, hb, hv⟩ := hx.adr_eq
 have hids : id ∉ ds := (List.nodup_cons.1 hnd).1
 obtain ⟨hone, ky, hky, hL⟩ := layC_rel H _ _ _ _ [id, i, k] hlay (hev y)
 have hnk : (ky.map Prod.fst).Nodup := by rw [hky]; exact (List.nodup_cons.1 hnd).2
 obtain ⟨v0, hv0, hh0⟩ := H.row id sz es _ hent hb
 cases hv0 with
 | nil => simp at hi
 | @own _ _ _ b1 cap cur el us a1 a2 a3 a4 a5 a6 a7 a8 a9 =>
   cases hh0
   have hcs : (a.eval y).cells = #[a.eval y] := by
     have := cells_one1 hone
     exact this
   have hmul := Nat.mul_le_mul_right sz a4
   have hcl := cell_lt hi hk
   have hfit : i * sz + k + ty.sz ≤ cur.size := by rw [hts, a3]; omega
   have hrun := run_storeAt (P := P) hty a2 (v := a.eval y) (by rw [hcs, hts]; rfl) hfit (fun j hj => by
     rw [hts] at hj
     have : j = 0 := by omega
     subst this
     rw [hcs]; exact hone)
   rw [hts, hcs] at hrun
   generalize hu : a.eval y = u at hrun hone hL hcs
   have hfit' : i * sz + k + (#[u] : Array Value).size ≤ cur.size := by simp; omega
   have hnew := new_cells cur (i * sz + k) #[u] hfit'
   have hnsz : (cur.toList.take (i * sz + k) ++ [u] ++ cur.toList.drop (i * sz + k + 1)).toArray.size = cur.size := new_size cur (i * sz + k) #[u] hfit'
   simp only [List.size_toArray, List.length_singleton] at hnew hrun
   generalize (cur.toList.take (i * sz + k) ++ [u] ++ cur.toList.drop (i * sz + k + 1)).toArray = cur' at hrun hnew hnsz
   have hexec : (execOp a.eval o).run P w = .ok .skip (w.setRow b0 cur') := by simp [execOp, ho, hv, hu, hrun]
   have hoth : ∀ b', g.o b' ≠ some [id] → (w.setRow b0 cur').heap[b']? = w.heap[b']? := fun b' hb' => setRow_other w b0 b' cur' (by rintro rfl; exact hb' a1)
   have hRr : ∀ b', g.R b' → (w.setRow b0 cur').heap[b']? = w.heap[b']? := fun b' hb' => hoth b' (by rw [(W.R b' hb').2]; simp)
   have hset := fun j l => set_cell es i k b j l hi (by rw [a6 i hi]; exact hk)
   have hlen : (es.set i ((es.getD i []).set k b)).length = es.length := by simp
   have hkey : ∀ z, z ∉ ds → look z ky = none := fun z hz => look_none (by rw [hky]; exact hz)
   have hsame : ∀ b' z M, z ∉ ds → g.o b' = some (z :: M) → mv ky g.o b' = some (z :: M) := fun b' z M hz hb' => mv_other (hkey z hz) hb'
   have hold : ∀ c e, happ { v := .bot, set := [(id, .row sz (es.set i ((es.getD i []).set k b)))], del := ds ++ dels } h c = some e → c ≠ id → h c = some e ∧ c ∉ ds ∧ c ∉ dels := by
     intro c e he hc
     simp only [happ, look] at he
     rw [if_neg (Ne.symm hc)] at he
     simp only at he
     split at he
     · cases he
     rename_i hd; simp only [List.mem_append, not_or] at hd; exact ⟨he, hd.1, hd.2⟩
   have hself : happ { v := .bot, set := [(id, .row sz (es.set i ((es.getD i []).set k b)))], del := ds ++ dels } h id = some (.row sz (es.set i ((es.getD i []).set k b))) := by simp [happ, look]
   refine wp_of_skip hexec (kk undef _ (mv ky g.o) g.ρ ⟨fun b' hb' => ?_, fun b' L hb' => ?_, W.os, W.tape, W.output, by simpa using W.size, fun b' hb' hw => ?_⟩ ⟨fun id' sz' es' bk he hbk => ?_, fun id' sz' es' bk he hbk => ?_, fun id' c i' k' s bk he hbk => ?_⟩ (fun _ _ h => h) (fun _ _ h => .inl h) .bot hRr)
   · exact ⟨by simpa using (W.R b' hb').1, mv_none (W.R b' hb').2⟩
   · obtain ⟨M, hM⟩ := mv_isSome hb'
     exact ⟨by simpa using (W.o b' M hM).1, (W.o b' M hM).2⟩
   · rw [hoth b' (fun h1 => by
       rcases (W.o b' _ h1).2 with h2 | h2
       · omega
       exact hw h2)]
     exact W.keep b' hb' hw
   · have hne : id' ≠ id := by rintro rfl; rw [hself] at he; cases he
     obtain ⟨h1, h2, _⟩ := hold id' _ he hne
     exact (H.mix id' sz' es' bk h1 hbk).mono hRr (fun _ _ h => h) fun b' hbo => ⟨hsame b' id' [] h2 hbo, hoth b' (by rw [hbo]; intro h3; cases h3; exact hne rfl)⟩
   · by_cases hne : id' = id
     · subst hne
       rw [hself] at he
       cases he
       rw [hb] at hbk
       cases hbk
       refine ⟨.slice (some ⟨b0, 0, none⟩) es.length cap0, ?_, .own⟩
       have := TRel.own (w := w.setRow b0 cur') (R := g.R) (o := mv ky g.o) (L := [id']) (sz := sz) (es := es.set i ((es.getD i []).set k b)) (cap := cap0) (cur := cur') (e := el)
         (fun j l => if j = i ∧ l = k then u else us j l) (hsame _ id' [] hids a1) (setRow_heap w b0 cur cur' el (0, 0) a2) (by rw [hnsz, a3]) (by rw [hlen]; exact a4) a5
         (fun j hj => by rw [hlen] at hj; rw [set_row]; exact a6 j hj)
         (fun j l hj hl => by
           rw [hlen] at hj
           rw [hnew]
           by_cases hjl : j = i ∧ l = k
           · obtain ⟨rfl, rfl⟩ := hjl
             rw [if_pos (by omega), if_pos ⟨rfl, rfl⟩, Nat.sub_self]; rfl
           rw [if_neg hjl, if_neg]
           · exact a7 j l hj hl
           intro hq
           by_cases hji : j = i
           · subst hji; exact hjl ⟨rfl, by omega⟩
           exact cell_apart (m := 1) hl (by omega) hji hq)
         (fun j l hj hl => by
           rw [hlen] at hj
           split
           · exact hone
           exact a8 j l hj hl)
         (fun j l hj hl => by
           rw [hlen] at hj
           rw [hset]
           by_cases hjl : j = i ∧ l = k
           · rw [if_pos hjl, if_pos hjl]
             obtain ⟨rfl, rfl⟩ := hjl
             exact hL _ _ hRr fun p hp b' M hbo => ⟨mv_key (look_mem hnk hp) hbo, hoth b' (by
               rw [hbo]; intro h3; cases h3
               exact hids (by rw [← hky]; exact List.mem_map.2 ⟨p, hp, rfl⟩))⟩
           rw [if_neg hjl, if_neg hjl]
           exact (a9 j l hj hl).same fun b' M hbo => ⟨hsame b' id' _ hids (by simpa using hbo), hoth b' (by rw [hbo]; simp)⟩)
       rw [hlen] at this; exact this
     obtain ⟨h1, h2, _⟩ := hold id' _ he hne
     obtain ⟨v, hv', hh⟩ := H.row id' sz' es' bk h1 hbk
     exact ⟨v, hv'.same fun b' M hbo => ⟨hsame b' id' M h2 hbo, hoth b' (by rw [show g.o b' = some (id' :: M) from hbo]; intro h3; cases h3; exact hne rfl)⟩, hh⟩
   have hne : id' ≠ id := by rintro rfl; rw [hself] at he; cases he
   obtain ⟨h1, h2, h3⟩ := hold id' _ he hne
   obtain ⟨d0, r0, hr0, hl0⟩ := (halis id' c i' k' s (hlim id' bk hbk) h1).resolve_left h3
   have hfree : ∀ d r, Vc.root h d c = some r → r ≠ id := by
     intro d r hr
     rw [← root_det _ _ _ _ _ hr0 hr]; exact hl0
   obtain ⟨q1, bkc, q2, q3⟩ := H.ali id' c i' k' s bk h1 hbk
   refine ⟨q1, bkc, q2, fun d szc esc hcc hmc hi' hk' => ?_⟩
   obtain ⟨hc1, e, hc2, hc3⟩ := keep_cont (fun c e he hc => (hold c e he hc).1) d c _ hfree (by rw [hent]; rfl) (by rw [hent]; intro z zz hz; cases hz) (by rw [hself]; rfl) (by rw [hent]; intro z z1 z2 z3 hz; cases hz) hcc
   have hmc' : isMixE (h c) = false := by rw [hc3, ← hc2]; exact hmc
   obtain ⟨bc, cur3, el3, v, h4, h5, h6, h7⟩ := q3 d szc esc hc1 hmc' hi' hk'
   obtain ⟨_, v3, r, M, hroot, _, ht, hhd⟩ := cont_hdr H d c szc esc bkc hc1 hmc' q2
   refine ⟨bc, cur3, el3, v, h4, ?_, h6, h7⟩
   cases ht with
   | nil => simp at hi'
   | own us2 hob =>
     cases hhd
     cases h4
     exact (hoth _ (by rw [hob]; intro h8; cases h8; exact hfree d _ hroot rfl)).trans h5
theorem Sto.up {h' : HP} (hs : ∀ id x, h id = some x → h' id = some x) (hlt : ∀ id, id < n → h' id = h id) {id i k : Nat} {x b : AV} {sz : Nat} {es : List (List AV)} {ds dels : List Nat} (hS : Sto h n id i k x b sz es ds dels) : Sto h' n id i k x b sz es ds dels := by
 refine ⟨hs _ _ hS.ent, layC_up hs hS.lay, hS.hi, hS.hk, hS.nodup, hS.lt, fun id' c i' k' s hid he => ?_⟩
 rw [hlt id' hid] at he
 rcases hS.alis id' c i' k' s hid he with h1 | ⟨d, r, h1, h2⟩
 · exact .inl h1
 exact .inr ⟨d, r, root_up hs d c r h1, h2⟩
end
end Go.Vc

namespace Go.Vc
open Go
def PurL (h : HP) (as bs : List AV) : Prop := as.length = bs.length ∧ ∀ k, k < as.length → PurTo h (as.getD k .bot) (bs.getD k .bot)
structure ICon (P : Program) (f : Nat) (as : List AV) (h : HP) (n : Nat) (e : Eff) : Prop where
 enters : ∃ fn, P.funcs[f]? = some fn ∧ (fn.name == "runtime.NumGoroutine") = false ∧ fn.body.isSome = true
 fine : (∀ id x, h id = some x → id < n) → e.fine n
 calls : ∀ (C : Ctx) (w : World) (g : Gh) (h' : HP) (vals : Array Value), (∀ id, id < n → h' id = h id) → (∀ p ∈ e.new, h' p.1 = some p.2) → (∀ id k, g.ρ id = some k → id < n) → WF C w g → HRel w g h' → vals.size = as.length →
   (∀ k, k < as.length → XRel w g.R g.ρ (vals.getD k undef) (as.getD k .bot)) →
   Calls P f vals w fun ex w' => ∃ v o' ρ', ex = .returned v ∧ WF C w' ⟨g.R, o', ρ'⟩ ∧ HRel w' ⟨g.R, o', ρ'⟩ (happ e h') ∧ (∀ id k, g.ρ id = some k → ρ' id = some k) ∧
     (∀ id k, ρ' id = some k → g.ρ id = some k ∨ (n ≤ id ∧ id < n + e.cnt)) ∧ XRel w' g.R ρ' v e.v ∧ (∀ b, g.R b → w'.heap[b]? = w.heap[b]?)
theorem ICon.up {P : Program} {f : Nat} {as : List AV} {h h' : HP} {n : Nat} {e : Eff} (hlt : ∀ id, id < n → h' id = h id) (hs : ∀ id x, h id = some x → h' id = some x) (hc : ICon P f as h n e) : ICon P f as h' n e :=
 ⟨hc.enters, fun hh => hc.fine fun id x hx => hh id x (hs id x hx), fun C w g h2 vals h1 => hc.calls C w g h2 vals fun id hid => (h1 id hid).trans (hlt id hid)⟩
inductive AOp (P : Program) (mt : Bool) (op : Op) (ev : Operand → AV) (h : HP) (n : Nat) : Eff → Prop
 | blt {c e} : opF P op ev h n = some (c, e) → c → AOp P mt op ev h n e
 | call {cl x f caps bs res} : op = .call cl → cl.callee = .value x → ev x = .fn f caps → PurL h (cl.args.toList.map ev ++ caps) bs → Contract P f bs res → AOp P mt op ev h n (unk n res)
 | mcall {cl x f caps args ms res m Pt sets dels} : mt = true → op = .call cl → cl.callee = .value x → ev x = .fn f caps → MContract P f args ms res → MCall h n ms m Pt sets dels →
     (cl.args.toList.map ev ++ caps).length = args.length → (∀ k, k < args.length → MArg m ((cl.args.toList.map ev ++ caps).getD k .bot) (args.getD k .bot)) →
     (∀ j, j < ms.length → ∃ k, k < args.length ∧ Occ (m.getD j 0) ((cl.args.toList.map ev ++ caps).getD k .bot)) → AOp P mt op ev h n { v := res, set := sets, del := dels }
 | icall {cl x f caps e} : mt = true → op = .call cl → cl.callee = .value x → ev x = .fn f caps → ICon P f (cl.args.toList.map ev ++ caps) h n e → AOp P mt op ev h n e
 | sto {t x y ty id i k b sz es ds dels} : op = .store t x y → tyi P t = some ty → ty.sz = 1 → ev x = .adr id i k → Sto h n id i k (ev y) b sz es ds dels →
     AOp P mt op ev h n { v := .bot, set := [(id, .row sz (es.set i ((es.getD i []).set k b)))], del := ds ++ dels }
section
variable {P : Program} {mt : Bool} {C : Ctx} {a : Act} {w : World} {g : Gh} {h : HP} {n : Nat} {e : Eff} {ev : Operand → AV}
theorem step_call (hev : ∀ x, XRel w g.R g.ρ (a.eval x) (ev x)) (W : WF C w g) (H : HRel w g h) {o : Oper} {cl : Call} {x : Operand} {f : Nat} {caps bs : List AV} {res : AV}
   (hnew : ∀ p ∈ (unk n res).new, h p.1 = some p.2) (hfr : ∀ id, n ≤ id → id < n + (unk n res).cnt → g.ρ id = none)
   (ho : o.op = .call cl) (hc : cl.callee = .value x) (hx : ev x = .fn f caps) (hp : PurL h (cl.args.toList.map ev ++ caps) bs) (hcon : Contract P f bs res) : Step P C o a w g h n (unk n res) := by
 intro K Q k
 have hxx := hev x
 rw [hx] at hxx
 obtain ⟨cs, hxv, hcl, hcr⟩ := hxx.fn_eq
 obtain ⟨fn, e1, e2, e3⟩ := hcon.enters
 have hrun : (execOp a.eval o).run P w = .ok (.enter f (cl.args.map a.eval ++ cs)) w := by
   obtain ⟨body, e3'⟩ := Option.isSome_iff_exists.1 e3
   have e2' : fn.name ≠ "runtime.NumGoroutine" := by simpa using e2
   simp [execOp, ho, resolve, hc, hxv, Deferred.ofValue, invoke, callFunc, e1, e2', e3']
 obtain ⟨hpl, hpk⟩ := hp
 have hR : ∀ b, RAll g b → b < w.heap.size := fun b hb => by
   rcases hb with hb | ⟨L, hb⟩
   · exact (W.R b hb).1
   exact (W.o b L hb).1
 have hargs := hcon.calls w (RAll g) (cl.args.map a.eval ++ cs) hR (by simp at hpl; simp; omega) (fun j hj => by
   have hj' : j < (cl.args.toList.map ev ++ caps).length := by omega
   refine (pur_rel H (hpk j hj') ?_).1
   by_cases hlt : j < cl.args.size
   · have h1 : (cl.args.map a.eval ++ cs).getD j undef = a.eval (cl.args[j]) := by
       simp [Array.getElem?_append, hlt]
     have h2 : (cl.args.toList.map ev ++ caps).getD j .bot = ev (cl.args[j]) := by
       simp [List.getD_eq_getElem?_getD, List.getElem?_append, hlt]
     rw [h1, h2]; exact hev _
   have hjc : j - cl.args.size < caps.length := by simp at hj'; omega
   have h1 : (cl.args.map a.eval ++ cs).getD j undef = cs.getD (j - cl.args.size) undef := by
     simp [Array.getElem?_append, hlt]
   have h2 : (cl.args.toList.map ev ++ caps).getD j .bot = caps.getD (j - cl.args.size) .bot := by
     simp [List.getD_eq_getElem?_getD, List.getElem?_append, hlt]
   rw [h1, h2]; exact hcr _ hjc)
 unfold Oper.wp
 rw [hrun, Oper.upon_enter]
 refine hargs.mono fun e w' ⟨v, o1, he, hb, ho1, hres⟩ => ?_
 subst he
 have hlow : ∀ b, b < w.heap.size → w'.heap[b]? = w.heap[b]? := fun b hb' => hb.block b hb'
 have ho2 : ∀ b m M, o1 b = some (m :: M) → oun n w.heap.size g.o o1 b = some ((n + m) :: M) := by
   intro b m M hb'
   have := (ho1 b _ hb').1
   simp only [oun]
   rw [if_neg (by omega), hb']
 have ho3 : ∀ b, b < w.heap.size → oun n w.heap.size g.o o1 b = g.o b := fun b hb' => by simp only [oun]; rw [if_pos hb']
 have hρ1 : ∀ id bk, g.ρ id = some bk → ρun n (fun j => (flatV v).getD j undef) (flat res) g.ρ id = some bk := by
   intro id bk hid
   simp only [ρun]
   rw [if_neg]
   · exact hid
   intro hr
   rw [hfr id hr.1 hr.2] at hid
   cases hid
 have hρ2 : ∀ id bk, ρun n (fun j => (flatV v).getD j undef) (flat res) g.ρ id = some bk → g.ρ id = none → ∃ m sz es, m < (flat res).length ∧ id = n + m ∧ (flat res).getD m .bot = .lst true sz es ∧ bk = hdrOf ((flatV v).getD m undef) sz := by
   intro id bk hid hn
   simp only [ρun] at hid
   split at hid
   · rename_i hr
     split at hid
     · rename_i sz es hcell
       simp only [Option.some.injEq] at hid
       exact ⟨id - n, sz, es, by omega, by omega, hcell, hid.symm⟩
     cases hid
   rw [hn] at hid; cases hid
 have hent : ∀ m sz es, m < (flat res).length → (flat res).getD m .bot = .lst true sz es → h (n + m) = some (.row sz es) := by
   intro m sz es hm he
   exact hnew (n + m, .row sz es) ((unE_mem n (flat res) 0 _).2 ⟨m, sz, es, hm, he, by simp⟩)
 refine k v w' (oun n w.heap.size g.o o1) (ρun n (fun j => (flatV v).getD j undef) (flat res) g.ρ) ⟨fun b hb' => ?_, fun b L hb' => ?_, hb.os.trans W.os, hb.tape.trans W.tape, hb.output.trans W.output, Nat.le_trans W.size hb.size, fun b hb' hw => ?_⟩ ?_ hρ1 ?_ ?_ (fun b hb' => hlow b (W.R b hb').1)
 · have := W.R b hb'
   exact ⟨Nat.lt_of_lt_of_le this.1 hb.size, by show oun n w.heap.size g.o o1 b = none; rw [ho3 b this.1]; exact this.2⟩
 · have hb2 : oun n w.heap.size g.o o1 b = some L := hb'
   by_cases hlt : b < w.heap.size
   · rw [ho3 b hlt] at hb2
     exact ⟨Nat.lt_of_lt_of_le hlt hb.size, (W.o b L hb2).2⟩
   simp only [oun] at hb2
   rw [if_neg hlt] at hb2
   split at hb2
   · rename_i m M hm
     exact ⟨(ho1 b _ hm).2, .inl (by have := W.size; omega)⟩
   cases hb2
 · rw [hlow b (by have := W.size; omega)]; exact W.keep b hb' hw
 · rw [happ_nil rfl rfl]
   refine H.mono (fun b hb' => hlow b (W.R b hb').1) (fun b L hb' => ⟨by rw [ho3 b (W.o b L hb').1]; exact hb', hlow b (W.o b L hb').1⟩) hρ1 ?_ ?_ ?_
   · intro id sz es bk h1 h2 h3
     obtain ⟨m, sz', es', hm, rfl, hcell, _⟩ := hρ2 id bk h3 h2
     rw [hent m sz' es' hm hcell] at h1; cases h1
   · intro id sz es bk h1 h2 h3
     obtain ⟨m, sz', es', hm, rfl, hcell, rfl⟩ := hρ2 id bk h3 h2
     rw [hent m sz' es' hm hcell] at h1
     cases h1
     have ht := hres.cell m hm
     rw [hcell] at ht
     refine ⟨_, (ht.anyR (R' := g.R)).mono (R' := g.R) [n + m] fun b M hb' => ⟨ho2 b m M (by simpa using hb'), rfl⟩, ?_⟩
     generalize (flatV v).getD m undef = u at ht ⊢
     cases ht with
     | nil => exact .nil
     | own => exact .own
   intro id c i k' sz bk h1 h2 h3
   obtain ⟨m, sz', es', hm, rfl, hcell, _⟩ := hρ2 id bk h3 h2
   rw [hent m sz' es' hm hcell] at h1; cases h1
 · intro id bk hid
   cases hg : g.ρ id with
   | some bk' => have := hρ1 id bk' hg; rw [hid] at this; exact .inl this.symm
   | none =>
     obtain ⟨m, sz', es', hm, rfl, _⟩ := hρ2 id bk hid hg
     exact .inr ⟨by omega, by simp only [unk]; omega⟩
 refine un_res hres fun m sz es hm hcell => ?_
 simp only [ρun]
 rw [if_pos (by omega), show n + m - n = m by omega, hcell]
theorem step_icall (hev : ∀ x, XRel w g.R g.ρ (a.eval x) (ev x)) (W : WF C w g) (H : HRel w g h) {o : Oper} {cl : Call} {x : Operand} {f : Nat} {caps : List AV} (hlim : ∀ id k, g.ρ id = some k → id < n)
   (hnew : ∀ p ∈ e.new, h p.1 = some p.2) (ho : o.op = .call cl) (hc : cl.callee = .value x) (hx : ev x = .fn f caps) (hcon : ICon P f (cl.args.toList.map ev ++ caps) h n e) : Step P C o a w g h n e := by
 intro K Q k
 have hxx := hev x
 rw [hx] at hxx
 obtain ⟨cs, hxv, hcl, hcr⟩ := hxx.fn_eq
 obtain ⟨fn, e1, e2, e3⟩ := hcon.enters
 have hrun : (execOp a.eval o).run P w = .ok (.enter f (cl.args.map a.eval ++ cs)) w := by
   obtain ⟨body, e3'⟩ := Option.isSome_iff_exists.1 e3
   have e2' : fn.name ≠ "runtime.NumGoroutine" := by simpa using e2
   simp [execOp, ho, resolve, hc, hxv, Deferred.ofValue, invoke, callFunc, e1, e2', e3']
 have hargs := hcon.calls C w g h (cl.args.map a.eval ++ cs) (fun _ _ => rfl) hnew hlim W H (by simp; omega) (fun j hj => by
   by_cases hlt : j < cl.args.size
   · have h1 : (cl.args.map a.eval ++ cs).getD j undef = a.eval (cl.args[j]) := by
       simp [Array.getElem?_append, hlt]
     have h2 : (cl.args.toList.map ev ++ caps).getD j .bot = ev (cl.args[j]) := by
       simp [List.getD_eq_getElem?_getD, List.getElem?_append, hlt]
     rw [h1, h2]; exact hev _
   have hjc : j - cl.args.size < caps.length := by simp at hj; omega
   have h1 : (cl.args.map a.eval ++ cs).getD j undef = cs.getD (j - cl.args.size) undef := by
     simp [Array.getElem?_append, hlt]
   have h2 : (cl.args.toList.map ev ++ caps).getD j .bot = caps.getD (j - cl.args.size) .bot := by
     simp [List.getD_eq_getElem?_getD, List.getElem?_append, hlt]
   rw [h1, h2]; exact hcr _ hjc)
 unfold Oper.wp
 rw [hrun, Oper.upon_enter]
 refine hargs.mono fun ex w' ⟨v, o', ρ', he, q1, q2, q3, q4, q5, q6⟩ => ?_
 subst he
 exact k v w' o' ρ' q1 q2 q3 q4 q5 q6
theorem AOp.step {o : Oper} (hop : AOp P mt o.op ev h n e) (hlim : wrM mt o.op = true → ∀ id k, g.ρ id = some k → id < n) (hev : ∀ x, XRel w g.R g.ρ (a.eval x) (ev x)) (W : WF C w g) (H : HRel w g h) (hnew : ∀ p ∈ e.new, h p.1 = some p.2)
   (hfr : ∀ id, n ≤ id → id < n + e.cnt → g.ρ id = none) : Step P C o a w g h n e := by
 cases hop with
 | blt he hc => exact opF_step hev W H hnew hfr he hc
 | call h1 h2 h3 h4 h5 => exact step_call hev W H hnew hfr h1 h2 h3 h4 h5
 | @mcall cl x f caps args ms res m Pt sets dels h0 h1 h2 h3 h4 h5 h6 h7 h8 =>
   refine step_mut hev W H (hlim ?_) h1 h2 h3 h4 h5 h6 h7 h8
   obtain ⟨ce, as, ts⟩ := cl
   simp only at h2
   subst h2
   simp [wrM, h0, h1, isCallV]
 | @icall cl x f caps _ h0 h1 h2 h3 h4 =>
   refine step_icall hev W H (hlim ?_) hnew h1 h2 h3 h4
   obtain ⟨ce, as, ts⟩ := cl
   simp only at h2
   subst h2
   simp [wrM, h0, h1, isCallV]
 | sto h1 h2 h3 h4 h5 => exact step_sto hev W H (hlim (by simp [wrM, h1, writes])) h1 h2 h3 h4 h5
theorem PurTo.up {h' : HP} (hs : ∀ id x, h id = some x → h' id = some x) {x y : AV} (hp : PurTo h x y) : PurTo h' x y := by
 have hm : ∀ id, isMixE (h id) = false → ∀ {d : Nat} {q}, cont h d id = some q → isMixE (h' id) = false := by
   intro id hm d q hc
   cases he : h id with
   | none => cases d <;> simp [cont, he] at hc
   | some e => rw [hs id e he]; rw [he] at hm; exact hm
 induction hp with
 | val => exact .val
 | nil => exact .nil
 | lst => exact .lst
 | rptr => exact .rptr
 | pre => exact .pre
 | row h1 h2 h3 h4 => exact .row (cont_up hs h1) (hm _ h2 h1) h3 h4
 | mix h1 h2 h3 h4 _ ih => exact .mix (hs _ _ h1) h2 h3 h4 ih
 | adr h1 h2 h3 _ ih => exact .adr (hs _ _ h1) h2 h3 ih
 | adrRow h1 h2 h3 h4 h5 => exact .adrRow (cont_up hs h1) (hm _ h2 h1) h3 h4 h5
 | agg h1 _ ih => exact .agg h1 ih
 | fn h1 h2 _ ih => exact .fn h1 h2 ih
theorem AOp.up {op : Op} {h' : HP} (hs : ∀ id x, h id = some x → h' id = some x) (hlt : ∀ id, id < n → h' id = h id) (hop : AOp P mt op ev h n e) : AOp P mt op ev h' n e := by
 cases hop with
 | blt he hc => exact .blt (opF_up hs he) hc
 | call h1 h2 h3 h4 h5 => exact .call h1 h2 h3 ⟨h4.1, fun k hk => (h4.2 k hk).up hs⟩ h5
 | mcall h0 h1 h2 h3 h4 h5 h6 h7 h8 => exact .mcall h0 h1 h2 h3 h4 (h5.up hs hlt) h6 h7 h8
 | icall h0 h1 h2 h3 h4 => exact .icall h0 h1 h2 h3 (h4.up hlt hs)
 | sto h1 h2 h3 h4 h5 => exact .sto h1 h2 h3 h4 (h5.up hs hlt)
theorem AOp.congr {op : Op} {ev' : Operand → AV} (hh : ∀ x ∈ op.operands, ev x = ev' x) (hop : AOp P mt op ev h n e) : AOp P mt op ev' h n e := by
 cases hop with
 | blt he hc => exact .blt (by rw [← opF_congr hh]; exact he) hc
 | @call cl x f caps bs res h1 h2 h3 h4 h5 =>
   subst h1
   have hm : cl.args.toList.map ev = cl.args.toList.map ev' := List.map_congr_left fun y hy => hh y (by simp [Op.operands, Call.operands]; exact .inr (by simpa using hy))
   refine .call rfl h2 ?_ (by rw [← hm]; exact h4) h5
   rw [← hh x (by simp [Op.operands, Call.operands, h2])]; exact h3
 | @mcall cl x f caps args ms res m Pt sets dels h0 h1 h2 h3 h4 h5 h6 h7 h8 =>
   subst h1
   have hm : cl.args.toList.map ev = cl.args.toList.map ev' := List.map_congr_left fun y hy => hh y (by simp [Op.operands, Call.operands]; exact .inr (by simpa using hy))
   rw [hm] at h6 h7 h8
   exact .mcall h0 rfl h2 (by rw [← hh x (by simp [Op.operands, Call.operands, h2])]; exact h3) h4 h5 h6 h7 h8
 | @icall cl x f caps _ h0 h1 h2 h3 h4 =>
   subst h1
   have hm : cl.args.toList.map ev = cl.args.toList.map ev' := List.map_congr_left fun y hy => hh y (by simp [Op.operands, Call.operands]; exact .inr (by simpa using hy))
   rw [hm] at h4
   exact .icall h0 rfl h2 (by rw [← hh x (by simp [Op.operands, Call.operands, h2])]; exact h3) h4
 | @sto t x y ty id i k b sz es ds dels h1 h2 h3 h4 h5 =>
   subst h1
   rw [hh x (by simp [Op.operands])] at h4
   rw [hh y (by simp [Op.operands])] at h5
   exact .sto rfl h2 h3 h4 h5
theorem AOp.fine {op : Op} (hlt : ∀ id x, h id = some x → id < n) (hop : AOp P mt op ev h n e) : e.fine n ∧ (wrM mt op = false → e.set = [] ∧ e.del = []) := by
 cases hop with
 | blt he hc => exact ⟨(opF_fine hlt he).1, fun hw => (opF_fine hlt he).2 (by simp only [wrM, Bool.or_eq_false_iff] at hw; exact hw.1)⟩
 | call h1 h2 => exact ⟨unk_fine _ _, fun _ => ⟨rfl, rfl⟩⟩
 | @mcall cl x f caps args ms res m Pt sets dels h0 h1 h2 h3 h4 h5 h6 h7 h8 =>
   refine ⟨⟨by simp, by simp, h5.hdels, h5.nodup, fun p hp => ?_⟩, fun hw => ?_⟩
   · obtain ⟨sz, es, fs, hr, _⟩ := h5.hsets p.1 p.2 (look_mem h5.nodup hp)
     exact hlt _ _ hr
   obtain ⟨ce, as, ts⟩ := cl
   simp only at h2
   subst h2
   simp [wrM, h0, h1, isCallV] at hw
 | @icall cl x f caps _ h0 h1 h2 h3 h4 =>
   refine ⟨h4.fine hlt, fun hw => ?_⟩
   obtain ⟨ce, as, ts⟩ := cl
   simp only at h2
   subst h2
   simp [wrM, h0, h1, isCallV] at hw
 | sto h1 h2 h3 h4 h5 => exact ⟨⟨by simp, by simp, h5.lt, setOne rfl (hlt _ _ h5.ent)⟩, fun hw => by simp [wrM, h1, writes] at hw⟩
theorem AOp.calm {op : Op} (ht : touch op = false) (hop : AOp P mt op ev h n e) : e.calm ∧ ∀ h', AOp P mt op ev h' n e := by
 cases hop with
 | blt he hc =>
   obtain ⟨h1, h2⟩ := opF_pure ht he
   exact ⟨h1, fun h' => .blt (h2 h' n) hc⟩
 | @call cl x f caps bs res h1 h2 =>
   subst h1
   simp [touch, h2] at ht
 | @mcall cl x f caps args ms res m Pt sets dels h0 h1 h2 =>
   subst h1
   simp [touch, h2] at ht
 | @icall cl x f caps _ h0 h1 h2 =>
   subst h1
   simp [touch, h2] at ht
 | sto h1 => subst h1; simp [touch] at ht
end
end Go.Vc

namespace Go.Vc
open Go
def reads (ops : Array Oper) (o : Oper) : List Nat :=
 (o.op.operands.toList.filterMap fun | .tmp t => some t | _ => none) ++
 (match o.guard with
  | some (j, _) => ((ops[j]?).bind (·.dst)).toList
  | none => [])
def clash (mt : Bool) (ops : Array Oper) (x y : Oper) : Bool :=
 (match x.dst with
  | some d => (reads ops y).contains d || y.dst == some d
  | none => false) ||
 (match y.dst with
  | some d => (reads ops x).contains d
  | none => false) ||
 (wrM mt x.op && touch y.op) || (touch x.op && wrM mt y.op)
def masks : List Oper → List Nat → List Nat
 | [], acc => acc
 | o :: r, acc => masks r (acc ++ [o.after.toList.foldl (fun s e => if Region.binds .any e then s ||| 2 ^ e.on ||| acc.getD e.on 0 else s) 0])
def okReg (mt : Bool) (ops : Array Oper) : Bool :=
 let ms := masks ops.toList []
 (List.range ops.size).all fun j => (List.range j).all fun i =>
   match ops[i]?, ops[j]? with
   | some x, some y => !clash mt ops x y || (ms.getD j 0).testBit i
   | _, _ => true
def okBack (ops : Array Oper) : Bool := ops.toList.zipIdx.all fun p => p.1.after.toList.all fun e => !Region.binds .any e || decide (e.on < p.2)
def okN (N : Nat) (ops : Array Oper) : Bool := ops.toList.all fun o => match o.dst with
 | some d => decide (d < N)
 | none => true
theorem masks_old : ∀ (os : List Oper) (acc : List Nat) (j : Nat), j < acc.length → (masks os acc).getD j 0 = acc.getD j 0 := by
 intro os
 induction os with
 | nil => intro acc j _; rfl
 | cons o r ih =>
   intro acc j hj
   simp only [masks]
   rw [ih _ j (by simp; omega)]
   simp [List.getD_eq_getElem?_getD, List.getElem?_append_left hj]
theorem fold_bit (acc : List Nat) (i : Nat) : ∀ (es : List Edge) (s : Nat), (es.foldl (fun s e => if Region.binds .any e then s ||| 2 ^ e.on ||| acc.getD e.on 0 else s) s).testBit i = true →
   s.testBit i = true ∨ ∃ e ∈ es, Region.binds .any e = true ∧ (e.on = i ∨ (acc.getD e.on 0).testBit i = true) := by
 intro es
 induction es with
 | nil => intro s h; exact .inl h
 | cons e es ih =>
   intro s h
   simp only [List.foldl_cons] at h
   rcases ih _ h with h1 | ⟨e', he', hb, hx⟩
   · split at h1
     · rename_i hb
       simp only [Nat.testBit_or, Bool.or_eq_true] at h1
       rcases h1 with (h1 | h1) | h1
       · exact .inl h1
       · refine .inr ⟨e, by simp, hb, .inl ?_⟩
         rw [Nat.testBit_two_pow] at h1
         simpa using h1
       exact .inr ⟨e, by simp, hb, .inr h1⟩
     exact .inl h1
   exact .inr ⟨e', by simp [he'], hb, hx⟩
theorem masks_bit : ∀ (os : List Oper) (acc : List Nat) (j i : Nat), acc.length ≤ j → ((masks os acc).getD j 0).testBit i = true →
   ∃ o, os[j - acc.length]? = some o ∧ ∃ e ∈ o.after.toList, Region.binds .any e = true ∧ (e.on = i ∨ (e.on < j ∧ ((masks os acc).getD e.on 0).testBit i = true)) := by
 intro os
 induction os with
 | nil =>
   intro acc j i hj h
   rw [getD_out (by simpa [masks] using hj)] at h
   simp at h
 | cons o r ih =>
   intro acc j i hj h
   simp only [masks] at h
   by_cases hje : j = acc.length
   · subst hje
     rw [masks_old _ _ _ (by simp)] at h
     have h1 : (acc ++ [o.after.toList.foldl (fun s e => if Region.binds .any e then s ||| 2 ^ e.on ||| acc.getD e.on 0 else s) 0]).getD acc.length 0 = o.after.toList.foldl (fun s e => if Region.binds .any e then s ||| 2 ^ e.on ||| acc.getD e.on 0 else s) 0 := by
       simp [List.getD_eq_getElem?_getD]
     rw [h1] at h
     refine ⟨o, by simp, ?_⟩
     rcases fold_bit acc i _ _ h with h2 | ⟨e, he, hb, hx⟩
     · simp at h2
     refine ⟨e, he, hb, hx.imp (fun x => x) fun hx => ?_⟩
     have hlt : e.on < acc.length := by
       rcases Nat.lt_or_ge e.on acc.length with h' | h'
       · exact h'
       rw [getD_out h'] at hx; simp at hx
     refine ⟨hlt, ?_⟩
     simp only [masks]
     rw [masks_old _ _ _ (by simp; omega)]
     simpa [List.getD_eq_getElem?_getD, List.getElem?_append_left hlt] using hx
   obtain ⟨o', h1, e, he, hb, hx⟩ := ih _ j i (by simp; omega) h
   refine ⟨o', ?_, e, he, hb, by simpa [masks] using hx⟩
   simp only [List.length_append, List.length_singleton] at h1
   rw [show j - acc.length = (j - (acc.length + 1)) + 1 by omega]
   simpa using h1
theorem okReg_spec {mt : Bool} {ops : Array Oper} (h : okReg mt ops = true) {i j : Nat} {x y : Oper} (hij : i < j) (hx : ops[i]? = some x) (hy : ops[j]? = some y) (hc : clash mt ops x y = true) : ((masks ops.toList []).getD j 0).testBit i = true := by
 unfold okReg at h
 simp only [List.all_eq_true, List.mem_range] at h
 have hj : j < ops.size := by
   rcases Nat.lt_or_ge j ops.size with h' | h'
   · exact h'
   simp [Array.getElem?_eq_none h'] at hy
 have := h j hj i hij
 rw [hx, hy] at this
 simpa [hc] using this
theorem clash_dst {mt : Bool} {ops : Array Oper} {x y : Oper} (h : clash mt ops x y = false) : (∀ d, x.dst = some d → d ∉ reads ops y ∧ y.dst ≠ some d) ∧ (∀ d, y.dst = some d → d ∉ reads ops x) ∧ (wrM mt x.op = true → touch y.op = false) ∧ (wrM mt y.op = true → touch x.op = false) := by
 unfold clash at h
 simp only [Bool.or_eq_false_iff, Bool.and_eq_false_iff] at h
 obtain ⟨⟨⟨h1, h2⟩, h3⟩, h4⟩ := h
 refine ⟨fun d hd => ?_, fun d hd => ?_, fun hw => ?_, fun hw => ?_⟩
 · rw [hd] at h1
   simp only [Bool.or_eq_false_iff] at h1
   refine ⟨by simpa using h1.1, ?_⟩
   intro hy
   rw [hy] at h1
   simp at h1
 · rw [hd] at h2
   simpa using h2
 · rcases h3 with h3 | h3
   · rw [hw] at h3; cases h3
   exact h3
 rcases h4 with h4 | h4
 · exact h4
 rw [hw] at h4; cases h4
end Go.Vc

namespace Go.Vc
open Go
def St.hp (st : St) : HP := fun id => look id st.h
theorem look_append {α : Type} (k : Nat) : ∀ (a b : List (Nat × α)), look k (a ++ b) = match look k a with | some x => some x | none => look k b := by
 intro a b
 induction a with
 | nil => rfl
 | cons p r ih =>
   obtain ⟨i, x⟩ := p
   simp only [List.cons_append, look]
   split
   · rfl
   exact ih
theorem look_setH (id : Nat) (e : Ent) : ∀ (h : List (Nat × Ent)) (k : Nat), look k (setH id e h) = if k = id then some e else look k h := by
 intro h k
 induction h with
 | nil =>
   simp only [setH, look]
   by_cases hk : k = id
   · subst hk; simp
   rw [if_neg (Ne.symm hk), if_neg hk]
 | cons p r ih =>
   obtain ⟨i, x⟩ := p
   simp only [setH]
   by_cases hi : i = id
   · subst hi
     rw [if_pos rfl]
     simp only [look]
     by_cases hk : i = k
     · subst hk; simp
     rw [if_neg hk, if_neg (Ne.symm hk), if_neg hk]
   rw [if_neg hi]
   simp only [look]
   by_cases hk : i = k
   · subst hk; rw [if_pos rfl, if_neg hi, if_pos rfl]
   rw [if_neg hk, ih, if_neg hk]
theorem look_delH (id : Nat) : ∀ (h : List (Nat × Ent)) (k : Nat), look k (delH id h) = if k = id then none else look k h := by
 intro h k
 induction h with
 | nil => simp [delH, look]
 | cons p r ih =>
   obtain ⟨i, x⟩ := p
   simp only [delH]
   by_cases hi : i = id
   · subst hi
     rw [if_pos rfl, ih]
     simp only [look]
     by_cases hk : k = i
     · rw [if_pos hk, if_pos hk]
     rw [if_neg hk, if_neg hk, if_neg (Ne.symm hk)]
   rw [if_neg hi]
   simp only [look]
   by_cases hk : i = k
   · subst hk; rw [if_pos rfl, if_neg hi, if_pos rfl]
   rw [if_neg hk, ih, if_neg hk]
theorem look_delAll : ∀ (ds : List Nat) (h : List (Nat × Ent)) (k : Nat), look k (delAll ds h) = if k ∈ ds then none else look k h := by
 intro ds
 induction ds with
 | nil => intro h k; simp [delAll]
 | cons d ds ih =>
   intro h k
   simp only [delAll]
   rw [ih, look_delH]
   by_cases h1 : k ∈ ds
   · simp [h1]
   by_cases h2 : k = d
   · simp [h2]
   simp [h1, h2]
theorem look_setAll : ∀ (s : List (Nat × Ent)) (h : List (Nat × Ent)) (k : Nat), (s.map Prod.fst).Nodup → look k (setAll s h) = match look k s with | some x => some x | none => look k h := by
 intro s
 induction s with
 | nil => intro h k _; rfl
 | cons p s ih =>
   obtain ⟨i, x⟩ := p
   intro h k hn
   simp only [List.map_cons, List.nodup_cons] at hn
   simp only [setAll, look]
   rw [ih _ _ hn.2, look_setH]
   by_cases hk : i = k
   · subst hk
     rw [if_pos rfl, if_pos rfl, look_none hn.1]
   rw [if_neg hk, if_neg (Ne.symm hk)]
theorem look_app (st : St) (dst : Option Nat) {e : Eff} (hf : e.fine st.n) (k : Nat) : look k (st.app dst e).h = match happ e st.hp k with | some x => some x | none => look k e.new := by
 simp only [St.app, look_append]
 have : look k (setAll e.set (delAll e.del st.h)) = happ e st.hp k := by
   rw [look_setAll _ _ _ hf.sets.1, look_delAll]
   simp only [happ, St.hp]
   cases look k e.set <;> rfl
 rw [this]
 cases happ e st.hp k <;> rfl
def St.ok (st : St) : Prop := ∀ id x, look id st.h = some x → id < st.n
theorem look_fine {e : Eff} {n : Nat} (hf : e.fine n) {k : Nat} {x : Ent} (h : look k e.new = some x) : n ≤ k ∧ k < n + e.cnt := by
 have hm := look_some h
 obtain ⟨p, hp, rfl⟩ := List.mem_map.1 hm
 exact hf.new p hp
theorem St.ok.app {st : St} (h : st.ok) (dst : Option Nat) {e : Eff} (hf : e.fine st.n) : (st.app dst e).ok := by
 intro id x hx
 rw [look_app st dst hf] at hx
 have hn : (st.app dst e).n = st.n + e.cnt := rfl
 rw [hn]
 cases hh : happ e st.hp id with
 | none => rw [hh] at hx; have := look_fine hf hx; omega
 | some y =>
   simp only [happ] at hh
   split at hh
   · rename_i z hz
     obtain ⟨p, hp, rfl⟩ := List.mem_map.1 (look_some hz)
     have := hf.sets.2 p hp
     omega
   split at hh
   · cases hh
   have := h id y hh; omega
theorem look_putS (t : Nat) (a : AV) : ∀ (s : List (Nat × AV)) (k : Nat), look k (putS t a s) = if k = t then some a else look k s := by
 intro s k
 induction s with
 | nil =>
   simp only [putS, look]
   by_cases hk : k = t
   · subst hk; simp
   rw [if_neg (Ne.symm hk), if_neg hk]
 | cons p r ih =>
   obtain ⟨i, x⟩ := p
   simp only [putS]
   by_cases hi : i = t
   · subst hi
     rw [if_pos rfl]
     simp only [look]
     by_cases hk : i = k
     · subst hk; simp
     rw [if_neg hk, if_neg (Ne.symm hk), if_neg hk]
   rw [if_neg hi]
   simp only [look]
   by_cases hk : i = k
   · subst hk; rw [if_pos rfl, if_neg hi, if_pos rfl]
   rw [if_neg hk, ih, if_neg hk]
theorem get_app (st : St) (dst : Option Nat) (e : Eff) (t : Nat) : (st.app dst e).get t = if dst = some t then e.v else st.get t := by
 cases dst with
 | none => simp [St.get, St.app]
 | some d =>
   simp only [St.get, St.app, look_putS]
   by_cases hk : t = d
   · subst hk; simp
   rw [if_neg hk, if_neg (by intro h; cases h; exact hk rfl)]
def wantA (ops : Array Oper) (o : Oper) (st : St) : Option Bool :=
 match o.guard with
 | none => some true
 | some (j, want) => match (ops[j]?).bind (·.dst) with
   | some t => match st.get t with
     | .val (.bool b) => some (b == want)
     | _ => none
   | none => none
structure Tr (P : Program) (mt : Bool) (ops : Array Oper) (S : Nat → St) (E : Nat → Option Eff) : Prop where
 ok : (S 0).ok
 run : ∀ k o, ops[k]? = some o → match E k with
   | some e => wantA ops o (S k) = some true ∧ AOp P mt o.op (S k).ev (S k).hp (S k).n e ∧ S (k + 1) = (S k).app o.dst e
   | none => wantA ops o (S k) = some false ∧ S (k + 1) = (S k).app o.dst { v := .bot }
def eff (E : Nat → Option Eff) (k : Nat) : Eff := (E k).getD { v := .bot }
section
variable {P : Program} {mt : Bool} {ops : Array Oper} {S : Nat → St} {E : Nat → Option Eff}
theorem bot_fine (n : Nat) : ({ v := .bot } : Eff).fine n := ⟨by simp, by simp, by simp, setNil rfl⟩
theorem Tr.all (T : Tr P mt ops S E) : ∀ k, k ≤ ops.size → (S k).ok := by
 intro k
 induction k with
 | zero => intro _; exact T.ok
 | succ k ih =>
   intro hk
   have hok := ih (by omega)
   have := T.run k _ (Array.getElem?_eq_getElem (show k < ops.size by omega))
   split at this
   · rename_i e he
     obtain ⟨_, h2, h3⟩ := this
     rw [h3]; exact hok.app _ (h2.fine hok).1
   obtain ⟨_, h3⟩ := this
   rw [h3]; exact hok.app _ (bot_fine _)
theorem Tr.step (T : Tr P mt ops S E) {k : Nat} {o : Oper} (ho : ops[k]? = some o) : (eff E k).fine (S k).n ∧ S (k + 1) = (S k).app o.dst (eff E k) ∧ (wrM mt o.op = false → (eff E k).set = [] ∧ (eff E k).del = []) ∧ (touch o.op = false → (eff E k).calm) := by
 have hk : k < ops.size := (Array.getElem?_eq_some_iff.1 ho).1
 have hok := T.all k (by omega)
 have := T.run k o ho
 cases hE : E k with
 | some e =>
   rw [hE] at this
   obtain ⟨_, h2, h3⟩ := this
   have hf := h2.fine hok
   simp only [eff, hE, Option.getD_some]
   exact ⟨hf.1, h3, hf.2, fun ht => (h2.calm ht).1⟩
 | none =>
   rw [hE] at this
   obtain ⟨_, h3⟩ := this
   simp only [eff, hE, Option.getD_none]
   exact ⟨bot_fine _, h3, fun _ => by simp, fun _ => ⟨rfl, rfl, rfl, rfl⟩⟩
theorem Tr.n (T : Tr P mt ops S E) {k : Nat} (hk : k < ops.size) : (S (k + 1)).n = (S k).n + (eff E k).cnt := by
 rw [(T.step (Array.getElem?_eq_getElem hk)).2.1]; rfl
theorem Tr.nle (T : Tr P mt ops S E) {i j : Nat} (hij : i ≤ j) (hj : j ≤ ops.size) : (S i).n ≤ (S j).n := by
 induction j with
 | zero => have : i = 0 := by omega
           subst this; exact Nat.le_refl _
 | succ j ih =>
   rcases Nat.lt_or_ge i (j + 1) with h | h
   · have := ih (by omega) (by omega)
     rw [T.n (by omega)]; omega
   have : i = j + 1 := by omega
   subst this; exact Nat.le_refl _
def later (E : Nat → Option Eff) : Nat → Nat → List (Nat × Ent)
 | _, 0 => []
 | k, m + 1 => (eff E k).new ++ later E (k + 1) m
theorem later_ge (T : Tr P mt ops S E) : ∀ (m k : Nat), k + m ≤ ops.size → ∀ p ∈ later E k m, (S k).n ≤ p.1 ∧ p.1 < (S (k + m)).n := by
 intro m
 induction m with
 | zero => intro k _ p hp; simp [later] at hp
 | succ m ih =>
   intro k hk p hp
   simp only [later, List.mem_append] at hp
   have h1 := T.n (show k < ops.size by omega)
   have h2 := T.nle (show k + 1 ≤ k + (m + 1) by omega) hk
   rcases hp with hp | hp
   · have := ((T.step (Array.getElem?_eq_getElem (show k < ops.size by omega))).1).new p hp
     omega
   have := ih (k + 1) (by omega) p hp
   rw [show k + 1 + m = k + (m + 1) by omega] at this
   omega
def HS (S : Nat → St) (E : Nat → Option Eff) (m k : Nat) : HP := fun id => match look id (S k).h with | some x => some x | none => look id (later E k (m - k))
theorem look_ge {l : List (Nat × Ent)} {n id : Nat} {x : Ent} (hl : ∀ p ∈ l, n ≤ p.1) (h : look id l = some x) : n ≤ id := by
 have hm := look_some h
 obtain ⟨p, hp, rfl⟩ := List.mem_map.1 hm
 exact hl p hp
theorem HS_succ (T : Tr P mt ops S E) {k : Nat} (hk : k < ops.size) : HS S E ops.size (k + 1) = happ (eff E k) (HS S E ops.size k) := by
 obtain ⟨hf, hS, _⟩ := T.step (Array.getElem?_eq_getElem hk)
 have hok := T.all k (by omega)
 funext id
 have hlat : later E k (ops.size - k) = (eff E k).new ++ later E (k + 1) (ops.size - (k + 1)) := by
   rw [show ops.size - k = (ops.size - (k + 1)) + 1 by omega]; rfl
 have hge := later_ge T (ops.size - (k + 1)) (k + 1) (by omega)
 have hnl : ∀ x, look id ((eff E k).new ++ later E (k + 1) (ops.size - (k + 1))) = some x → (S k).n ≤ id := by
   intro x hx
   rw [look_append] at hx
   cases hn : look id (eff E k).new with
   | some y => exact (look_fine hf hn).1
   | none =>
     rw [hn] at hx
     have h1 := look_ge (fun p hp => (hge p hp).1) hx
     have h2 := T.nle (show k ≤ k + 1 by omega) (by omega)
     omega
 have e1 : HS S E ops.size (k + 1) id = match happ (eff E k) (S k).hp id with | some x => some x | none => look id ((eff E k).new ++ later E (k + 1) (ops.size - (k + 1))) := by
   simp only [HS, hS, look_append]
   rw [look_app _ _ hf]
   cases happ (eff E k) (S k).hp id with
   | some x => rfl
   | none => cases look id (eff E k).new <;> rfl
 have e2 : HS S E ops.size k id = match (S k).hp id with | some x => some x | none => look id ((eff E k).new ++ later E (k + 1) (ops.size - (k + 1))) := by
   simp only [HS, hlat, St.hp]
 rw [e1]
 simp only [happ]
 cases hset : look id (eff E k).set with
 | some x => rfl
 | none =>
   simp only
   by_cases hd : id ∈ (eff E k).del
   · simp only [hd, if_true]
     cases hl : look id ((eff E k).new ++ later E (k + 1) (ops.size - (k + 1))) with
     | none => rfl
     | some x => have h1 := hnl x hl; have h2 := hf.del id hd; omega
   simp only [hd, if_false]
   rw [e2]
def envU (ops : Array Oper) (S : Nat → St) (E : Nat → Option Eff) (L : Nat → Bool) : Nat → Nat → AV
 | 0, t => (S 0).get t
 | k + 1, t => if L k = true ∧ (ops[k]?).bind (·.dst) = some t then (eff E k).v else envU ops S E L k t
def hU (mt : Bool) (ops : Array Oper) (S : Nat → St) (E : Nat → Option Eff) (L : Nat → Bool) : Nat → HP
 | 0 => HS S E ops.size 0
 | k + 1 => if L k = true ∧ ((ops[k]?).map (wrM mt ·.op)).getD false = true then HS S E ops.size (k + 1) else hU mt ops S E L k
theorem envU_at (T : Tr P mt ops S E) (L : Nat → Bool) (t i : Nat) (hi : i ≤ ops.size) (h1 : ∀ k, k < i → (ops[k]?).bind (·.dst) = some t → L k = true) : envU ops S E L i t = (S i).get t := by
 induction i with
 | zero => rfl
 | succ i ih =>
   have h0 := ih (by omega) fun k hk => h1 k (by omega)
   obtain ⟨_, hS, _⟩ := T.step (Array.getElem?_eq_getElem (show i < ops.size by omega))
   rw [hS, get_app]
   simp only [envU]
   have hd : (ops[i]?).bind (·.dst) = (ops[i]).dst := by rw [Array.getElem?_eq_getElem (show i < ops.size by omega)]; rfl
   rw [hd]
   by_cases hdt : (ops[i]).dst = some t
   · rw [if_pos ⟨h1 i (by omega) (by rw [hd]; exact hdt), hdt⟩, if_pos hdt]
   rw [if_neg (fun h => hdt h.2), if_neg hdt]; exact h0
theorem envU_past (L : Nat → Bool) (t i : Nat) : ∀ m, i ≤ m → (∀ k, i ≤ k → k < m → L k = true → (ops[k]?).bind (·.dst) ≠ some t) → envU ops S E L m t = envU ops S E L i t := by
 intro m
 induction m with
 | zero => intro h _; have : i = 0 := by omega
           subst this; rfl
 | succ m ih =>
   intro h hk
   rcases Nat.lt_or_ge i (m + 1) with h' | h'
   · simp only [envU]
     rw [if_neg]
     · exact ih (by omega) fun k h1 h2 => hk k h1 (by omega)
     intro hh; exact hk m (by omega) (by omega) hh.1 hh.2
   have : i = m + 1 := by omega
   subst this; rfl
def isW (mt : Bool) (ops : Array Oper) (k : Nat) : Bool := ((ops[k]?).map (wrM mt ·.op)).getD false
theorem hU_at (T : Tr P mt ops S E) (L : Nat → Bool) (i : Nat) (hi : i ≤ ops.size) (h1 : ∀ k, k < i → isW mt ops k = true → L k = true) : hU mt ops S E L i = HS S E ops.size i := by
 induction i with
 | zero => rfl
 | succ i ih =>
   have h0 := ih (by omega) fun k hk => h1 k (by omega)
   simp only [hU]
   by_cases hw : isW mt ops i = true
   · rw [if_pos ⟨h1 i (by omega) hw, hw⟩]
   rw [if_neg (fun h => hw h.2), h0, HS_succ T (by omega)]
   have hg := Array.getElem?_eq_getElem (show i < ops.size by omega)
   obtain ⟨_, _, hcalm, _⟩ := T.step hg
   have : wrM mt (ops[i]).op = false := by simpa [isW, hg] using hw
   obtain ⟨h2, h3⟩ := hcalm this
   rw [happ_nil h2 h3]
theorem hU_past (L : Nat → Bool) (i : Nat) : ∀ m, i ≤ m → (∀ k, i ≤ k → k < m → L k = true → isW mt ops k = false) → hU mt ops S E L m = hU mt ops S E L i := by
 intro m
 induction m with
 | zero => intro h _; have : i = 0 := by omega
           subst this; rfl
 | succ m ih =>
   intro h hk
   rcases Nat.lt_or_ge i (m + 1) with h' | h'
   · simp only [hU]
     rw [if_neg]
     · exact ih (by omega) fun k h1 h2 => hk k h1 (by omega)
     intro hh
     have := hk m (by omega) (by omega) hh.1
     simp only [isW] at this
     rw [this] at hh
     exact absurd hh.2 (by simp)
   have : i = m + 1 := by omega
   subst this; rfl
structure Mid (mt : Bool) (C : Ctx) (R : Nat → Prop) (N : Nat) (ops : Array Oper) (S : Nat → St) (E : Nat → Option Eff) (w0 : World) (L : Nat → Bool) (a : Act) (w : World) : Prop where
 size : a.tmps.size = N
 defers : a.defers = []
 ex : ∃ o ρ, WF C w ⟨R, o, ρ⟩ ∧ HRel w ⟨R, o, ρ⟩ (hU mt ops S E L ops.size) ∧ (∀ t, XRel w R ρ (a.tmps.getD t undef) (envU ops S E L ops.size t)) ∧
   (∀ id k, ρ id = some k → id < (S 0).n ∨ ∃ j, j < ops.size ∧ L j = true ∧ (S j).n ≤ id ∧ id < (S (j + 1)).n) ∧ (∀ id, id < C.n0 → ρ id = C.ρ0 id) ∧ C.n0 ≤ (S 0).n
 keep : ∀ b, R b → w.heap[b]? = w0.heap[b]?
def upL (L : Nat → Bool) (i : Nat) : Nat → Bool := fun k => if k = i then true else L k
theorem envU_upL {L : Nat → Bool} {i : Nat} (hL : L i = false) (t : Nat) : ∀ m, (∀ k, i < k → k < m → L k = true → (ops[k]?).bind (·.dst) ≠ (ops[i]?).bind (·.dst) ∨ (ops[i]?).bind (·.dst) = none) →
   envU ops S E (upL L i) m t = if i < m ∧ (ops[i]?).bind (·.dst) = some t then (eff E i).v else envU ops S E L m t := by
 intro m
 induction m with
 | zero => intro _; rw [if_neg (by omega)]; rfl
 | succ m ih =>
   intro hk
   have h0 := ih fun k h1 h2 => hk k h1 (by omega)
   simp only [envU]
   by_cases hm : m = i
   · subst hm
     have hu : upL L m m = true := by simp [upL]
     rw [h0, hu, hL, if_neg (show ¬ (m < m ∧ _) by omega)]
     by_cases hd : (ops[m]?).bind (·.dst) = some t
     · rw [if_pos ⟨rfl, hd⟩, if_pos ⟨by omega, hd⟩]
     rw [if_neg (fun h => hd h.2), if_neg (fun h => hd h.2), if_neg (by simp)]
   have hu : upL L i m = L m := by simp [upL, hm]
   rw [hu, h0]
   by_cases hLm : L m = true ∧ (ops[m]?).bind (·.dst) = some t
   · rw [if_pos hLm]
     by_cases him : i < m + 1 ∧ (ops[i]?).bind (·.dst) = some t
     · rcases hk m (by omega) (by omega) hLm.1 with h2 | h2
       · exact absurd (hLm.2.trans him.2.symm) h2
       rw [h2] at him; cases him.2
     rw [if_neg him, if_pos hLm]
   rw [if_neg hLm, if_neg hLm]
   by_cases hd : (ops[i]?).bind (·.dst) = some t
   · by_cases him : i < m
     · rw [if_pos ⟨him, hd⟩, if_pos ⟨by omega, hd⟩]
     rw [if_neg (by omega), if_neg (by omega)]
   rw [if_neg (fun h => hd h.2), if_neg (fun h => hd h.2)]
theorem hU_upL (T : Tr P mt ops S E) {L : Nat → Bool} {i : Nat} (hi : i < ops.size) (hL : L i = false) (hA : isW mt ops i = true → (∀ k, k < i → isW mt ops k = true → L k = true) ∧ ∀ k, i < k → k < ops.size → L k = true → isW mt ops k = false) :
   hU mt ops S E (upL L i) ops.size = happ (bif isW mt ops i then eff E i else { v := .bot }) (hU mt ops S E L ops.size) := by
 by_cases hw : isW mt ops i = true
 · obtain ⟨h1, h2⟩ := hA hw
   rw [hw, cond_true]
   have e1 : hU mt ops S E L ops.size = HS S E ops.size i := by
     rw [hU_past L i ops.size (by omega) fun k hk1 hk2 hk3 => by
       by_cases hki : k = i
       · subst hki; rw [hL] at hk3; cases hk3
       exact h2 k (by omega) hk2 hk3]
     exact hU_at T L i (by omega) h1
   have e2 : hU mt ops S E (upL L i) ops.size = HS S E ops.size (i + 1) := by
     rw [hU_past (upL L i) (i + 1) ops.size (by omega) fun k hk1 hk2 hk3 => by
       have : upL L i k = L k := by simp [upL, show k ≠ i by omega]
       rw [this] at hk3
       exact h2 k (by omega) hk2 hk3]
     exact hU_at T (upL L i) (i + 1) (by omega) fun k hk1 hk2 => by
       by_cases hki : k = i
       · simp [upL, hki]
       simp only [upL]; rw [if_neg hki]; exact h1 k (by omega) hk2
   rw [e1, e2, HS_succ T hi]
 have hw' : isW mt ops i = false := by simpa using hw
 rw [hw', cond_false, happ_nil rfl rfl]
 have : ∀ m, hU mt ops S E (upL L i) m = hU mt ops S E L m := by
   intro m
   induction m with
   | zero => rfl
   | succ m ih =>
     simp only [hU]
     by_cases hm : m = i
     · subst hm
       rw [if_neg (fun h => hw h.2), if_neg (fun h => hw h.2)]; exact ih
     have hu : upL L i m = L m := by simp [upL, hm]
     rw [hu, ih]
 exact this _
end
end Go.Vc

namespace Go.Vc
open Go
section
variable {P : Program} {mt : Bool} {ops : Array Oper} {S : Nat → St} {E : Nat → Option Eff} {C : Ctx} {R : Nat → Prop} {N : Nat} {w0 : World}
theorem tmp_reads {o : Oper} {t : Nat} (h : (.tmp t : Operand) ∈ o.op.operands) : t ∈ reads ops o := by
 simp only [reads, List.mem_append]
 left
 refine List.mem_filterMap.2 ⟨.tmp t, by simpa using h, rfl⟩
theorem guard_reads {o : Oper} {j : Nat} {want : Bool} {t : Nat} (h : o.guard = some (j, want)) (ht : (ops[j]?).bind (·.dst) = some t) : t ∈ reads ops o := by
 simp only [reads, List.mem_append]
 right
 rw [h]
 simp [ht]
theorem put_size (a : Act) (d : Option Tmp) (v : Value) : (a.put d v).tmps.size = a.tmps.size := by cases d <;> simp [Act.put]
theorem put_get (a : Act) (d : Option Tmp) (v : Value) (t : Nat) (hd : ∀ x, d = some x → x < a.tmps.size) : (a.put d v).tmps.getD t undef = if d = some t then v else a.tmps.getD t undef := by
 cases d with
 | none => simp [Act.put]
 | some x =>
   have := hd x rfl
   simp only [Act.put]
   by_cases hx : x = t
   · subst hx; simp [this]
   rw [if_neg (by intro h; cases h; exact hx rfl)]
   simp [Array.getElem?_setIfInBounds, hx]
theorem mid_step (T : Tr P mt ops S E) (hN : ∀ o ∈ ops.toList, ∀ d, o.dst = some d → d < N) {L : Nat → Bool} {i : Nat} {oi : Oper} (hi : ops[i]? = some oi) (hL : L i = false)
   (hA : ∀ k o, k < i → ops[k]? = some o → clash mt ops o oi = true → L k = true) (hB : ∀ k o, i < k → ops[k]? = some o → L k = true → clash mt ops oi o = false)
   {a : Act} {w : World} (M : Mid mt C R N ops S E w0 L a w) {K : Act → World → Prop} {Q : Exit → Act → World → Prop} (hK : ∀ a' w', Mid mt C R N ops S E w0 (upL L i) a' w' → K a' w') : wpOp P ops Q i K a w := by
 classical
 have hin : i < ops.size := (Array.getElem?_eq_some_iff.1 hi).1
 obtain ⟨o, ρ, W, H, hx, hρ, hpin⟩ := M.ex
 obtain ⟨hf, hS, hnw, hnt⟩ := T.step hi
 have hd : (ops[i]?).bind (·.dst) = oi.dst := by rw [hi]; rfl
 have hslot : ∀ t, t ∈ reads ops oi → envU ops S E L ops.size t = (S i).get t := by
   intro t ht
   rw [envU_past L t i ops.size (by omega) fun k hk1 hk2 hk3 => ?_]
   · refine envU_at T L t i (by omega) fun k hk1 hk2 => ?_
     have hk : k < ops.size := by omega
     refine hA k _ hk1 (Array.getElem?_eq_getElem hk) ?_
     rw [Array.getElem?_eq_getElem hk] at hk2
     have hk2 : (ops[k]).dst = some t := hk2
     simp only [clash, hk2, Bool.or_eq_true]
     left; left; left; left
     simpa using ht
   intro hdk
   by_cases hki : k = i
   · subst hki; rw [hL] at hk3; cases hk3
   have hk : k < ops.size := hk2
   have h1 := hB k _ (by omega) (Array.getElem?_eq_getElem hk) hk3
   rw [Array.getElem?_eq_getElem hk] at hdk
   exact (clash_dst h1).2.1 t hdk ht
 have hown : ∀ t, envU ops S E (upL L i) ops.size t = if oi.dst = some t then (eff E i).v else envU ops S E L ops.size t := by
   intro t
   rw [envU_upL hL t ops.size fun k h1 h2 h3 => ?_, hd]
   · by_cases hdt : oi.dst = some t
     · rw [if_pos ⟨hin, hdt⟩, if_pos hdt]
     rw [if_neg (fun h => hdt h.2), if_neg hdt]
   cases hdi : oi.dst with
   | none => right; rw [hd, hdi]
   | some d =>
     left
     rw [hd, hdi, Array.getElem?_eq_getElem h2]
     have h4 := hB k _ h1 (Array.getElem?_eq_getElem h2) h3
     exact ((clash_dst h4).1 d hdi).2
 have hdN : ∀ x, oi.dst = some x → x < a.tmps.size := fun x hx => by
   rw [M.size]
   exact hN oi (by rw [← Array.getElem?_toList] at hi; exact List.mem_of_getElem? hi) x hx
 have fin : ∀ v w' o' ρ', WF C w' ⟨R, o', ρ'⟩ → HRel w' ⟨R, o', ρ'⟩ (hU mt ops S E (upL L i) ops.size) → (∀ id k, ρ id = some k → ρ' id = some k) → (∀ id k, ρ' id = some k → ρ id = some k ∨ ((S i).n ≤ id ∧ id < (S i).n + (eff E i).cnt)) →
     XRel w' R ρ' v (eff E i).v → (∀ b, R b → w'.heap[b]? = w.heap[b]?) → K (a.put oi.dst v) w' := by
   intro v w' o' ρ' W' H' h1 h2 hv h3
   refine hK _ _ ⟨by rw [put_size]; exact M.size, by rw [← M.defers]; cases oi.dst <;> rfl, ⟨o', ρ', W', H', fun t => ?_, fun id k hk => ?_, fun id hid => ?_, hpin.2⟩, fun b hb => (h3 b hb).trans (M.keep b hb)⟩
   · rw [put_get a oi.dst v t hdN, hown]
     split
     · exact hv
     exact (hx t).mono (fun b hb => ⟨hb, h3 b hb⟩) h1
   · rcases h2 id k hk with h4 | h4
     · rcases hρ id k h4 with h5 | ⟨j, hj, hLj, h5⟩
       · exact .inl h5
       exact .inr ⟨j, hj, by simp only [upL]; split <;> simp_all, h5⟩
     exact .inr ⟨i, hin, by simp [upL], h4.1, by rw [T.n hin]; exact h4.2⟩
   rw [← hpin.1 id hid]
   cases hr : ρ id with
   | some k => exact h1 id k hr
   | none =>
     cases hr' : ρ' id with
     | none => rfl
     | some k =>
       exfalso
       rcases h2 id k hr' with h4 | h4
       · rw [hr] at h4; cases h4
       have := T.nle (show 0 ≤ i by omega) (by omega)
       have := hpin.2
       omega
 have hW : isW mt ops i = true → (∀ k, k < i → isW mt ops k = true → L k = true) ∧ ∀ k, i < k → k < ops.size → L k = true → isW mt ops k = false := by
   intro hw
   have hwi : wrM mt oi.op = true := by simpa [isW, hi] using hw
   have htw : ∀ x : Op, wrM mt x = true → touch x = true := by
     intro x hx
     cases x with
     | call cl =>
       obtain ⟨ce, args, ts⟩ := cl
       cases ce with
       | builtin b => cases b <;> simp_all [wrM, isCallV, writes, touch]
       | value => rfl
       | invoke => simp [wrM, isCallV, writes] at hx
     | _ => first | rfl | (simp [wrM, isCallV, writes] at hx; done)
   refine ⟨fun k hk hwk => ?_, fun k hk hk2 hLk => ?_⟩
   · have hks : k < ops.size := by omega
     have hg := Array.getElem?_eq_getElem hks
     have hwk' : wrM mt (ops[k]).op = true := by simpa [isW, hg] using hwk
     refine hA k _ hk hg ?_
     simp only [clash, Bool.or_eq_true, Bool.and_eq_true]
     left; right
     exact ⟨hwk', htw _ hwi⟩
   have hg := Array.getElem?_eq_getElem hk2
   have h1 := hB k _ hk hg hLk
   have h2 := (clash_dst h1).2.2.1 hwi
   cases hwk : isW mt ops k with
   | false => rfl
   | true =>
     have hwk' : wrM mt (ops[k]).op = true := by simpa [isW, hg] using hwk
     rw [htw _ hwk'] at h2; cases h2
 have hhU := hU_upL T hin hL hW
 have hguard : ∀ b, wantA ops oi (S i) = some b → Region.wanted oi (yielded ops a.tmps) = b := by
   intro b hb
   unfold wantA at hb
   unfold Region.wanted
   split at hb
   · rename_i hg
     rw [hg]; simpa using hb
   rename_i j want hg
   rw [hg]
   split at hb
   · rename_i t ht
     split at hb
     · rename_i bb hbb
       have h1 := hx t
       rw [hslot t (guard_reads hg ht), hbb] at h1
       have h2 := h1.val_eq.1
       have h3 : a.tmps[t]? = some (.bool bb) := by
         cases hh : a.tmps[t]? with
         | none => simp [hh, undef] at h2
         | some x => simp [hh] at h2; rw [h2]
       simp only [yielded, ht, Option.bind_some, h3]
       simp only [Option.some.injEq] at hb
       rw [← hb]
       cases bb <;> cases want <;> rfl
     cases hb
   cases hb
 have hrun := T.run i oi hi
 unfold wpOp
 rw [hi]
 simp only
 cases hE : E i with
 | none =>
   rw [hE] at hrun
   rw [hguard false hrun.1]
   simp only [Bool.false_eq_true, if_false]
   have heff : eff E i = { v := .bot } := by simp [eff, hE]
   refine fin undef w o ρ W ?_ (fun _ _ h => h) (fun _ _ h => .inl h) (by rw [heff]; exact .bot) (fun _ _ => rfl)
   rw [hhU, heff]
   cases isW mt ops i <;> simpa [happ_nil] using H
 | some e =>
   rw [hE] at hrun
   obtain ⟨hwant, hop, _⟩ := hrun
   have heff : eff E i = e := by simp [eff, hE]
   rw [hguard true hwant]
   simp only [if_true]
   left
   let ev : Operand → AV := fun x => if x ∈ oi.op.operands then (S i).ev x else .bot
   have hev : ∀ x, XRel w R ρ (a.eval x) (ev x) := by
     intro x
     simp only [ev]
     split
     · rename_i hmem
       cases x with
       | tmp t =>
         have := hx t
         rw [hslot t (tmp_reads hmem)] at this
         exact this
       | const v =>
         simp only [St.ev, cst, Act.eval]
         split
         · rename_i hsc; exact .r (.val (scB_sc hsc))
         exact .bot
       | global => exact .bot
       | func f => exact .fn (by simp) (fun k hk => by simp at hk)
     exact .bot
   have hop1 : AOp P mt oi.op ev (S i).hp (S i).n e := hop.congr fun x hx => by simp only [ev]; rw [if_pos hx]
   have hop2 : AOp P mt oi.op ev (hU mt ops S E L ops.size) (S i).n e ∧ (∀ p ∈ e.new, hU mt ops S E L ops.size p.1 = some p.2) := by
     cases ht : touch oi.op with
     | false =>
       have hc := hop1.calm ht
       exact ⟨hc.2 _, by rw [hc.1.2.2.1]; simp⟩
     | true =>
       have e1 : hU mt ops S E L ops.size = HS S E ops.size i := by
         rw [hU_past L i ops.size (by omega) fun k hk1 hk2 hk3 => ?_]
         · refine hU_at T L i (by omega) fun k hk hwk => ?_
           have hks : k < ops.size := by omega
           have hg := Array.getElem?_eq_getElem hks
           have hwk' : wrM mt (ops[k]).op = true := by simpa [isW, hg] using hwk
           refine hA k _ hk hg ?_
           simp only [clash, Bool.or_eq_true, Bool.and_eq_true]
           left; right
           exact ⟨hwk', ht⟩
         by_cases hki : k = i
         · subst hki; rw [hL] at hk3; cases hk3
         have hg := Array.getElem?_eq_getElem hk2
         have h1 := hB k _ (by omega) hg hk3
         cases hwk : isW mt ops k with
         | false => rfl
         | true =>
           have hwk' : wrM mt (ops[k]).op = true := by simpa [isW, hg] using hwk
           have := (clash_dst h1).2.2.2 hwk'
           rw [ht] at this; cases this
       have hok := T.all i (by omega)
       refine ⟨?_, fun p hp => ?_⟩
       · rw [e1]
         refine hop1.up (fun id x hid => ?_) fun id hid => ?_
         · have hid' : look id (S i).h = some x := hid
           simp only [HS, hid']
         simp only [HS, St.hp]
         cases hh : look id (S i).h with
         | some x => rfl
         | none =>
           cases hl : look id (later E i (ops.size - i)) with
           | none => rfl
           | some x =>
             obtain ⟨p, hp, hpe⟩ := List.mem_map.1 (look_some hl)
             have := (later_ge T (ops.size - i) i (by omega) p hp).1
             omega
       rw [e1]
       have hfe : e.fine (S i).n := by rw [← heff]; exact hf
       have hlt := (hfe.new p hp).1
       have hnone : look p.1 (S i).h = none := by
         cases hh : look p.1 (S i).h with
         | none => rfl
         | some x => have := hok _ _ hh; omega
       simp only [HS, hnone]
       have hlat : later E i (ops.size - i) = (eff E i).new ++ later E (i + 1) (ops.size - (i + 1)) := by
         rw [show ops.size - i = (ops.size - (i + 1)) + 1 by omega]; rfl
       rw [hlat, look_append, heff, look_mem hfe.nodup hp]
   have hfr : ∀ id, (S i).n ≤ id → id < (S i).n + e.cnt → ρ id = none := by
     intro id h1 h2
     cases hh : ρ id with
     | none => rfl
     | some k =>
       have hni := T.n hin
       rw [heff] at hni
       rcases hρ id k hh with h3 | ⟨j, hj, hLj, h3, h4⟩
       · have := T.nle (show 0 ≤ i by omega) (by omega)
         omega
       rcases Nat.lt_trichotomy j i with hji | hji | hji
       · have := T.nle (show j + 1 ≤ i by omega) (by omega); omega
       · subst hji; rw [hL] at hLj; cases hLj
       have := T.nle (show i + 1 ≤ j by omega) (by omega); omega
   have hlim : wrM mt oi.op = true → ∀ id k, ρ id = some k → id < (S i).n := by
     intro hw id k hk
     rcases hρ id k hk with h3 | ⟨j, hj, hLj, h3, h4⟩
     · exact Nat.lt_of_lt_of_le h3 (T.nle (by omega) (by omega))
     rcases Nat.lt_trichotomy j i with hji | hji | hji
     · have := T.nle (show j + 1 ≤ i by omega) (by omega); omega
     · subst hji; rw [hL] at hLj; cases hLj
     have hg := Array.getElem?_eq_getElem hj
     have h5 := (clash_dst (hB j _ hji hg hLj)).2.2.1 hw
     have h6 := (T.step hg).2.2.2 h5
     have := T.n hj
     rw [h6.2.2.2] at this
     omega
   have hstep := hop2.1.step hlim hev W H hop2.2 hfr
   refine hstep K Q fun v w' o' ρ' W' H' h1 h2 hv h3 => ?_
   have hv' : XRel w' R ρ' v (eff E i).v := by rw [heff]; exact hv
   refine fin v w' o' ρ' W' ?_ h1 (by rw [heff]; exact h2) hv' h3
   rw [hhU, heff]
   cases hw : isW mt ops i with
   | true => exact H'
   | false =>
     have hwf : wrM mt oi.op = false := by simpa [isW, hi] using hw
     have := hnw hwf
     rw [heff] at this
     rw [happ_nil this.1 this.2] at H'
     rw [cond_false, happ_nil rfl rfl]
     exact H'
end
end Go.Vc

namespace Go.Vc
open Go
structure Rel (C : Ctx) (R : Nat → Prop) (N : Nat) (a : Act) (w : World) (st : St) : Prop where
 size : a.tmps.size = N
 defers : a.defers = []
 ok : st.ok
 ex : ∃ o ρ, WF C w ⟨R, o, ρ⟩ ∧ HRel w ⟨R, o, ρ⟩ st.hp ∧ (∀ t, XRel w R ρ (a.tmps.getD t undef) (st.get t)) ∧ (∀ id k, ρ id = some k → id < st.n) ∧ (∀ id, id < C.n0 → ρ id = C.ρ0 id) ∧ C.n0 ≤ st.n
theorem Rel.drew {C : Ctx} {R : Nat → Prop} {N : Nat} {a : Act} {w : World} {st : St} (h : Rel C R N a w st) : Rel C R N a w.drew st := by
 obtain ⟨h1, h2, h3, o, ρ, W, H, hx, hρ⟩ := h
 exact ⟨h1, h2, h3, o, ρ, W.drew, H.heap_eq rfl, fun t => XRel.mono (w := w) (w' := w.drew) (fun b hb => ⟨hb, rfl⟩) (fun _ _ h => h) (hx t), hρ⟩
section
variable {P : Program} {mt : Bool} {ops : Array Oper} {S : Nat → St} {E : Nat → Option Eff} {C : Ctx} {R : Nat → Prop} {N : Nat}
theorem HRel.grow {w : World} {g : Gh} {h h' : HP} (H : HRel w g h) (hn : ∀ id k, g.ρ id = some k → h' id = h id) : HRel w g h' := by
 have hc : ∀ (d c : Nat) (k : Bk), g.ρ c = some k → cont h' d c = cont h d c := by
   intro d
   induction d with
   | zero => intro c k _; rfl
   | succ d ih =>
     intro c k hk
     unfold cont
     rw [hn c k hk]
     cases he : h c with
     | none => rfl
     | some e =>
       cases e with
       | mix => rfl
       | row => rfl
       | ali c2 i j s =>
         obtain ⟨_, bkc, h2, _⟩ := H.ali c c2 i j s k he hk
         simp only
         rw [hn c2 _ h2, ih c2 _ h2]
 refine ⟨fun id sz es bk he hb => H.mix id sz es bk (by rw [← hn id bk hb]; exact he) hb, fun id sz es bk he hb => H.row id sz es bk (by rw [← hn id bk hb]; exact he) hb, fun id c i k sz bk he hb => ?_⟩
 obtain ⟨h1, bkc, h2, h3⟩ := H.ali id c i k sz bk (by rw [← hn id bk hb]; exact he) hb
 exact ⟨h1, bkc, h2, fun d szc esc hcc hmc hi hk => h3 d szc esc (by rw [← hc d c _ h2]; exact hcc) (by rw [← hn c _ h2]; exact hmc) hi hk⟩
theorem mid_start (T : Tr P mt ops S E) {a : Act} {w : World} (h : Rel C R N a w (S 0)) {L : Nat → Bool} (hL : ∀ k, L k = false) : Mid mt C R N ops S E w L a w := by
 obtain ⟨h1, h2, h3, o, ρ, W, H, hx, hρ, hpin⟩ := h
 have e1 : ∀ m t, envU ops S E L m t = (S 0).get t := by
   intro m t
   induction m with
   | zero => rfl
   | succ m ih => simp only [envU]; rw [if_neg (by simp [hL])]; exact ih
 have e2 : ∀ m, hU mt ops S E L m = HS S E ops.size 0 := by
   intro m
   induction m with
   | zero => rfl
   | succ m ih => simp only [hU]; rw [if_neg (by simp [hL])]; exact ih
 refine ⟨h1, h2, ⟨o, ρ, W, ?_, fun t => by rw [e1]; exact hx t, fun id k hk => .inl (hρ id k hk), hpin⟩, fun _ _ => rfl⟩
 rw [e2]
 refine H.grow (fun id k hk => ?_)
 have hlt := hρ id k hk
 have hno : look id (later E 0 (ops.size - 0)) = none := by
   cases hl : look id (later E 0 (ops.size - 0)) with
   | none => rfl
   | some x =>
     have := look_ge (fun p hp => (later_ge T (ops.size - 0) 0 (by omega) p hp).1) hl
     omega
 simp only [HS, hno, St.hp]
 cases look id (S 0).h <;> rfl
theorem mid_end (T : Tr P mt ops S E) {a : Act} {w0 w : World} {L : Nat → Bool} (h : Mid mt C R N ops S E w0 L a w) (hL : ∀ k, k < ops.size → L k = true) : Rel C R N a w (S ops.size) := by
 obtain ⟨o, ρ, W, H, hx, hρ, hpin⟩ := h.ex
 refine ⟨h.size, h.defers, T.all _ (Nat.le_refl _), o, ρ, W, ?_, fun t => ?_, fun id k hk => ?_, hpin.1, Nat.le_trans hpin.2 (T.nle (Nat.zero_le _) (Nat.le_refl _))⟩
 · have e1 : hU mt ops S E L ops.size = (S ops.size).hp := by
     rw [hU_at T L ops.size (Nat.le_refl _) fun k hk _ => hL k hk]
     funext id
     simp only [HS, Nat.sub_self, later, look, St.hp]
     cases look id (S ops.size).h <;> rfl
   rw [← e1]; exact H
 · rw [← envU_at T L t ops.size (Nat.le_refl _) fun k hk _ => hL k hk]; exact hx t
 rcases hρ id k hk with h1 | ⟨j, hj, _, h1, h2⟩
 · have := T.nle (Nat.zero_le ops.size) (Nat.le_refl _); omega
 have := T.nle (show j + 1 ≤ ops.size by omega) (Nat.le_refl _); omega
theorem okN_spec (h : okN N ops = true) : ∀ o ∈ ops.toList, ∀ d, o.dst = some d → d < N := by
 intro o ho d hd
 unfold okN at h
 simp only [List.all_eq_true] at h
 have := h o ho
 rw [hd] at this
 simpa using this
theorem Mid.congrL {L L' : Nat → Bool} {a : Act} {w0 w : World} (hL : ∀ k, L k = L' k) (h : Mid mt C R N ops S E w0 L a w) : Mid mt C R N ops S E w0 L' a w := by
 have : L = L' := funext hL
 rw [← this]; exact h
theorem region_text (T : Tr P mt ops S E) (hN : okN N ops = true) {id : Nat} {Q : Exit → Act → World → Prop} {a : Act} {w : World} (h : Rel C R N a w (S 0)) (hQ : ∀ a' w', Rel C R N a' w' (S ops.size) → Q .normal a' w') :
   (Code.region id ops false).wp P Q a w := by
 refine wp_region ?_
 have key : ∀ (m k : Nat) (a : Act) (w' : World), k + m = ops.size → Mid mt C R N ops S E w (fun j => decide (j < k)) a w' → wpOps P ops Q (List.range' k m) a w' := by
   intro m
   induction m with
   | zero =>
     intro k a w' hk M
     have : k = ops.size := by omega
     subst this
     exact hQ _ _ (mid_end T M fun j hj => by simpa using hj)
   | succ m ih =>
     intro k a w' hk M
     rw [List.range'_succ, wpOps_cons]
     have hks : k < ops.size := by omega
     refine mid_step T (okN_spec hN) (Array.getElem?_eq_getElem hks) (by simp) (fun j o hj _ _ => by simpa using hj) (fun j o hj _ hLj => by simp at hLj; omega) M fun a' w'' M' => ?_
     refine ih (k + 1) a' w'' (by omega) (M'.congrL fun j => ?_)
     simp only [upL]
     by_cases hjk : j = k
     · subst hjk; simp
     rw [if_neg hjk]
     by_cases h' : j < k
     · simp [h', show j < k + 1 by omega]
     simp [h', show ¬ j < k + 1 by omega]
 have := key ops.size 0 a w (by omega) (mid_start T h (L := fun j => decide (j < 0)) (by simp))
 rwa [← List.range_eq_range'] at this
def left (L : Nat → Bool) : Nat → Nat
 | 0 => 0
 | m + 1 => left L m + (if L m = true then 0 else 1)
theorem left_zero {L : Nat → Bool} : ∀ m, left L m = 0 → ∀ k, k < m → L k = true := by
 intro m
 induction m with
 | zero => intro _ k hk; omega
 | succ m ih =>
   intro h k hk
   simp only [left] at h
   by_cases hm : L m = true
   · rw [if_pos hm] at h
     by_cases hkm : k = m
     · subst hkm; exact hm
     exact ih (by omega) k (by omega)
   rw [if_neg hm] at h; omega
theorem left_up {L : Nat → Bool} {i : Nat} (hL : L i = false) : ∀ m, left (upL L i) m + (if i < m then 1 else 0) = left L m := by
 intro m
 induction m with
 | zero => simp [left]
 | succ m ih =>
   simp only [left]
   by_cases hm : m = i
   · subst hm
     have h1 : upL L m m = true := by simp [upL]
     have h2 : m < m + 1 := by omega
     simp only [Nat.lt_irrefl, if_false, Nat.add_zero] at ih
     simp [h1, hL, h2, ih]
   have h1 : upL L i m = L m := by simp [upL, hm]
   rw [h1]
   by_cases h2 : i < m
   · have h3 : i < m + 1 := by omega
     simp only [h2, if_true] at ih
     simp only [h3, if_true]
     omega
   have h3 : ¬ i < m + 1 := by omega
   simp only [h2, if_false] at ih
   simp only [h3, if_false]
   omega
theorem region_any (T : Tr P mt ops S E) (hN : okN N ops = true) (hreg : okReg mt ops = true) (hback : okBack ops = true) (hm : P.follows .mixedOrders = true) {id : Nat} {Q : Exit → Act → World → Prop} {a : Act} {w : World} (h : Rel C R N a w (S 0))
   (hQ : ∀ a' w', Rel C R N a' w' (S ops.size) → Q .normal a' w') : (Code.region id ops true).wp P Q a w := by
 refine wp_region_any hm ?_
 have key : ∀ (fuel : Nat) (listed : Array Bool) (a : Act) (w' : World), listed.size = ops.size → left (fun k => listed.getD k false) ops.size ≤ fuel →
     (∀ j, listed.getD j false = true → ∀ i, ((masks ops.toList []).getD j 0).testBit i = true → listed.getD i false = true) → Mid mt C R N ops S E w.drew (fun k => listed.getD k false) a w' → wpAny P .any ops Q fuel listed a w' := by
   intro fuel
   induction fuel with
   | zero =>
     intro listed a w' hsz hleft hanc M
     have hall := left_zero _ (show left (fun k => listed.getD k false) ops.size = 0 by omega)
     refine ⟨?_, hQ _ _ (mid_end T M hall)⟩
     cases hr : Region.ready .any ops listed with
     | nil => rfl
     | cons x xs =>
       have hx : x ∈ Region.ready .any ops listed := by rw [hr]; simp
       obtain ⟨hf, o, ho, _⟩ := mem_ready.1 hx
       have hxs := (Array.getElem?_eq_some_iff.1 ho).1
       have h1 : listed.getD x false = true := hall x hxs
       have : listed.getD x true = listed.getD x false := by simp [show x < listed.size by omega]
       rw [this, h1] at hf; cases hf
   | succ fuel ih =>
     intro listed a w' hsz hleft hanc M
     refine ⟨fun hr => ?_, fun i hi => ?_⟩
     ·
       have hall : ∀ k, k < ops.size → listed.getD k false = true := by
         intro k
         induction k using Nat.strongRecOn with
         | _ k ihk =>
           intro hk
           cases hl : listed.getD k false with
           | true => rfl
           | false =>
             have : k ∈ Region.ready .any ops listed := by
               refine mem_ready.2 ⟨?_, ops[k], Array.getElem?_eq_getElem hk, fun e he hb => ?_⟩
               · have : listed.getD k true = listed.getD k false := by simp [show k < listed.size by omega]
                 rw [this, hl]
               have h1 := hback
               unfold okBack at h1
               simp only [List.all_eq_true] at h1
               have h2 := h1 (ops[k], k) (List.mk_mem_zipIdx_iff_getElem?.2 (by simp [hk])) e (by simpa using he)
               rw [hb] at h2
               have hlt : e.on < k := by simpa using h2
               exact ihk e.on hlt (by omega)
             rw [hr] at this; cases this
       exact hQ _ _ (mid_end T M hall)
     obtain ⟨hf, oi, hoi, hafter⟩ := mem_ready.1 hi
     have hin := (Array.getElem?_eq_some_iff.1 hoi).1
     have hLi : listed.getD i false = false := by
       have : listed.getD i true = listed.getD i false := by simp [show i < listed.size by omega]
       rw [← this]; exact hf
     have hanci : ∀ k, ((masks ops.toList []).getD i 0).testBit k = true → listed.getD k false = true := by
       intro k hk
       obtain ⟨o', ho', e, he, hb, hx⟩ := masks_bit ops.toList [] i k (by simp) hk
       have hoo : o' = oi := by
         simp only [List.length_nil, Nat.sub_zero] at ho'
         rw [Array.getElem?_toList, hoi] at ho'
         simpa using ho'.symm
       subst hoo
       have h1 := hafter e (by simpa using he) hb
       rcases hx with hx | ⟨_, hx⟩
       · rw [← hx]; exact h1
       exact hanc _ h1 _ hx
     refine mid_step T (okN_spec hN) hoi hLi (fun k o hk ho hc => hanci k (okReg_spec hreg hk ho hoi hc)) (fun k o hk ho hLk => ?_) M fun a' w'' M' => ?_
     · cases hcl : clash mt ops oi o with
       | false => rfl
       | true =>
         have := hanc k hLk i (okReg_spec hreg hk hoi ho hcl)
         rw [hLi] at this; cases this
     have hset : ∀ k, (listed.setIfInBounds i true).getD k false = upL (fun k => listed.getD k false) i k := by
       intro k
       simp only [upL]
       by_cases hk : k = i
       · subst hk; simp [show k < listed.size by omega]
       rw [if_neg hk, getD_set_ne false (Ne.symm hk)]
     refine ih _ a' w'' (by simpa using hsz) ?_ ?_ (M'.congrL fun k => (hset k).symm)
     · have h1 := left_up (L := fun k => listed.getD k false) hLi ops.size
       rw [if_pos hin] at h1
       have h2 : left (fun k => (listed.setIfInBounds i true).getD k false) ops.size = left (upL (fun k => listed.getD k false) i) ops.size := by
         congr 1; funext k; exact hset k
       omega
     intro j hj k hk
     rw [hset] at hj ⊢
     simp only [upL] at hj ⊢
     by_cases hki : k = i
     · rw [if_pos hki]
     rw [if_neg hki]
     by_cases hji : j = i
     · subst hji; exact hanci k hk
     rw [if_neg hji] at hj; exact hanc j hj k hk
 refine key ops.size _ a _ (by simp) ?_ ?_ ?_
 · have : ∀ m, left (fun k => (Array.replicate ops.size false).getD k false) m ≤ m := by
     intro m
     induction m with
     | zero => simp [left]
     | succ m ih => simp only [left]; split <;> omega
   exact this _
 · intro j hj
   exfalso
   by_cases hjs : j < ops.size
   · simp [hjs] at hj
   simp [hjs] at hj
 refine mid_start T h.drew fun k => ?_
 by_cases hk : k < ops.size
 · simp [hk]
 simp [hk]
end
end Go.Vc

namespace Go.Vc
open Go
structure Fx where
 C : Ctx
 R : Nat → Prop
 N : Nat
 pins : Nat := 0
 hpin : C.n0 = pins
def conc (F : Fx) (AQ : Exit → St → Prop) : Exit → Act → World → Prop := fun e a w => ∃ st, Rel F.C F.R F.N a w st ∧ AQ e st
def Wp (P : Program) (F : Fx) (c : Code) (AQ : Exit → St → Prop) (st : St) : Prop := ∀ a w, Rel F.C F.R F.N a w st → c.wp P (conc F AQ) a w
def thenA (K : St → Prop) (AQ : Exit → St → Prop) : Exit → St → Prop
 | .normal, st => K st
 | e, st => AQ e st
def blockA (id : Nat) (AQ : Exit → St → Prop) : Exit → St → Prop
 | .exit i, st => if i = id then AQ .normal st else AQ (.exit i) st
 | e, st => AQ e st
def goOps (P : Program) (mt : Bool) (all : Array Oper) : List Oper → St → (St → Prop) → Prop
 | [], st, K => K st
 | o :: os, st, K => (wantA all o st = some true ∧ ∃ e, AOp P mt o.op st.ev st.hp st.n e ∧ goOps P mt all os (st.app o.dst e) K) ∨ (wantA all o st = some false ∧ goOps P mt all os (st.app o.dst { v := .bot }) K)
theorem goOps_trace {P : Program} {mt : Bool} (all : Array Oper) : ∀ (os : List Oper) (st : St) (K : St → Prop), goOps P mt all os st K → ∃ (S : Nat → St) (E : Nat → Option Eff), S 0 = st ∧ K (S os.length) ∧
   ∀ k o, os[k]? = some o → match E k with
     | some e => wantA all o (S k) = some true ∧ AOp P mt o.op (S k).ev (S k).hp (S k).n e ∧ S (k + 1) = (S k).app o.dst e
     | none => wantA all o (S k) = some false ∧ S (k + 1) = (S k).app o.dst { v := .bot } := by
 intro os
 induction os with
 | nil => intro st K h; exact ⟨fun _ => st, fun _ => none, rfl, h, fun k o ho => by simp at ho⟩
 | cons o os ih =>
   intro st K h
   rcases h with ⟨hw, e, hop, h⟩ | ⟨hw, h⟩
   · obtain ⟨S, E, h1, h2, h3⟩ := ih _ K h
     refine ⟨fun k => match k with | 0 => st | k + 1 => S k, fun k => match k with | 0 => some e | k + 1 => E k, rfl, h2, fun k o' ho => ?_⟩
     cases k with
     | zero => simp at ho; subst ho; exact ⟨hw, hop, h1⟩
     | succ k => exact h3 k o' (by simpa using ho)
   obtain ⟨S, E, h1, h2, h3⟩ := ih _ K h
   refine ⟨fun k => match k with | 0 => st | k + 1 => S k, fun k => match k with | 0 => none | k + 1 => E k, rfl, h2, fun k o' ho => ?_⟩
   cases k with
   | zero => simp at ho; subst ho; exact ⟨hw, h1⟩
   | succ k => exact h3 k o' (by simpa using ho)
section
variable {P : Program} {mt : Bool} {F : Fx} {AQ : Exit → St → Prop} {st : St}
theorem w_seq {x y : Code} (h : Wp P F x (thenA (Wp P F y AQ) AQ) st) : Wp P F (.seq x y) AQ st := by
 intro a w hr
 refine wp_seq (wp_mono (h a w hr) fun e a w he => ?_)
 obtain ⟨st', h1, h2⟩ := he
 cases e with
 | normal => exact h2 a w h1
 | _ => exact ⟨st', h1, h2⟩
theorem w_skip (h : AQ .normal st) : Wp P F .skip AQ st := fun a w hr => wp_skip ⟨st, hr, h⟩
theorem w_ret (h : AQ .ret st) : Wp P F .ret AQ st := fun a w hr => wp_ret ⟨st, hr, h⟩
theorem w_exit {id : Nat} (h : AQ (.exit id) st) : Wp P F (.exit id) AQ st := fun a w hr => wp_exit ⟨st, hr, h⟩
theorem w_block {id : Nat} {c : Code} (h : Wp P F c (blockA id AQ) st) : Wp P F (.block id c) AQ st := by
 intro a w hr
 refine wp_block (wp_mono (h a w hr) fun e a w he => ?_)
 obtain ⟨st', h1, h2⟩ := he
 cases e with
 | exit i =>
   simp only [blockA] at h2
   simp only [Exit.inBlock]
   split
   · rename_i hi; rw [if_pos hi] at h2; exact ⟨st', h1, h2⟩
   rename_i hi; rw [if_neg hi] at h2; exact ⟨st', h1, h2⟩
 | _ => exact ⟨st', h1, h2⟩
theorem ev_rel {a : Act} {w : World} (hr : Rel F.C F.R F.N a w st) (x : Operand) {v : Value} (hx : st.ev x = .val v) : a.eval x = v := by
 obtain ⟨_, _, _, o, ρ, _, _, hs, _⟩ := hr
 cases x with
 | tmp t => have := hs t; rw [show st.get t = .val v from hx] at this; exact this.val_eq.1
 | const u =>
   simp only [St.ev, cst] at hx
   split at hx
   · simp only [AV.val.injEq] at hx; exact hx
   cases hx
 | global => cases hx
 | func => cases hx
theorem w_cond {c : Operand} {x y : Code} {b : Bool} (hc : st.ev c = .val (.bool b)) (h1 : b = true → Wp P F x AQ st) (h2 : b = false → Wp P F y AQ st) : Wp P F (.cond c x y) AQ st := by
 intro a w hr
 exact wp_cond_split (ev_rel hr c hc) (fun hb => h1 hb a w hr) (fun hb => h2 hb a w hr)
theorem w_region {id : Nat} {ops : Array Oper} {d : Bool} (hm : P.follows .mixedOrders = true) (hok : (okN F.N ops && (!d || (okReg mt ops && okBack ops))) = true)
   (h : ∀ K : St → Prop, (∀ st', AQ .normal st' → K st') → goOps P mt ops ops.toList st K) : Wp P F (.region id ops d) AQ st := by
 intro a w hr
 obtain ⟨S, E, h0, hend, htr⟩ := goOps_trace ops _ _ _ (h (AQ .normal) fun _ h => h)
 subst h0
 have T : Tr P mt ops S E := ⟨hr.ok, fun k o ho => htr k o (by simpa using ho)⟩
 simp only [Bool.and_eq_true, Bool.or_eq_true, Bool.not_eq_true'] at hok
 have hend' : AQ .normal (S ops.size) := by simpa using hend
 cases d with
 | false => exact region_text T hok.1 hr fun a' w' h' => ⟨_, h', hend'⟩
 | true =>
   have := hok.2.resolve_left (by simp)
   exact region_any T hok.1 this.1 this.2 hm hr fun a' w' h' => ⟨_, h', hend'⟩
def Wk (F : Fx) (st st' : St) : Prop := ∀ a w, Rel F.C F.R F.N a w st → Rel F.C F.R F.N a w st'
theorem w_weak {c : Code} {st' : St} (hk : Wk F st st') (h : Wp P F c AQ st') : Wp P F c AQ st := fun a w hr => h a w (hk a w hr)
def roundA {α : Type} (F : Fx) (S : α → St) (I : α → Prop) (m : α → Nat) (x : α) (AQ : Exit → St → Prop) : Exit → St → Prop
 | .normal, st => ∃ y, I y ∧ m y < m x ∧ Wk F st (S y)
 | e, st => AQ e st
theorem w_loop {α : Type} (S : α → St) (I : α → Prop) (m : α → Nat) (x0 : α) {c : Code} (h0 : I x0) (hk : Wk F st (S x0)) (round : ∀ x, I x → Wp P F c (roundA F S I m x AQ) (S x)) : Wp P F (.loop c) AQ st := by
 intro a w hr b k cs
 have key : ∀ (n : Nat) (x : α) (a : Act) (w : World), m x = n → I x → Rel F.C F.R F.N a w (S x) →
     ∃ e a' w', conc F AQ e a' w' ∧ Arrives P (lone (b.at a (.code c :: .inLoop c :: k)) cs w) b k cs e a' w' := by
   intro n
   induction n using Nat.strongRecOn with
   | _ n ih =>
     intro x a w hn hI hrel
     obtain ⟨e, a₁, w₁, ⟨st₁, hr₁, hq⟩, harr⟩ := round x hI a w hrel b (.inLoop c :: k) cs
     cases e with
     | normal =>
       obtain ⟨y, hIy, hlt, hwk⟩ := hq
       obtain ⟨e₂, a₂, w₂, hq₂, harr₂⟩ := ih (m y) (hn ▸ hlt) y a₁ w₁ rfl hIy (hwk _ _ hr₁)
       exact ⟨e₂, a₂, w₂, hq₂, .of_steps (Steps.trans harr (.one step_inLoop)) harr₂⟩
     | exit id => exact ⟨_, a₁, w₁, ⟨st₁, hr₁, hq⟩, .pass (x := .inLoop c) rfl (fun _ _ => .inl (by simp)) harr⟩
     | goto l => exact ⟨_, a₁, w₁, ⟨st₁, hr₁, hq⟩, .pass (x := .inLoop c) rfl (fun _ _ => .inl (by simp)) harr⟩
     | ret => exact ⟨_, a₁, w₁, ⟨st₁, hr₁, hq⟩, .pass (x := .inLoop c) rfl (fun _ _ => .inl (by simp)) harr⟩
     | panic ch => exact ⟨_, a₁, w₁, ⟨st₁, hr₁, hq⟩, .pass (x := .inLoop c) rfl (fun _ _ => .inl (by simp)) harr⟩
     | outgrown => exact ⟨_, a₁, w₁, ⟨st₁, hr₁, hq⟩, .pass (x := .inLoop c) rfl (fun _ _ => .inl (by simp)) harr⟩
 obtain ⟨e, a', w', hq, harr⟩ := key _ x0 a w rfl h0 (hk a w hr)
 exact ⟨e, a', w', hq, .of_steps (.one step_loop) harr⟩
theorem Wk.cut {st st' : St} (hs : ∀ p ∈ st'.s, st.get p.1 = p.2 ∨ p.2 = .bot) (hh : st'.h = st.h) (hn : st'.n = st.n) : Wk F st st' := by
 intro a w hr
 obtain ⟨h1, h2, h3, o, ρ, W, H, hx, hρ⟩ := hr
 have hp : st'.hp = st.hp := by funext id; simp only [St.hp, hh]
 refine ⟨h1, h2, fun id x hx => by rw [hh] at hx; rw [hn]; exact h3 id x hx, o, ρ, W, by rw [hp]; exact H, fun t => ?_, by rw [hn]; exact hρ.1, hρ.2.1, by rw [hn]; exact hρ.2.2⟩
 cases hl : look t st'.s with
 | none => simp only [St.get, hl, Option.getD_none]; exact .bot
 | some v =>
   simp only [St.get, hl, Option.getD_some]
   have : ∃ p ∈ st'.s, p = (t, v) := by
     have go : ∀ (s : List (Nat × AV)), look t s = some v → (t, v) ∈ s := by
       intro s
       induction s with
       | nil => intro h; cases h
       | cons p r ih =>
         obtain ⟨i, x⟩ := p
         intro h
         simp only [look] at h
         split at h
         · rename_i hi; subst hi; cases h; simp
         exact List.mem_cons_of_mem _ (ih h)
     exact ⟨_, go _ hl, rfl⟩
   obtain ⟨p, hp, rfl⟩ := this
   rcases hs _ hp with h | h
   · have := hx t; rw [h] at this; exact this
   simp only at h; rw [h]; exact .bot
end
end Go.Vc

namespace Go.Vc
open Go
mutual
def rl (m : List (Nat × Nat)) : AV → AV
 | .own id off n => match look id m with | some j => .own j off n | none => .bot
 | .adr id i k => match look id m with | some j => .adr j i k | none => .bot
 | .agg cs => .agg (rlL m cs)
 | .tup vs => .tup (rlL m vs)
 | .fn f cs => .fn f (rlL m cs)
 | .val v => .val v
 | .lst u sz es => .lst u sz es
 | .rptr cs => .rptr cs
 | .bot => .bot
def rlL (m : List (Nat × Nat)) : List AV → List AV
 | [] => []
 | a :: r => rl m a :: rlL m r
end
def rlLL (m : List (Nat × Nat)) : List (List AV) → List (List AV)
 | [] => []
 | a :: r => rlL m a :: rlLL m r
def rlE (m : List (Nat × Nat)) : Ent → Option Ent
 | .mix sz es => some (.mix sz (rlLL m es))
 | .row sz es => some (.row sz es)
 | .ali c i k sz => match look c m with | some d => some (.ali d i k sz) | none => none
theorem rlL_length (m : List (Nat × Nat)) : ∀ as, (rlL m as).length = as.length := by
 intro as
 induction as with
 | nil => rfl
 | cons a r ih => simp [rlL, ih]
theorem rlL_getD (m : List (Nat × Nat)) : ∀ (as : List AV) (k : Nat), (rlL m as).getD k .bot = rl m (as.getD k .bot) := by
 intro as
 induction as with
 | nil => intro k; simp [rlL, rl]
 | cons a r ih =>
   intro k
   cases k with
   | zero => simp [rlL]
   | succ k => simpa [rlL] using ih k
theorem rlLL_length (m : List (Nat × Nat)) : ∀ es, (rlLL m es).length = es.length := by
 intro es
 induction es with
 | nil => rfl
 | cons a r ih => simp [rlLL, ih]
theorem rlLL_getD (m : List (Nat × Nat)) : ∀ (es : List (List AV)) (k : Nat), (rlLL m es).getD k [] = rlL m (es.getD k []) := by
 intro es
 induction es with
 | nil => intro k; simp [rlLL, rlL]
 | cons a r ih =>
   intro k
   cases k with
   | zero => simp [rlLL]
   | succ k => simpa [rlLL] using ih k
theorem look_of_mem {α : Type} {l : List (Nat × α)} {k : Nat} {v : α} (h : look k l = some v) : (k, v) ∈ l := by
 induction l with
 | nil => cases h
 | cons p r ih =>
   obtain ⟨i, x⟩ := p
   simp only [look] at h
   split at h
   · rename_i hi; subst hi; cases h; simp
   exact List.mem_cons_of_mem _ (ih h)
def back (m : List (Nat × Nat)) : List (Nat × Nat) := m.map fun p => (p.2, p.1)
theorem back_look {m : List (Nat × Nat)} (h2 : (m.map Prod.snd).Nodup) {i j : Nat} (h : look i m = some j) : look j (back m) = some i := by
 have : ((back m).map Prod.fst).Nodup := by simpa [back, List.map_map, Function.comp_def] using h2
 exact look_mem this (p := (j, i)) (List.mem_map.2 ⟨(i, j), look_of_mem h, rfl⟩)
def rlρ (m : List (Nat × Nat)) (ρ : Nat → Option Bk) : Nat → Option Bk := fun j => match look j (back m) with | some i => ρ i | none => none
def rlo (m : List (Nat × Nat)) (o : Nat → Option (List Nat)) : Nat → Option (List Nat) := fun b => match o b with
 | some (x :: M) => match look x m with | some j => some (j :: M) | none => none
 | _ => none
theorem rl_rrel {w : World} {R : Nat → Prop} {m : List (Nat × Nat)} {v : Value} {a : AV} (h : RRel w R v a) : RRel w R v (rl m a) := by
 induction h with
 | val h => simp only [rl]; exact .val h
 | nil h => simp only [rl]; exact .nil h
 | lst us a1 a2 a3 a4 a5 a6 a7 a8 => simp only [rl]; exact .lst us a1 a2 a3 a4 a5 a6 a7 a8
 | rptr us a1 a2 a3 a4 a5 => simp only [rl]; exact .rptr us a1 a2 a3 a4 a5
 | fn a1 _ ih =>
   simp only [rl]
   refine .fn (by rw [rlL_length]; exact a1) fun k hk => ?_
   rw [rlL_length] at hk
   rw [rlL_getD]
   exact ih k hk
theorem rl_rel {w : World} {R : Nat → Prop} {ρ : Nat → Option Bk} {m : List (Nat × Nat)} (h2 : (m.map Prod.snd).Nodup) {v : Value} {a : AV} (h : XRel w R ρ v a) : XRel w R (rlρ m ρ) v (rl m a) := by
 have hρ : ∀ i j, look i m = some j → rlρ m ρ j = ρ i := fun i j hij => by simp only [rlρ, back_look h2 hij]
 induction h with
 | r h => exact .r (rl_rrel h)
 | @own0 id sz cap h =>
   simp only [rl]
   cases hl : look id m with
   | none => exact .bot
   | some j => exact .own0 (by rw [hρ _ _ hl]; exact h)
 | @own id b sz cap off n c x h a1 a2 a3 a4 a5 =>
   simp only [rl]
   cases hl : look id m with
   | none => exact .bot
   | some j => exact .own (by rw [hρ _ _ hl]; exact h) a1 a2 a3 a4 a5
 | @adr id b sz cap i k h =>
   simp only [rl]
   cases hl : look id m with
   | none => exact .bot
   | some j => exact .adr (by rw [hρ _ _ hl]; exact h)
 | agg a1 a2 _ ih =>
   simp only [rl]
   exact .agg (by rw [rlL_length]; exact a1) (fun k hk => by rw [rlL_length] at hk; exact a2 k hk) fun k hk => by
     rw [rlL_length] at hk
     rw [rlL_getD]; exact ih k hk
 | tup a1 _ ih =>
   simp only [rl]
   exact .tup (by rw [rlL_length]; exact a1) fun k hk => by
     rw [rlL_length] at hk
     rw [rlL_getD]; exact ih k hk
 | fn a1 _ ih =>
   simp only [rl]
   exact .fn (by rw [rlL_length]; exact a1) fun k hk => by
     rw [rlL_length] at hk
     rw [rlL_getD]; exact ih k hk
 | bot => simp only [rl]; exact .bot
theorem back_of {m : List (Nat × Nat)} (h1 : (m.map Prod.fst).Nodup) {i j : Nat} (h : look j (back m) = some i) : look i m = some j := by
 have hm := look_of_mem h
 obtain ⟨p, hp, he⟩ := List.mem_map.1 hm
 simp only [Prod.mk.injEq] at he
 obtain ⟨rfl, rfl⟩ := he
 exact look_mem h1 hp
theorem look_inj {m : List (Nat × Nat)} (h2 : (m.map Prod.snd).Nodup) {i i' j : Nat} (h : look i m = some j) (h' : look i' m = some j) : i = i' := by
 have a := back_look h2 h
 have b := back_look h2 h'
 rw [a] at b; simpa using b
theorem Wk.relabel {F : Fx} {st st' : St} (m : List (Nat × Nat)) (h1 : (m.map Prod.fst).Nodup) (h2 : (m.map Prod.snd).Nodup) (hpin : ∀ id, id < F.pins → look id m = some id) (hn : ∀ p ∈ m, p.2 < st'.n)
   (hok : ∀ p ∈ st'.h, p.1 < st'.n) (hs : ∀ p ∈ st'.s, p.2 = rl m (st.get p.1) ∨ p.2 = .bot) (hh : ∀ p ∈ st'.h, ∃ i e, look i m = some p.1 ∧ look i st.h = some e ∧ rlE m e = some p.2) : Wk F st st' := by
 intro a w hr
 obtain ⟨r1, r2, r3, o, ρ, W, H, hx, hρ, hp⟩ := hr
 have hent : ∀ id' e', st'.hp id' = some e' → ∃ i e, look i m = some id' ∧ st.hp i = some e ∧ rlE m e = some e' := fun id' e' h => hh (id', e') (look_of_mem h)
 have hρ' : ∀ j bk, rlρ m ρ j = some bk → ∃ i, look i m = some j ∧ ρ i = some bk := by
   intro j bk h
   simp only [rlρ] at h
   split at h
   · rename_i i hi; exact ⟨i, back_of h1 hi, h⟩
   cases h
 have hρ1 : ∀ i j, look i m = some j → rlρ m ρ j = ρ i := fun i j hij => by simp only [rlρ, back_look h2 hij]
 have ho1 : ∀ b i j M, look i m = some j → o b = some (i :: M) → rlo m o b = some (j :: M) := by
   intro b i j M hij hb
   simp only [rlo, hb, hij]
 have ho2 : ∀ b L, rlo m o b = some L → ∃ L', o b = some L' := by
   intro b L hb
   simp only [rlo] at hb
   split at hb
   · rename_i h; exact ⟨_, h⟩
   cases hb
 have hcont : ∀ (d c c' : Nat) (x : Nat × List (List AV)), look c m = some c' → isMixE (st'.hp c') = false → cont st'.hp d c' = some x → cont st.hp d c = some x ∧ isMixE (st.hp c) = false := by
   intro d
   induction d with
   | zero => intro c c' x _ _ hx; cases hx
   | succ d ih =>
     intro c c' x hc hm hx
     unfold cont at hx ⊢
     cases he' : st'.hp c' with
     | none => simp [he'] at hx
     | some e' =>
       obtain ⟨i, e, g1, g2, g3⟩ := hent c' e' he'
       have := look_inj h2 g1 hc
       subst this
       rw [g2]
       rw [he'] at hx hm
       cases e with
       | mix sz es => simp only [rlE, Option.some.injEq] at g3; subst g3; cases hm
       | row sz es => simp only [rlE, Option.some.injEq] at g3; subst g3; exact ⟨hx, rfl⟩
       | ali c2 i2 k2 s2 =>
         simp only [rlE] at g3
         split at g3
         · rename_i d2 hd2
           simp only [Option.some.injEq] at g3
           subst g3
           simp only at hx ⊢
           split at hx
           · cases hx
           rename_i hm2
           cases hc2 : cont st'.hp d d2 with
           | none => simp [hc2] at hx
           | some p =>
             obtain ⟨q1, q2⟩ := ih c2 d2 p hd2 (by simpa using hm2) hc2
             rw [hc2] at hx
             rw [q2, q1]
             exact ⟨hx, rfl⟩
         cases g3
 refine ⟨r1, r2, fun id x hx => hok (id, x) (look_of_mem hx), rlo m o, rlρ m ρ, ⟨fun b hb => ⟨(W.R b hb).1, ?_⟩, fun b L hb => ?_, W.os, W.tape, W.output, W.size, W.keep⟩, ⟨fun id sz es bk he hb => ?_, fun id sz es bk he hb => ?_, fun id c i k sz bk he hb => ?_⟩, fun t => ?_, fun id k hk => ?_, fun id hid => ?_, ?_⟩
 · have := (W.R b hb).2
   show rlo m o b = none
   have h3 : o b = none := this
   simp only [rlo, h3]
 · obtain ⟨L', h3⟩ := ho2 b L hb
   exact W.o b L' h3
 · obtain ⟨i, e, g1, g2, g3⟩ := hent id _ he
   cases e with
   | mix s2 e2 =>
     simp only [rlE, Option.some.injEq, Ent.mix.injEq] at g3
     obtain ⟨rfl, rfl⟩ := g3
     have hb' : ρ i = some bk := by rw [← hρ1 i id g1]; exact hb
     obtain ⟨b, cur, el, us, q1, q2, q3, q4, q5, q6, q7, q8, q9⟩ := (H.mix i _ _ bk g2 hb').ex
     refine ⟨b, cur, el, us, by rw [rlLL_length]; exact q1, ho1 b i id [] g1 q2, q3, by rw [rlLL_length]; exact q4, by rw [rlLL_length]; exact q5, fun j hj => ?_, fun j l hj hl => ?_, fun j l hj hl => ?_, fun j l hj hl => ?_⟩
     · rw [rlLL_length] at hj; rw [rlLL_getD, rlL_length]; exact q6 j hj
     · rw [rlLL_length] at hj; exact q7 j l hj hl
     · rw [rlLL_length] at hj; exact q8 j l hj hl
     rw [rlLL_length] at hj; rw [rlLL_getD, rlL_getD]; exact rl_rel h2 (q9 j l hj hl)
   | row => simp [rlE] at g3
   | ali c2 i2 k2 s2 => simp only [rlE] at g3; split at g3 <;> simp at g3
 · obtain ⟨i, e, g1, g2, g3⟩ := hent id _ he
   cases e with
   | mix => simp [rlE] at g3
   | row s2 e2 =>
     simp only [rlE, Option.some.injEq, Ent.row.injEq] at g3
     obtain ⟨rfl, rfl⟩ := g3
     have hb' : ρ i = some bk := by rw [← hρ1 i id g1]; exact hb
     obtain ⟨v, hv, hh2⟩ := H.row i _ _ bk g2 hb'
     exact ⟨v, hv.mono (R' := F.R) [id] fun b M hbo => ⟨ho1 b i id M g1 hbo, rfl⟩, hh2⟩
   | ali c2 i2 k2 s2 => simp only [rlE] at g3; split at g3 <;> simp at g3
 · obtain ⟨i0, e, g1, g2, g3⟩ := hent id _ he
   cases e with
   | mix => simp [rlE] at g3
   | row => simp [rlE] at g3
   | ali c2 i2 k2 s2 =>
     simp only [rlE] at g3
     split at g3
     · rename_i d2 hd2
       simp only [Option.some.injEq, Ent.ali.injEq] at g3
       obtain ⟨rfl, rfl, rfl, rfl⟩ := g3
       have hb' : ρ i0 = some bk := by rw [← hρ1 i0 id g1]; exact hb
       obtain ⟨q1, bkc, q2, q3⟩ := H.ali i0 _ _ _ _ bk g2 hb'
       refine ⟨q1, bkc, by show rlρ m ρ d2 = some bkc; rw [hρ1 c2 d2 hd2]; exact q2, fun d szc esc hc hm hi hk => ?_⟩
       obtain ⟨q4, q5⟩ := hcont d c2 d2 _ hd2 hm hc
       exact q3 d szc esc q4 q5 hi hk
     cases g3
 · cases hl : look t st'.s with
   | none => simp only [St.get, hl, Option.getD_none]; exact .bot
   | some v =>
     simp only [St.get, hl, Option.getD_some]
     rcases hs _ (look_of_mem hl) with h | h
     · simp only at h; rw [h]; exact rl_rel h2 (hx t)
     simp only at h; rw [h]; exact .bot
 · obtain ⟨i, hi, _⟩ := hρ' id k hk
   exact hn _ (look_of_mem hi)
 · have h3 := hp.1 id hid
   show rlρ m ρ id = F.C.ρ0 id
   rw [hρ1 id id (hpin id (by rw [← F.hpin]; exact hid))]; exact h3
 rcases Nat.eq_zero_or_pos F.C.n0 with h0 | h0
 · omega
 have := hn _ (look_of_mem (hpin (F.C.n0 - 1) (by rw [← F.hpin]; omega)))
 simp only at this
 omega
end Go.Vc
