/- A part of the proof: a verified generator of conditions, and what each function of the program does. -/
import Derived.Test.YtgdcogaeechepaaL2
import Derived.Tactics
import Derived.IntWalk
import Derived.ChangeArms
import Derived.WideShapes
import Derived.Deep.Slices
set_option maxRecDepth 100000
set_option linter.unusedSimpArgs false
set_option linter.unusedVariables false

/- A call by its contract. -/
namespace Go.Vc
open Go

/-- The arguments of a call, read by content. -/
def PurL (h : HP) (as bs : List AV) : Prop := as.length = bs.length ∧ ∀ k, k < as.length → PurTo h (as.getD k .bot) (bs.getD k .bot)

/-- A CALL THAT WORKS ON THE CALLER's BLOCKS: what it does to them. -/
structure ICon (P : Program) (f : Nat) (as : List AV) (h : HP) (n : Nat) (e : Eff) : Prop where
  enters : ∃ fn, P.funcs[f]? = some fn ∧ (fn.name == "runtime.NumGoroutine") = false ∧ fn.body.isSome = true
  fine : (∀ id x, h id = some x → id < n) → e.fine n
  calls : ∀ (C : Ctx) (w : World) (g : Gh) (h' : HP) (vals : Array Value), (∀ id, id < n → h' id = h id) → (∀ p ∈ e.new, h' p.1 = some p.2) → (∀ id k, g.ρ id = some k → id < n) → WF C w g → HRel w g h' → vals.size = as.length →
    (∀ k, k < as.length → XRel w g.R g.ρ (vals.getD k undef) (as.getD k .bot)) →
    Calls P f vals w fun ex w' => ∃ v o' ρ', ex = .returned v ∧ WF C w' ⟨g.R, o', ρ'⟩ ∧ HRel w' ⟨g.R, o', ρ'⟩ (happ e h') ∧ (∀ id k, g.ρ id = some k → ρ' id = some k) ∧
      (∀ id k, ρ' id = some k → g.ρ id = some k ∨ (n ≤ id ∧ id < n + e.cnt)) ∧ XRel w' g.R ρ' v e.v ∧ (∀ b, g.R b → w'.heap[b]? = w.heap[b]?)

theorem ICon.up {P : Program} {f : Nat} {as : List AV} {h h' : HP} {n : Nat} {e : Eff} (hlt : ∀ id, id < n → h' id = h id) (hs : ∀ id x, h id = some x → h' id = some x) (hc : ICon P f as h n e) : ICon P f as h' n e :=
  ⟨hc.enters, fun hh => hc.fine fun id x hx => hh id x (hs id x hx), fun C w g h2 vals h1 => hc.calls C w g h2 vals fun id hid => (h1 id hid).trans (hlt id hid)⟩

/-- An operation of any kind. -/
inductive AOp (P : Program) (mt : Bool) (op : Op) (ev : Operand → AV) (h : HP) (n : Nat) : Eff → Prop
  | blt {c e} : opF P op ev h n = some (c, e) → c → AOp P mt op ev h n e
  | call {cl x f caps bs res} : op = .call cl → cl.callee = .value x → ev x = .fn f caps → PurL h (cl.args.toList.map ev ++ caps) bs → Contract P f bs res → AOp P mt op ev h n (unk n res)
  | mcall {cl x f caps args ms res m Pt sets dels} : mt = true → op = .call cl → cl.callee = .value x → ev x = .fn f caps → MContract P f args ms res → MCall h n ms m Pt sets dels →
      (cl.args.toList.map ev ++ caps).length = args.length → (∀ k, k < args.length → MArg m ((cl.args.toList.map ev ++ caps).getD k .bot) (args.getD k .bot)) →
      (∀ j, j < ms.length → ∃ k, k < args.length ∧ Occ (m.getD j 0) ((cl.args.toList.map ev ++ caps).getD k .bot)) → AOp P mt op ev h n { v := res, set := sets, del := dels }
  | icall {cl x f caps e} : mt = true → op = .call cl → cl.callee = .value x → ev x = .fn f caps → ICon P f (cl.args.toList.map ev ++ caps) h n e → AOp P mt op ev h n e
  | sto {t x y ty id i k b sz es ds dels} : op = .store t x y → tyi P t = some ty → ty.sz = 1 → ev x = .adr id i k → Sto h n id i k (ev y) b sz es ds dels →
      AOp P mt op ev h n { v := .bot, set := [(id, .row sz (es.set i ((es.getD i []).set k b)))], del := ds ++ dels }

section
variable {P : Program} {mt : Bool} {C : Ctx} {a : Act} {w : World} {g : Gh} {h : HP} {n : Nat} {e : Eff} {ev : Operand → AV}

theorem step_call (hev : ∀ x, XRel w g.R g.ρ (a.eval x) (ev x)) (W : WF C w g) (H : HRel w g h) {o : Oper} {cl : Call} {x : Operand} {f : Nat} {caps bs : List AV} {res : AV}
    (hnew : ∀ p ∈ (unk n res).new, h p.1 = some p.2) (hfr : ∀ id, n ≤ id → id < n + (unk n res).cnt → g.ρ id = none)
    (ho : o.op = .call cl) (hc : cl.callee = .value x) (hx : ev x = .fn f caps) (hp : PurL h (cl.args.toList.map ev ++ caps) bs) (hcon : Contract P f bs res) : Step P C o a w g h n (unk n res) := by
  intro K Q k
  have hxx := hev x
  rw [hx] at hxx
  obtain ⟨cs, hxv, hcl, hcr⟩ := hxx.fn_eq
  obtain ⟨fn, e1, e2, e3⟩ := hcon.enters
  have hrun : (execOp a.eval o).run P w = .ok (.enter f (cl.args.map a.eval ++ cs)) w := by
    obtain ⟨body, e3'⟩ := Option.isSome_iff_exists.1 e3
    have e2' : fn.name ≠ "runtime.NumGoroutine" := by simpa using e2
    simp [execOp, ho, resolve, hc, hxv, Deferred.ofValue, invoke, callFunc, e1, e2', e3']
  obtain ⟨hpl, hpk⟩ := hp
  have hR : ∀ b, RAll g b → b < w.heap.size := fun b hb => by
    rcases hb with hb | ⟨L, hb⟩
    · exact (W.R b hb).1
    · exact (W.o b L hb).1
  have hargs := hcon.calls w (RAll g) (cl.args.map a.eval ++ cs) hR (by simp at hpl; simp; omega) (fun j hj => by
    have hj' : j < (cl.args.toList.map ev ++ caps).length := by omega
    refine (pur_rel H (hpk j hj') ?_).1
    by_cases hlt : j < cl.args.size
    · have h1 : (cl.args.map a.eval ++ cs).getD j undef = a.eval (cl.args[j]) := by
        simp [Array.getElem?_append, hlt]
      have h2 : (cl.args.toList.map ev ++ caps).getD j .bot = ev (cl.args[j]) := by
        simp [List.getD_eq_getElem?_getD, List.getElem?_append, hlt]
      rw [h1, h2]; exact hev _
    · have hjc : j - cl.args.size < caps.length := by simp at hj'; omega
      have h1 : (cl.args.map a.eval ++ cs).getD j undef = cs.getD (j - cl.args.size) undef := by
        simp [Array.getElem?_append, hlt]
      have h2 : (cl.args.toList.map ev ++ caps).getD j .bot = caps.getD (j - cl.args.size) .bot := by
        simp [List.getD_eq_getElem?_getD, List.getElem?_append, hlt]
      rw [h1, h2]; exact hcr _ hjc)
  unfold Oper.wp
  rw [hrun, Oper.upon_enter]
  refine hargs.mono fun e w' ⟨v, o1, he, hb, ho1, hres⟩ => ?_
  subst he
  have hlow : ∀ b, b < w.heap.size → w'.heap[b]? = w.heap[b]? := fun b hb' => hb.block b hb'
  have ho2 : ∀ b m M, o1 b = some (m :: M) → oun n w.heap.size g.o o1 b = some ((n + m) :: M) := by
    intro b m M hb'
    have := (ho1 b _ hb').1
    simp only [oun]
    rw [if_neg (by omega), hb']
  have ho3 : ∀ b, b < w.heap.size → oun n w.heap.size g.o o1 b = g.o b := fun b hb' => by simp only [oun]; rw [if_pos hb']
  have hρ1 : ∀ id bk, g.ρ id = some bk → ρun n (fun j => (flatV v).getD j undef) (flat res) g.ρ id = some bk := by
    intro id bk hid
    simp only [ρun]
    rw [if_neg]
    · exact hid
    · intro hr
      rw [hfr id hr.1 hr.2] at hid
      cases hid
  have hρ2 : ∀ id bk, ρun n (fun j => (flatV v).getD j undef) (flat res) g.ρ id = some bk → g.ρ id = none → ∃ m sz es, m < (flat res).length ∧ id = n + m ∧ (flat res).getD m .bot = .lst true sz es ∧ bk = hdrOf ((flatV v).getD m undef) sz := by
    intro id bk hid hn
    simp only [ρun] at hid
    split at hid
    · rename_i hr
      split at hid
      · rename_i sz es hcell
        simp only [Option.some.injEq] at hid
        exact ⟨id - n, sz, es, by omega, by omega, hcell, hid.symm⟩
      · cases hid
    · rw [hn] at hid; cases hid
  have hent : ∀ m sz es, m < (flat res).length → (flat res).getD m .bot = .lst true sz es → h (n + m) = some (.row sz es) := by
    intro m sz es hm he
    exact hnew (n + m, .row sz es) ((unE_mem n (flat res) 0 _).2 ⟨m, sz, es, hm, he, by simp⟩)
  refine k v w' (oun n w.heap.size g.o o1) (ρun n (fun j => (flatV v).getD j undef) (flat res) g.ρ) ⟨fun b hb' => ?_, fun b L hb' => ?_, hb.os.trans W.os, hb.tape.trans W.tape, hb.output.trans W.output, Nat.le_trans W.size hb.size, fun b hb' hw => ?_⟩ ?_ hρ1 ?_ ?_ (fun b hb' => hlow b (W.R b hb').1)
  · have := W.R b hb'
    exact ⟨Nat.lt_of_lt_of_le this.1 hb.size, by show oun n w.heap.size g.o o1 b = none; rw [ho3 b this.1]; exact this.2⟩
  · have hb2 : oun n w.heap.size g.o o1 b = some L := hb'
    by_cases hlt : b < w.heap.size
    · rw [ho3 b hlt] at hb2
      exact ⟨Nat.lt_of_lt_of_le hlt hb.size, (W.o b L hb2).2⟩
    · simp only [oun] at hb2
      rw [if_neg hlt] at hb2
      split at hb2
      · rename_i m M hm
        exact ⟨(ho1 b _ hm).2, .inl (by have := W.size; omega)⟩
      · cases hb2
  · rw [hlow b (by have := W.size; omega)]; exact W.keep b hb' hw
  · rw [happ_nil rfl rfl]
    refine H.mono (fun b hb' => hlow b (W.R b hb').1) (fun b L hb' => ⟨by rw [ho3 b (W.o b L hb').1]; exact hb', hlow b (W.o b L hb').1⟩) hρ1 ?_ ?_ ?_
    · intro id sz es bk h1 h2 h3
      obtain ⟨m, sz', es', hm, rfl, hcell, _⟩ := hρ2 id bk h3 h2
      rw [hent m sz' es' hm hcell] at h1; cases h1
    · intro id sz es bk h1 h2 h3
      obtain ⟨m, sz', es', hm, rfl, hcell, rfl⟩ := hρ2 id bk h3 h2
      rw [hent m sz' es' hm hcell] at h1
      cases h1
      have ht := hres.cell m hm
      rw [hcell] at ht
      refine ⟨_, (ht.anyR (R' := g.R)).mono (R' := g.R) [n + m] fun b M hb' => ⟨ho2 b m M (by simpa using hb'), rfl⟩, ?_⟩
      generalize (flatV v).getD m undef = u at ht ⊢
      cases ht with
      | nil => exact .nil
      | own => exact .own
    · intro id c i k' sz bk h1 h2 h3
      obtain ⟨m, sz', es', hm, rfl, hcell, _⟩ := hρ2 id bk h3 h2
      rw [hent m sz' es' hm hcell] at h1; cases h1
  · intro id bk hid
    cases hg : g.ρ id with
    | some bk' => have := hρ1 id bk' hg; rw [hid] at this; exact .inl this.symm
    | none =>
      obtain ⟨m, sz', es', hm, rfl, _⟩ := hρ2 id bk hid hg
      exact .inr ⟨by omega, by simp only [unk]; omega⟩
  · refine un_res hres fun m sz es hm hcell => ?_
    simp only [ρun]
    rw [if_pos (by omega), show n + m - n = m by omega, hcell]

theorem step_icall (hev : ∀ x, XRel w g.R g.ρ (a.eval x) (ev x)) (W : WF C w g) (H : HRel w g h) {o : Oper} {cl : Call} {x : Operand} {f : Nat} {caps : List AV} (hlim : ∀ id k, g.ρ id = some k → id < n)
    (hnew : ∀ p ∈ e.new, h p.1 = some p.2) (ho : o.op = .call cl) (hc : cl.callee = .value x) (hx : ev x = .fn f caps) (hcon : ICon P f (cl.args.toList.map ev ++ caps) h n e) : Step P C o a w g h n e := by
  intro K Q k
  have hxx := hev x
  rw [hx] at hxx
  obtain ⟨cs, hxv, hcl, hcr⟩ := hxx.fn_eq
  obtain ⟨fn, e1, e2, e3⟩ := hcon.enters
  have hrun : (execOp a.eval o).run P w = .ok (.enter f (cl.args.map a.eval ++ cs)) w := by
    obtain ⟨body, e3'⟩ := Option.isSome_iff_exists.1 e3
    have e2' : fn.name ≠ "runtime.NumGoroutine" := by simpa using e2
    simp [execOp, ho, resolve, hc, hxv, Deferred.ofValue, invoke, callFunc, e1, e2', e3']
  have hargs := hcon.calls C w g h (cl.args.map a.eval ++ cs) (fun _ _ => rfl) hnew hlim W H (by simp; omega) (fun j hj => by
    by_cases hlt : j < cl.args.size
    · have h1 : (cl.args.map a.eval ++ cs).getD j undef = a.eval (cl.args[j]) := by
        simp [Array.getElem?_append, hlt]
      have h2 : (cl.args.toList.map ev ++ caps).getD j .bot = ev (cl.args[j]) := by
        simp [List.getD_eq_getElem?_getD, List.getElem?_append, hlt]
      rw [h1, h2]; exact hev _
    · have hjc : j - cl.args.size < caps.length := by simp at hj; omega
      have h1 : (cl.args.map a.eval ++ cs).getD j undef = cs.getD (j - cl.args.size) undef := by
        simp [Array.getElem?_append, hlt]
      have h2 : (cl.args.toList.map ev ++ caps).getD j .bot = caps.getD (j - cl.args.size) .bot := by
        simp [List.getD_eq_getElem?_getD, List.getElem?_append, hlt]
      rw [h1, h2]; exact hcr _ hjc)
  unfold Oper.wp
  rw [hrun, Oper.upon_enter]
  refine hargs.mono fun ex w' ⟨v, o', ρ', he, q1, q2, q3, q4, q5, q6⟩ => ?_
  subst he
  exact k v w' o' ρ' q1 q2 q3 q4 q5 q6

/-- Every operation. -/
theorem AOp.step {o : Oper} (hop : AOp P mt o.op ev h n e) (hlim : wrM mt o.op = true → ∀ id k, g.ρ id = some k → id < n) (hev : ∀ x, XRel w g.R g.ρ (a.eval x) (ev x)) (W : WF C w g) (H : HRel w g h) (hnew : ∀ p ∈ e.new, h p.1 = some p.2)
    (hfr : ∀ id, n ≤ id → id < n + e.cnt → g.ρ id = none) : Step P C o a w g h n e := by
  cases hop with
  | blt he hc => exact opF_step hev W H hnew hfr he hc
  | call h1 h2 h3 h4 h5 => exact step_call hev W H hnew hfr h1 h2 h3 h4 h5
  | @mcall cl x f caps args ms res m Pt sets dels h0 h1 h2 h3 h4 h5 h6 h7 h8 =>
    refine step_mut hev W H (hlim ?_) h1 h2 h3 h4 h5 h6 h7 h8
    obtain ⟨ce, as, ts⟩ := cl
    simp only at h2
    subst h2
    simp [wrM, h0, h1, isCallV]
  | @icall cl x f caps _ h0 h1 h2 h3 h4 =>
    refine step_icall hev W H (hlim ?_) hnew h1 h2 h3 h4
    obtain ⟨ce, as, ts⟩ := cl
    simp only at h2
    subst h2
    simp [wrM, h0, h1, isCallV]
  | sto h1 h2 h3 h4 h5 => exact step_sto hev W H (hlim (by simp [wrM, h1, writes])) h1 h2 h3 h4 h5

theorem PurTo.up {h' : HP} (hs : ∀ id x, h id = some x → h' id = some x) {x y : AV} (hp : PurTo h x y) : PurTo h' x y := by
  have hm : ∀ id, isMixE (h id) = false → ∀ {d : Nat} {q}, cont h d id = some q → isMixE (h' id) = false := by
    intro id hm d q hc
    cases he : h id with
    | none => cases d <;> simp [cont, he] at hc
    | some e => rw [hs id e he]; rw [he] at hm; exact hm
  induction hp with
  | val => exact .val
  | nil => exact .nil
  | lst => exact .lst
  | rptr => exact .rptr
  | pre => exact .pre
  | row h1 h2 h3 h4 => exact .row (cont_up hs h1) (hm _ h2 h1) h3 h4
  | mix h1 h2 h3 h4 _ ih => exact .mix (hs _ _ h1) h2 h3 h4 ih
  | adr h1 h2 h3 _ ih => exact .adr (hs _ _ h1) h2 h3 ih
  | adrRow h1 h2 h3 h4 h5 => exact .adrRow (cont_up hs h1) (hm _ h2 h1) h3 h4 h5
  | agg h1 _ ih => exact .agg h1 ih
  | fn h1 h2 _ ih => exact .fn h1 h2 ih

theorem AOp.up {op : Op} {h' : HP} (hs : ∀ id x, h id = some x → h' id = some x) (hlt : ∀ id, id < n → h' id = h id) (hop : AOp P mt op ev h n e) : AOp P mt op ev h' n e := by
  cases hop with
  | blt he hc => exact .blt (opF_up hs he) hc
  | call h1 h2 h3 h4 h5 => exact .call h1 h2 h3 ⟨h4.1, fun k hk => (h4.2 k hk).up hs⟩ h5
  | mcall h0 h1 h2 h3 h4 h5 h6 h7 h8 => exact .mcall h0 h1 h2 h3 h4 (h5.up hs hlt) h6 h7 h8
  | icall h0 h1 h2 h3 h4 => exact .icall h0 h1 h2 h3 (h4.up hlt hs)
  | sto h1 h2 h3 h4 h5 => exact .sto h1 h2 h3 h4 (h5.up hs hlt)

theorem AOp.congr {op : Op} {ev' : Operand → AV} (hh : ∀ x ∈ op.operands, ev x = ev' x) (hop : AOp P mt op ev h n e) : AOp P mt op ev' h n e := by
  cases hop with
  | blt he hc => exact .blt (by rw [← opF_congr hh]; exact he) hc
  | @call cl x f caps bs res h1 h2 h3 h4 h5 =>
    subst h1
    have hm : cl.args.toList.map ev = cl.args.toList.map ev' := List.map_congr_left fun y hy => hh y (by simp [Op.operands, Call.operands]; exact .inr (by simpa using hy))
    refine .call rfl h2 ?_ (by rw [← hm]; exact h4) h5
    rw [← hh x (by simp [Op.operands, Call.operands, h2])]; exact h3
  | @mcall cl x f caps args ms res m Pt sets dels h0 h1 h2 h3 h4 h5 h6 h7 h8 =>
    subst h1
    have hm : cl.args.toList.map ev = cl.args.toList.map ev' := List.map_congr_left fun y hy => hh y (by simp [Op.operands, Call.operands]; exact .inr (by simpa using hy))
    rw [hm] at h6 h7 h8
    exact .mcall h0 rfl h2 (by rw [← hh x (by simp [Op.operands, Call.operands, h2])]; exact h3) h4 h5 h6 h7 h8
  | @icall cl x f caps _ h0 h1 h2 h3 h4 =>
    subst h1
    have hm : cl.args.toList.map ev = cl.args.toList.map ev' := List.map_congr_left fun y hy => hh y (by simp [Op.operands, Call.operands]; exact .inr (by simpa using hy))
    rw [hm] at h4
    exact .icall h0 rfl h2 (by rw [← hh x (by simp [Op.operands, Call.operands, h2])]; exact h3) h4
  | @sto t x y ty id i k b sz es ds dels h1 h2 h3 h4 h5 =>
    subst h1
    rw [hh x (by simp [Op.operands])] at h4
    rw [hh y (by simp [Op.operands])] at h5
    exact .sto rfl h2 h3 h4 h5

theorem AOp.fine {op : Op} (hlt : ∀ id x, h id = some x → id < n) (hop : AOp P mt op ev h n e) : e.fine n ∧ (wrM mt op = false → e.set = [] ∧ e.del = []) := by
  cases hop with
  | blt he hc => exact ⟨(opF_fine hlt he).1, fun hw => (opF_fine hlt he).2 (by simp only [wrM, Bool.or_eq_false_iff] at hw; exact hw.1)⟩
  | call h1 h2 => exact ⟨unk_fine _ _, fun _ => ⟨rfl, rfl⟩⟩
  | @mcall cl x f caps args ms res m Pt sets dels h0 h1 h2 h3 h4 h5 h6 h7 h8 =>
    refine ⟨⟨by simp, by simp, h5.hdels, h5.nodup, fun p hp => ?_⟩, fun hw => ?_⟩
    · obtain ⟨sz, es, fs, hr, _⟩ := h5.hsets p.1 p.2 (look_mem h5.nodup hp)
      exact hlt _ _ hr
    · obtain ⟨ce, as, ts⟩ := cl
      simp only at h2
      subst h2
      simp [wrM, h0, h1, isCallV] at hw
  | @icall cl x f caps _ h0 h1 h2 h3 h4 =>
    refine ⟨h4.fine hlt, fun hw => ?_⟩
    obtain ⟨ce, as, ts⟩ := cl
    simp only at h2
    subst h2
    simp [wrM, h0, h1, isCallV] at hw
  | sto h1 h2 h3 h4 h5 => exact ⟨⟨by simp, by simp, h5.lt, setOne rfl (hlt _ _ h5.ent)⟩, fun hw => by simp [wrM, h1, writes] at hw⟩

theorem AOp.calm {op : Op} (ht : touch op = false) (hop : AOp P mt op ev h n e) : e.calm ∧ ∀ h', AOp P mt op ev h' n e := by
  cases hop with
  | blt he hc =>
    obtain ⟨h1, h2⟩ := opF_pure ht he
    exact ⟨h1, fun h' => .blt (h2 h' n) hc⟩
  | @call cl x f caps bs res h1 h2 =>
    subst h1
    simp [touch, h2] at ht
  | @mcall cl x f caps args ms res m Pt sets dels h0 h1 h2 =>
    subst h1
    simp [touch, h2] at ht
  | @icall cl x f caps _ h0 h1 h2 =>
    subst h1
    simp [touch, h2] at ht
  | sto h1 => subst h1; simp [touch] at ht

end
end Go.Vc

/- A region of operations, run in the text's order on abstract values, in any order that its edges allow in the machine. -/
namespace Go.Vc
open Go

/-- The slots that an operation names besides the one that it writes. -/
def reads (ops : Array Oper) (o : Oper) : List Nat :=
  (o.op.operands.toList.filterMap fun | .tmp t => some t | _ => none) ++
  (match o.guard with
   | some (j, _) => ((ops[j]?).bind (·.dst)).toList
   | none => [])

/-- Two operations whose order matters. -/
def clash (mt : Bool) (ops : Array Oper) (x y : Oper) : Bool :=
  (match x.dst with
   | some d => (reads ops y).contains d || y.dst == some d
   | none => false) ||
  (match y.dst with
   | some d => (reads ops x).contains d
   | none => false) ||
  (wrM mt x.op && touch y.op) || (touch x.op && wrM mt y.op)

/-- Of each operation, the operations that stand before it in every order. -/
def masks : List Oper → List Nat → List Nat
  | [], acc => acc
  | o :: r, acc => masks r (acc ++ [o.after.toList.foldl (fun s e => if Region.binds .any e then s ||| 2 ^ e.on ||| acc.getD e.on 0 else s) 0])

def okReg (mt : Bool) (ops : Array Oper) : Bool :=
  let ms := masks ops.toList []
  (List.range ops.size).all fun j => (List.range j).all fun i =>
    match ops[i]?, ops[j]? with
    | some x, some y => !clash mt ops x y || (ms.getD j 0).testBit i
    | _, _ => true

/-- The edges lead back. -/
def okBack (ops : Array Oper) : Bool := ops.toList.zipIdx.all fun p => p.1.after.toList.all fun e => !Region.binds .any e || decide (e.on < p.2)

/-- The slots that are written are there. -/
def okN (N : Nat) (ops : Array Oper) : Bool := ops.toList.all fun o => match o.dst with
  | some d => decide (d < N)
  | none => true

theorem masks_length : ∀ (os : List Oper) (acc : List Nat), (masks os acc).length = acc.length + os.length := by
  intro os
  induction os with
  | nil => intro acc; simp [masks]
  | cons o r ih => intro acc; simp [masks, ih]; omega

theorem masks_old : ∀ (os : List Oper) (acc : List Nat) (j : Nat), j < acc.length → (masks os acc).getD j 0 = acc.getD j 0 := by
  intro os
  induction os with
  | nil => intro acc j _; rfl
  | cons o r ih =>
    intro acc j hj
    simp only [masks]
    rw [ih _ j (by simp; omega)]
    simp [List.getD_eq_getElem?_getD, List.getElem?_append_left hj]

theorem fold_bit (acc : List Nat) (i : Nat) : ∀ (es : List Edge) (s : Nat), (es.foldl (fun s e => if Region.binds .any e then s ||| 2 ^ e.on ||| acc.getD e.on 0 else s) s).testBit i = true →
    s.testBit i = true ∨ ∃ e ∈ es, Region.binds .any e = true ∧ (e.on = i ∨ (acc.getD e.on 0).testBit i = true) := by
  intro es
  induction es with
  | nil => intro s h; exact .inl h
  | cons e es ih =>
    intro s h
    simp only [List.foldl_cons] at h
    rcases ih _ h with h1 | ⟨e', he', hb, hx⟩
    · split at h1
      · rename_i hb
        simp only [Nat.testBit_or, Bool.or_eq_true] at h1
        rcases h1 with (h1 | h1) | h1
        · exact .inl h1
        · refine .inr ⟨e, by simp, hb, .inl ?_⟩
          rw [Nat.testBit_two_pow] at h1
          simpa using h1
        · exact .inr ⟨e, by simp, hb, .inr h1⟩
      · exact .inl h1
    · exact .inr ⟨e', by simp [he'], hb, hx⟩

theorem masks_bit : ∀ (os : List Oper) (acc : List Nat) (j i : Nat), acc.length ≤ j → ((masks os acc).getD j 0).testBit i = true →
    ∃ o, os[j - acc.length]? = some o ∧ ∃ e ∈ o.after.toList, Region.binds .any e = true ∧ (e.on = i ∨ (e.on < j ∧ ((masks os acc).getD e.on 0).testBit i = true)) := by
  intro os
  induction os with
  | nil =>
    intro acc j i hj h
    rw [getD_out (by simpa [masks] using hj)] at h
    simp at h
  | cons o r ih =>
    intro acc j i hj h
    simp only [masks] at h
    by_cases hje : j = acc.length
    · subst hje
      rw [masks_old _ _ _ (by simp)] at h
      have h1 : (acc ++ [o.after.toList.foldl (fun s e => if Region.binds .any e then s ||| 2 ^ e.on ||| acc.getD e.on 0 else s) 0]).getD acc.length 0 = o.after.toList.foldl (fun s e => if Region.binds .any e then s ||| 2 ^ e.on ||| acc.getD e.on 0 else s) 0 := by
        simp [List.getD_eq_getElem?_getD]
      rw [h1] at h
      refine ⟨o, by simp, ?_⟩
      rcases fold_bit acc i _ _ h with h2 | ⟨e, he, hb, hx⟩
      · simp at h2
      · refine ⟨e, he, hb, hx.imp (fun x => x) fun hx => ?_⟩
        have hlt : e.on < acc.length := by
          rcases Nat.lt_or_ge e.on acc.length with h' | h'
          · exact h'
          · rw [getD_out h'] at hx; simp at hx
        refine ⟨hlt, ?_⟩
        simp only [masks]
        rw [masks_old _ _ _ (by simp; omega)]
        simpa [List.getD_eq_getElem?_getD, List.getElem?_append_left hlt] using hx
    · obtain ⟨o', h1, e, he, hb, hx⟩ := ih _ j i (by simp; omega) h
      refine ⟨o', ?_, e, he, hb, by simpa [masks] using hx⟩
      simp only [List.length_append, List.length_singleton] at h1
      rw [show j - acc.length = (j - (acc.length + 1)) + 1 by omega]
      simpa using h1

theorem okReg_spec {mt : Bool} {ops : Array Oper} (h : okReg mt ops = true) {i j : Nat} {x y : Oper} (hij : i < j) (hx : ops[i]? = some x) (hy : ops[j]? = some y) (hc : clash mt ops x y = true) : ((masks ops.toList []).getD j 0).testBit i = true := by
  unfold okReg at h
  simp only [List.all_eq_true, List.mem_range] at h
  have hj : j < ops.size := by
    rcases Nat.lt_or_ge j ops.size with h' | h'
    · exact h'
    · simp [Array.getElem?_eq_none h'] at hy
  have := h j hj i hij
  rw [hx, hy] at this
  simpa [hc] using this

theorem clash_dst {mt : Bool} {ops : Array Oper} {x y : Oper} (h : clash mt ops x y = false) : (∀ d, x.dst = some d → d ∉ reads ops y ∧ y.dst ≠ some d) ∧ (∀ d, y.dst = some d → d ∉ reads ops x) ∧ (wrM mt x.op = true → touch y.op = false) ∧ (wrM mt y.op = true → touch x.op = false) := by
  unfold clash at h
  simp only [Bool.or_eq_false_iff, Bool.and_eq_false_iff] at h
  obtain ⟨⟨⟨h1, h2⟩, h3⟩, h4⟩ := h
  refine ⟨fun d hd => ?_, fun d hd => ?_, fun hw => ?_, fun hw => ?_⟩
  · rw [hd] at h1
    simp only [Bool.or_eq_false_iff] at h1
    refine ⟨by simpa using h1.1, ?_⟩
    intro hy
    rw [hy] at h1
    simp at h1
  · rw [hd] at h2
    simpa using h2
  · rcases h3 with h3 | h3
    · rw [hw] at h3; cases h3
    · exact h3
  · rcases h4 with h4 | h4
    · exact h4
    · rw [hw] at h4; cases h4

end Go.Vc

/- A region: the machine in any order, abstract values in the text's. -/
namespace Go.Vc
open Go

def St.hp (st : St) : HP := fun id => look id st.h

theorem look_append {α : Type} (k : Nat) : ∀ (a b : List (Nat × α)), look k (a ++ b) = match look k a with | some x => some x | none => look k b := by
  intro a b
  induction a with
  | nil => rfl
  | cons p r ih =>
    obtain ⟨i, x⟩ := p
    simp only [List.cons_append, look]
    split
    · rfl
    · exact ih

theorem look_setH (id : Nat) (e : Ent) : ∀ (h : List (Nat × Ent)) (k : Nat), look k (setH id e h) = if k = id then some e else look k h := by
  intro h k
  induction h with
  | nil =>
    simp only [setH, look]
    by_cases hk : k = id
    · subst hk; simp
    · rw [if_neg (Ne.symm hk), if_neg hk]
  | cons p r ih =>
    obtain ⟨i, x⟩ := p
    simp only [setH]
    by_cases hi : i = id
    · subst hi
      rw [if_pos rfl]
      simp only [look]
      by_cases hk : i = k
      · subst hk; simp
      · rw [if_neg hk, if_neg (Ne.symm hk), if_neg hk]
    · rw [if_neg hi]
      simp only [look]
      by_cases hk : i = k
      · subst hk; rw [if_pos rfl, if_neg hi, if_pos rfl]
      · rw [if_neg hk, ih, if_neg hk]

theorem look_delH (id : Nat) : ∀ (h : List (Nat × Ent)) (k : Nat), look k (delH id h) = if k = id then none else look k h := by
  intro h k
  induction h with
  | nil => simp [delH, look]
  | cons p r ih =>
    obtain ⟨i, x⟩ := p
    simp only [delH]
    by_cases hi : i = id
    · subst hi
      rw [if_pos rfl, ih]
      simp only [look]
      by_cases hk : k = i
      · rw [if_pos hk, if_pos hk]
      · rw [if_neg hk, if_neg hk, if_neg (Ne.symm hk)]
    · rw [if_neg hi]
      simp only [look]
      by_cases hk : i = k
      · subst hk; rw [if_pos rfl, if_neg hi, if_pos rfl]
      · rw [if_neg hk, ih, if_neg hk]

theorem look_delAll : ∀ (ds : List Nat) (h : List (Nat × Ent)) (k : Nat), look k (delAll ds h) = if k ∈ ds then none else look k h := by
  intro ds
  induction ds with
  | nil => intro h k; simp [delAll]
  | cons d ds ih =>
    intro h k
    simp only [delAll]
    rw [ih, look_delH]
    by_cases h1 : k ∈ ds
    · simp [h1]
    · by_cases h2 : k = d
      · simp [h2]
      · simp [h1, h2]

theorem look_setAll : ∀ (s : List (Nat × Ent)) (h : List (Nat × Ent)) (k : Nat), (s.map Prod.fst).Nodup → look k (setAll s h) = match look k s with | some x => some x | none => look k h := by
  intro s
  induction s with
  | nil => intro h k _; rfl
  | cons p s ih =>
    obtain ⟨i, x⟩ := p
    intro h k hn
    simp only [List.map_cons, List.nodup_cons] at hn
    simp only [setAll, look]
    rw [ih _ _ hn.2, look_setH]
    by_cases hk : i = k
    · subst hk
      rw [if_pos rfl, if_pos rfl, look_none hn.1]
    · rw [if_neg hk, if_neg (Ne.symm hk)]

/-- The blocks behind an operation, by name. -/
theorem look_app (st : St) (dst : Option Nat) {e : Eff} (hf : e.fine st.n) (k : Nat) : look k (st.app dst e).h = match happ e st.hp k with | some x => some x | none => look k e.new := by
  simp only [St.app, look_append]
  have : look k (setAll e.set (delAll e.del st.h)) = happ e st.hp k := by
    rw [look_setAll _ _ _ hf.sets.1, look_delAll]
    simp only [happ, St.hp]
    cases look k e.set <;> rfl
  rw [this]
  cases happ e st.hp k <;> rfl

def St.ok (st : St) : Prop := ∀ id x, look id st.h = some x → id < st.n

theorem look_fine {e : Eff} {n : Nat} (hf : e.fine n) {k : Nat} {x : Ent} (h : look k e.new = some x) : n ≤ k ∧ k < n + e.cnt := by
  have hm := look_some h
  obtain ⟨p, hp, rfl⟩ := List.mem_map.1 hm
  exact hf.new p hp

theorem St.ok.app {st : St} (h : st.ok) (dst : Option Nat) {e : Eff} (hf : e.fine st.n) : (st.app dst e).ok := by
  intro id x hx
  rw [look_app st dst hf] at hx
  have hn : (st.app dst e).n = st.n + e.cnt := rfl
  rw [hn]
  cases hh : happ e st.hp id with
  | none => rw [hh] at hx; have := look_fine hf hx; omega
  | some y =>
    simp only [happ] at hh
    split at hh
    · rename_i z hz
      obtain ⟨p, hp, rfl⟩ := List.mem_map.1 (look_some hz)
      have := hf.sets.2 p hp
      omega
    · split at hh
      · cases hh
      · have := h id y hh; omega

theorem look_putS (t : Nat) (a : AV) : ∀ (s : List (Nat × AV)) (k : Nat), look k (putS t a s) = if k = t then some a else look k s := by
  intro s k
  induction s with
  | nil =>
    simp only [putS, look]
    by_cases hk : k = t
    · subst hk; simp
    · rw [if_neg (Ne.symm hk), if_neg hk]
  | cons p r ih =>
    obtain ⟨i, x⟩ := p
    simp only [putS]
    by_cases hi : i = t
    · subst hi
      rw [if_pos rfl]
      simp only [look]
      by_cases hk : i = k
      · subst hk; simp
      · rw [if_neg hk, if_neg (Ne.symm hk), if_neg hk]
    · rw [if_neg hi]
      simp only [look]
      by_cases hk : i = k
      · subst hk; rw [if_pos rfl, if_neg hi, if_pos rfl]
      · rw [if_neg hk, ih, if_neg hk]

theorem get_app (st : St) (dst : Option Nat) (e : Eff) (t : Nat) : (st.app dst e).get t = if dst = some t then e.v else st.get t := by
  cases dst with
  | none => simp [St.get, St.app]
  | some d =>
    simp only [St.get, St.app, look_putS]
    by_cases hk : t = d
    · subst hk; simp
    · rw [if_neg hk, if_neg (by intro h; cases h; exact hk rfl)]

/-- Is the operation carried out? -/
def wantA (ops : Array Oper) (o : Oper) (st : St) : Option Bool :=
  match o.guard with
  | none => some true
  | some (j, want) => match (ops[j]?).bind (·.dst) with
    | some t => match st.get t with
      | .val (.bool b) => some (b == want)
      | _ => none
    | none => none

/-- A run in the text's order: the states, what each operation does. -/
structure Tr (P : Program) (mt : Bool) (ops : Array Oper) (S : Nat → St) (E : Nat → Option Eff) : Prop where
  ok : (S 0).ok
  run : ∀ k o, ops[k]? = some o → match E k with
    | some e => wantA ops o (S k) = some true ∧ AOp P mt o.op (S k).ev (S k).hp (S k).n e ∧ S (k + 1) = (S k).app o.dst e
    | none => wantA ops o (S k) = some false ∧ S (k + 1) = (S k).app o.dst { v := .bot }

def eff (E : Nat → Option Eff) (k : Nat) : Eff := (E k).getD { v := .bot }

section
variable {P : Program} {mt : Bool} {ops : Array Oper} {S : Nat → St} {E : Nat → Option Eff}

theorem bot_fine (n : Nat) : ({ v := .bot } : Eff).fine n := ⟨by simp, by simp, by simp, setNil rfl⟩

theorem Tr.all (T : Tr P mt ops S E) : ∀ k, k ≤ ops.size → (S k).ok := by
  intro k
  induction k with
  | zero => intro _; exact T.ok
  | succ k ih =>
    intro hk
    have hok := ih (by omega)
    have := T.run k _ (Array.getElem?_eq_getElem (show k < ops.size by omega))
    split at this
    · rename_i e he
      obtain ⟨_, h2, h3⟩ := this
      rw [h3]; exact hok.app _ (h2.fine hok).1
    · obtain ⟨_, h3⟩ := this
      rw [h3]; exact hok.app _ (bot_fine _)

theorem Tr.step (T : Tr P mt ops S E) {k : Nat} {o : Oper} (ho : ops[k]? = some o) : (eff E k).fine (S k).n ∧ S (k + 1) = (S k).app o.dst (eff E k) ∧ (wrM mt o.op = false → (eff E k).set = [] ∧ (eff E k).del = []) ∧ (touch o.op = false → (eff E k).calm) := by
  have hk : k < ops.size := (Array.getElem?_eq_some_iff.1 ho).1
  have hok := T.all k (by omega)
  have := T.run k o ho
  cases hE : E k with
  | some e =>
    rw [hE] at this
    obtain ⟨_, h2, h3⟩ := this
    have hf := h2.fine hok
    simp only [eff, hE, Option.getD_some]
    exact ⟨hf.1, h3, hf.2, fun ht => (h2.calm ht).1⟩
  | none =>
    rw [hE] at this
    obtain ⟨_, h3⟩ := this
    simp only [eff, hE, Option.getD_none]
    exact ⟨bot_fine _, h3, fun _ => by simp, fun _ => ⟨rfl, rfl, rfl, rfl⟩⟩

theorem Tr.n (T : Tr P mt ops S E) {k : Nat} (hk : k < ops.size) : (S (k + 1)).n = (S k).n + (eff E k).cnt := by
  rw [(T.step (Array.getElem?_eq_getElem hk)).2.1]; rfl

theorem Tr.nle (T : Tr P mt ops S E) {i j : Nat} (hij : i ≤ j) (hj : j ≤ ops.size) : (S i).n ≤ (S j).n := by
  induction j with
  | zero => have : i = 0 := by omega
            subst this; exact Nat.le_refl _
  | succ j ih =>
    rcases Nat.lt_or_ge i (j + 1) with h | h
    · have := ih (by omega) (by omega)
      rw [T.n (by omega)]; omega
    · have : i = j + 1 := by omega
      subst this; exact Nat.le_refl _

/-- What the operations from k on will lay. -/
def later (E : Nat → Option Eff) : Nat → Nat → List (Nat × Ent)
  | _, 0 => []
  | k, m + 1 => (eff E k).new ++ later E (k + 1) m

theorem later_ge (T : Tr P mt ops S E) : ∀ (m k : Nat), k + m ≤ ops.size → ∀ p ∈ later E k m, (S k).n ≤ p.1 ∧ p.1 < (S (k + m)).n := by
  intro m
  induction m with
  | zero => intro k _ p hp; simp [later] at hp
  | succ m ih =>
    intro k hk p hp
    simp only [later, List.mem_append] at hp
    have h1 := T.n (show k < ops.size by omega)
    have h2 := T.nle (show k + 1 ≤ k + (m + 1) by omega) hk
    rcases hp with hp | hp
    · have := ((T.step (Array.getElem?_eq_getElem (show k < ops.size by omega))).1).new p hp
      omega
    · have := ih (k + 1) (by omega) p hp
      rw [show k + 1 + m = k + (m + 1) by omega] at this
      omega

/-- The blocks before operation k, with all that will be laid. -/
def HS (S : Nat → St) (E : Nat → Option Eff) (m k : Nat) : HP := fun id => match look id (S k).h with | some x => some x | none => look id (later E k (m - k))

theorem look_ge {l : List (Nat × Ent)} {n id : Nat} {x : Ent} (hl : ∀ p ∈ l, n ≤ p.1) (h : look id l = some x) : n ≤ id := by
  have hm := look_some h
  obtain ⟨p, hp, rfl⟩ := List.mem_map.1 hm
  exact hl p hp

theorem HS_succ (T : Tr P mt ops S E) {k : Nat} (hk : k < ops.size) : HS S E ops.size (k + 1) = happ (eff E k) (HS S E ops.size k) := by
  obtain ⟨hf, hS, _⟩ := T.step (Array.getElem?_eq_getElem hk)
  have hok := T.all k (by omega)
  funext id
  have hlat : later E k (ops.size - k) = (eff E k).new ++ later E (k + 1) (ops.size - (k + 1)) := by
    rw [show ops.size - k = (ops.size - (k + 1)) + 1 by omega]; rfl
  have hge := later_ge T (ops.size - (k + 1)) (k + 1) (by omega)
  have hnl : ∀ x, look id ((eff E k).new ++ later E (k + 1) (ops.size - (k + 1))) = some x → (S k).n ≤ id := by
    intro x hx
    rw [look_append] at hx
    cases hn : look id (eff E k).new with
    | some y => exact (look_fine hf hn).1
    | none =>
      rw [hn] at hx
      have h1 := look_ge (fun p hp => (hge p hp).1) hx
      have h2 := T.nle (show k ≤ k + 1 by omega) (by omega)
      omega
  have e1 : HS S E ops.size (k + 1) id = match happ (eff E k) (S k).hp id with | some x => some x | none => look id ((eff E k).new ++ later E (k + 1) (ops.size - (k + 1))) := by
    simp only [HS, hS, look_append]
    rw [look_app _ _ hf]
    cases happ (eff E k) (S k).hp id with
    | some x => rfl
    | none => cases look id (eff E k).new <;> rfl
  have e2 : HS S E ops.size k id = match (S k).hp id with | some x => some x | none => look id ((eff E k).new ++ later E (k + 1) (ops.size - (k + 1))) := by
    simp only [HS, hlat, St.hp]
  rw [e1]
  simp only [happ]
  cases hset : look id (eff E k).set with
  | some x => rfl
  | none =>
    simp only
    by_cases hd : id ∈ (eff E k).del
    · simp only [hd, if_true]
      cases hl : look id ((eff E k).new ++ later E (k + 1) (ops.size - (k + 1))) with
      | none => rfl
      | some x => have h1 := hnl x hl; have h2 := hf.del id hd; omega
    · simp only [hd, if_false]
      rw [e2]


/-- A slot's value, the operations in L being done. -/
def envU (ops : Array Oper) (S : Nat → St) (E : Nat → Option Eff) (L : Nat → Bool) : Nat → Nat → AV
  | 0, t => (S 0).get t
  | k + 1, t => if L k = true ∧ (ops[k]?).bind (·.dst) = some t then (eff E k).v else envU ops S E L k t

/-- The blocks, the operations in L being done. -/
def hU (mt : Bool) (ops : Array Oper) (S : Nat → St) (E : Nat → Option Eff) (L : Nat → Bool) : Nat → HP
  | 0 => HS S E ops.size 0
  | k + 1 => if L k = true ∧ ((ops[k]?).map (wrM mt ·.op)).getD false = true then HS S E ops.size (k + 1) else hU mt ops S E L k

theorem envU_at (T : Tr P mt ops S E) (L : Nat → Bool) (t i : Nat) (hi : i ≤ ops.size) (h1 : ∀ k, k < i → (ops[k]?).bind (·.dst) = some t → L k = true) : envU ops S E L i t = (S i).get t := by
  induction i with
  | zero => rfl
  | succ i ih =>
    have h0 := ih (by omega) fun k hk => h1 k (by omega)
    obtain ⟨_, hS, _⟩ := T.step (Array.getElem?_eq_getElem (show i < ops.size by omega))
    rw [hS, get_app]
    simp only [envU]
    have hd : (ops[i]?).bind (·.dst) = (ops[i]).dst := by rw [Array.getElem?_eq_getElem (show i < ops.size by omega)]; rfl
    rw [hd]
    by_cases hdt : (ops[i]).dst = some t
    · rw [if_pos ⟨h1 i (by omega) (by rw [hd]; exact hdt), hdt⟩, if_pos hdt]
    · rw [if_neg (fun h => hdt h.2), if_neg hdt]; exact h0

theorem envU_past (L : Nat → Bool) (t i : Nat) : ∀ m, i ≤ m → (∀ k, i ≤ k → k < m → L k = true → (ops[k]?).bind (·.dst) ≠ some t) → envU ops S E L m t = envU ops S E L i t := by
  intro m
  induction m with
  | zero => intro h _; have : i = 0 := by omega
            subst this; rfl
  | succ m ih =>
    intro h hk
    rcases Nat.lt_or_ge i (m + 1) with h' | h'
    · simp only [envU]
      rw [if_neg]
      · exact ih (by omega) fun k h1 h2 => hk k h1 (by omega)
      · intro hh; exact hk m (by omega) (by omega) hh.1 hh.2
    · have : i = m + 1 := by omega
      subst this; rfl

def isW (mt : Bool) (ops : Array Oper) (k : Nat) : Bool := ((ops[k]?).map (wrM mt ·.op)).getD false

theorem hU_at (T : Tr P mt ops S E) (L : Nat → Bool) (i : Nat) (hi : i ≤ ops.size) (h1 : ∀ k, k < i → isW mt ops k = true → L k = true) : hU mt ops S E L i = HS S E ops.size i := by
  induction i with
  | zero => rfl
  | succ i ih =>
    have h0 := ih (by omega) fun k hk => h1 k (by omega)
    simp only [hU]
    by_cases hw : isW mt ops i = true
    · rw [if_pos ⟨h1 i (by omega) hw, hw⟩]
    · rw [if_neg (fun h => hw h.2), h0, HS_succ T (by omega)]
      have hg := Array.getElem?_eq_getElem (show i < ops.size by omega)
      obtain ⟨_, _, hcalm, _⟩ := T.step hg
      have : wrM mt (ops[i]).op = false := by simpa [isW, hg] using hw
      obtain ⟨h2, h3⟩ := hcalm this
      rw [happ_nil h2 h3]

theorem hU_past (L : Nat → Bool) (i : Nat) : ∀ m, i ≤ m → (∀ k, i ≤ k → k < m → L k = true → isW mt ops k = false) → hU mt ops S E L m = hU mt ops S E L i := by
  intro m
  induction m with
  | zero => intro h _; have : i = 0 := by omega
            subst this; rfl
  | succ m ih =>
    intro h hk
    rcases Nat.lt_or_ge i (m + 1) with h' | h'
    · simp only [hU]
      rw [if_neg]
      · exact ih (by omega) fun k h1 h2 => hk k h1 (by omega)
      · intro hh
        have := hk m (by omega) (by omega) hh.1
        simp only [isW] at this
        rw [this] at hh
        exact absurd hh.2 (by simp)
    · have : i = m + 1 := by omega
      subst this; rfl

/-- The machine and the abstract values, the operations in L being done. -/
structure Mid (mt : Bool) (C : Ctx) (R : Nat → Prop) (N : Nat) (ops : Array Oper) (S : Nat → St) (E : Nat → Option Eff) (w0 : World) (L : Nat → Bool) (a : Act) (w : World) : Prop where
  size : a.tmps.size = N
  defers : a.defers = []
  ex : ∃ o ρ, WF C w ⟨R, o, ρ⟩ ∧ HRel w ⟨R, o, ρ⟩ (hU mt ops S E L ops.size) ∧ (∀ t, XRel w R ρ (a.tmps.getD t undef) (envU ops S E L ops.size t)) ∧
    (∀ id k, ρ id = some k → id < (S 0).n ∨ ∃ j, j < ops.size ∧ L j = true ∧ (S j).n ≤ id ∧ id < (S (j + 1)).n) ∧ (∀ id, id < C.n0 → ρ id = C.ρ0 id) ∧ C.n0 ≤ (S 0).n
  keep : ∀ b, R b → w.heap[b]? = w0.heap[b]?

def upL (L : Nat → Bool) (i : Nat) : Nat → Bool := fun k => if k = i then true else L k

theorem envU_upL {L : Nat → Bool} {i : Nat} (hL : L i = false) (t : Nat) : ∀ m, (∀ k, i < k → k < m → L k = true → (ops[k]?).bind (·.dst) ≠ (ops[i]?).bind (·.dst) ∨ (ops[i]?).bind (·.dst) = none) →
    envU ops S E (upL L i) m t = if i < m ∧ (ops[i]?).bind (·.dst) = some t then (eff E i).v else envU ops S E L m t := by
  intro m
  induction m with
  | zero => intro _; rw [if_neg (by omega)]; rfl
  | succ m ih =>
    intro hk
    have h0 := ih fun k h1 h2 => hk k h1 (by omega)
    simp only [envU]
    by_cases hm : m = i
    · subst hm
      have hu : upL L m m = true := by simp [upL]
      rw [h0, hu, hL, if_neg (show ¬ (m < m ∧ _) by omega)]
      by_cases hd : (ops[m]?).bind (·.dst) = some t
      · rw [if_pos ⟨rfl, hd⟩, if_pos ⟨by omega, hd⟩]
      · rw [if_neg (fun h => hd h.2), if_neg (fun h => hd h.2), if_neg (by simp)]
    · have hu : upL L i m = L m := by simp [upL, hm]
      rw [hu, h0]
      by_cases hLm : L m = true ∧ (ops[m]?).bind (·.dst) = some t
      · rw [if_pos hLm]
        by_cases him : i < m + 1 ∧ (ops[i]?).bind (·.dst) = some t
        · rcases hk m (by omega) (by omega) hLm.1 with h2 | h2
          · exact absurd (hLm.2.trans him.2.symm) h2
          · rw [h2] at him; cases him.2
        · rw [if_neg him, if_pos hLm]
      · rw [if_neg hLm, if_neg hLm]
        by_cases hd : (ops[i]?).bind (·.dst) = some t
        · by_cases him : i < m
          · rw [if_pos ⟨him, hd⟩, if_pos ⟨by omega, hd⟩]
          · rw [if_neg (by omega), if_neg (by omega)]
        · rw [if_neg (fun h => hd h.2), if_neg (fun h => hd h.2)]

theorem hU_upL (T : Tr P mt ops S E) {L : Nat → Bool} {i : Nat} (hi : i < ops.size) (hL : L i = false) (hA : isW mt ops i = true → (∀ k, k < i → isW mt ops k = true → L k = true) ∧ ∀ k, i < k → k < ops.size → L k = true → isW mt ops k = false) :
    hU mt ops S E (upL L i) ops.size = happ (bif isW mt ops i then eff E i else { v := .bot }) (hU mt ops S E L ops.size) := by
  by_cases hw : isW mt ops i = true
  · obtain ⟨h1, h2⟩ := hA hw
    rw [hw, cond_true]
    have e1 : hU mt ops S E L ops.size = HS S E ops.size i := by
      rw [hU_past L i ops.size (by omega) fun k hk1 hk2 hk3 => by
        by_cases hki : k = i
        · subst hki; rw [hL] at hk3; cases hk3
        · exact h2 k (by omega) hk2 hk3]
      exact hU_at T L i (by omega) h1
    have e2 : hU mt ops S E (upL L i) ops.size = HS S E ops.size (i + 1) := by
      rw [hU_past (upL L i) (i + 1) ops.size (by omega) fun k hk1 hk2 hk3 => by
        have : upL L i k = L k := by simp [upL, show k ≠ i by omega]
        rw [this] at hk3
        exact h2 k (by omega) hk2 hk3]
      exact hU_at T (upL L i) (i + 1) (by omega) fun k hk1 hk2 => by
        by_cases hki : k = i
        · simp [upL, hki]
        · simp only [upL]; rw [if_neg hki]; exact h1 k (by omega) hk2
    rw [e1, e2, HS_succ T hi]
  · have hw' : isW mt ops i = false := by simpa using hw
    rw [hw', cond_false, happ_nil rfl rfl]
    have : ∀ m, hU mt ops S E (upL L i) m = hU mt ops S E L m := by
      intro m
      induction m with
      | zero => rfl
      | succ m ih =>
        simp only [hU]
        by_cases hm : m = i
        · subst hm
          rw [if_neg (fun h => hw h.2), if_neg (fun h => hw h.2)]; exact ih
        · have hu : upL L i m = L m := by simp [upL, hm]
          rw [hu, ih]
    exact this _

end
end Go.Vc

/- A region is right in every order. -/
namespace Go.Vc
open Go

section
variable {P : Program} {mt : Bool} {ops : Array Oper} {S : Nat → St} {E : Nat → Option Eff} {C : Ctx} {R : Nat → Prop} {N : Nat} {w0 : World}

theorem tmp_reads {o : Oper} {t : Nat} (h : (.tmp t : Operand) ∈ o.op.operands) : t ∈ reads ops o := by
  simp only [reads, List.mem_append]
  left
  refine List.mem_filterMap.2 ⟨.tmp t, by simpa using h, rfl⟩

theorem guard_reads {o : Oper} {j : Nat} {want : Bool} {t : Nat} (h : o.guard = some (j, want)) (ht : (ops[j]?).bind (·.dst) = some t) : t ∈ reads ops o := by
  simp only [reads, List.mem_append]
  right
  rw [h]
  simp [ht]

theorem put_size (a : Act) (d : Option Tmp) (v : Value) : (a.put d v).tmps.size = a.tmps.size := by cases d <;> simp [Act.put]

theorem put_get (a : Act) (d : Option Tmp) (v : Value) (t : Nat) (hd : ∀ x, d = some x → x < a.tmps.size) : (a.put d v).tmps.getD t undef = if d = some t then v else a.tmps.getD t undef := by
  cases d with
  | none => simp [Act.put]
  | some x =>
    have := hd x rfl
    simp only [Act.put]
    by_cases hx : x = t
    · subst hx; simp [this]
    · rw [if_neg (by intro h; cases h; exact hx rfl)]
      simp [Array.getElem?_setIfInBounds, hx]

/-- One operation of the region, when all that must stand before it is done. -/
theorem mid_step (T : Tr P mt ops S E) (hN : ∀ o ∈ ops.toList, ∀ d, o.dst = some d → d < N) {L : Nat → Bool} {i : Nat} {oi : Oper} (hi : ops[i]? = some oi) (hL : L i = false)
    (hA : ∀ k o, k < i → ops[k]? = some o → clash mt ops o oi = true → L k = true) (hB : ∀ k o, i < k → ops[k]? = some o → L k = true → clash mt ops oi o = false)
    {a : Act} {w : World} (M : Mid mt C R N ops S E w0 L a w) {K : Act → World → Prop} {Q : Exit → Act → World → Prop} (hK : ∀ a' w', Mid mt C R N ops S E w0 (upL L i) a' w' → K a' w') : wpOp P ops Q i K a w := by
  classical
  have hin : i < ops.size := (Array.getElem?_eq_some_iff.1 hi).1
  obtain ⟨o, ρ, W, H, hx, hρ, hpin⟩ := M.ex
  obtain ⟨hf, hS, hnw, hnt⟩ := T.step hi
  have hd : (ops[i]?).bind (·.dst) = oi.dst := by rw [hi]; rfl
  -- a slot that the operation names reads as in the text's order
  have hslot : ∀ t, t ∈ reads ops oi → envU ops S E L ops.size t = (S i).get t := by
    intro t ht
    rw [envU_past L t i ops.size (by omega) fun k hk1 hk2 hk3 => ?_]
    · refine envU_at T L t i (by omega) fun k hk1 hk2 => ?_
      have hk : k < ops.size := by omega
      refine hA k _ hk1 (Array.getElem?_eq_getElem hk) ?_
      rw [Array.getElem?_eq_getElem hk] at hk2
      have hk2 : (ops[k]).dst = some t := hk2
      simp only [clash, hk2, Bool.or_eq_true]
      left; left; left; left
      simpa using ht
    · intro hdk
      by_cases hki : k = i
      · subst hki; rw [hL] at hk3; cases hk3
      · have hk : k < ops.size := hk2
        have h1 := hB k _ (by omega) (Array.getElem?_eq_getElem hk) hk3
        rw [Array.getElem?_eq_getElem hk] at hdk
        exact (clash_dst h1).2.1 t hdk ht
  -- its own slot is not written by what came too early
  have hown : ∀ t, envU ops S E (upL L i) ops.size t = if oi.dst = some t then (eff E i).v else envU ops S E L ops.size t := by
    intro t
    rw [envU_upL hL t ops.size fun k h1 h2 h3 => ?_, hd]
    · by_cases hdt : oi.dst = some t
      · rw [if_pos ⟨hin, hdt⟩, if_pos hdt]
      · rw [if_neg (fun h => hdt h.2), if_neg hdt]
    · cases hdi : oi.dst with
      | none => right; rw [hd, hdi]
      | some d =>
        left
        rw [hd, hdi, Array.getElem?_eq_getElem h2]
        have h4 := hB k _ h1 (Array.getElem?_eq_getElem h2) h3
        exact ((clash_dst h4).1 d hdi).2
  have hdN : ∀ x, oi.dst = some x → x < a.tmps.size := fun x hx => by
    rw [M.size]
    exact hN oi (by rw [← Array.getElem?_toList] at hi; exact List.mem_of_getElem? hi) x hx
  -- what is known when it is done
  have fin : ∀ v w' o' ρ', WF C w' ⟨R, o', ρ'⟩ → HRel w' ⟨R, o', ρ'⟩ (hU mt ops S E (upL L i) ops.size) → (∀ id k, ρ id = some k → ρ' id = some k) → (∀ id k, ρ' id = some k → ρ id = some k ∨ ((S i).n ≤ id ∧ id < (S i).n + (eff E i).cnt)) →
      XRel w' R ρ' v (eff E i).v → (∀ b, R b → w'.heap[b]? = w.heap[b]?) → K (a.put oi.dst v) w' := by
    intro v w' o' ρ' W' H' h1 h2 hv h3
    refine hK _ _ ⟨by rw [put_size]; exact M.size, by rw [← M.defers]; cases oi.dst <;> rfl, ⟨o', ρ', W', H', fun t => ?_, fun id k hk => ?_, fun id hid => ?_, hpin.2⟩, fun b hb => (h3 b hb).trans (M.keep b hb)⟩
    · rw [put_get a oi.dst v t hdN, hown]
      split
      · exact hv
      · exact (hx t).mono (fun b hb => ⟨hb, h3 b hb⟩) h1
    · rcases h2 id k hk with h4 | h4
      · rcases hρ id k h4 with h5 | ⟨j, hj, hLj, h5⟩
        · exact .inl h5
        · exact .inr ⟨j, hj, by simp only [upL]; split <;> simp_all, h5⟩
      · exact .inr ⟨i, hin, by simp [upL], h4.1, by rw [T.n hin]; exact h4.2⟩
    · rw [← hpin.1 id hid]
      cases hr : ρ id with
      | some k => exact h1 id k hr
      | none =>
        cases hr' : ρ' id with
        | none => rfl
        | some k =>
          exfalso
          rcases h2 id k hr' with h4 | h4
          · rw [hr] at h4; cases h4
          · have := T.nle (show 0 ≤ i by omega) (by omega)
            have := hpin.2
            omega
  have hW : isW mt ops i = true → (∀ k, k < i → isW mt ops k = true → L k = true) ∧ ∀ k, i < k → k < ops.size → L k = true → isW mt ops k = false := by
    intro hw
    have hwi : wrM mt oi.op = true := by simpa [isW, hi] using hw
    have htw : ∀ x : Op, wrM mt x = true → touch x = true := by
      intro x hx
      cases x with
      | call cl =>
        obtain ⟨ce, args, ts⟩ := cl
        cases ce with
        | builtin b => cases b <;> simp_all [wrM, isCallV, writes, touch]
        | value => rfl
        | invoke => simp [wrM, isCallV, writes] at hx
      | _ => first | rfl | (simp [wrM, isCallV, writes] at hx; done)
    refine ⟨fun k hk hwk => ?_, fun k hk hk2 hLk => ?_⟩
    · have hks : k < ops.size := by omega
      have hg := Array.getElem?_eq_getElem hks
      have hwk' : wrM mt (ops[k]).op = true := by simpa [isW, hg] using hwk
      refine hA k _ hk hg ?_
      simp only [clash, Bool.or_eq_true, Bool.and_eq_true]
      left; right
      exact ⟨hwk', htw _ hwi⟩
    · have hg := Array.getElem?_eq_getElem hk2
      have h1 := hB k _ hk hg hLk
      have h2 := (clash_dst h1).2.2.1 hwi
      cases hwk : isW mt ops k with
      | false => rfl
      | true =>
        have hwk' : wrM mt (ops[k]).op = true := by simpa [isW, hg] using hwk
        rw [htw _ hwk'] at h2; cases h2
  have hhU := hU_upL T hin hL hW
  -- the guard
  have hguard : ∀ b, wantA ops oi (S i) = some b → Region.wanted oi (yielded ops a.tmps) = b := by
    intro b hb
    unfold wantA at hb
    unfold Region.wanted
    split at hb
    · rename_i hg
      rw [hg]; simpa using hb
    · rename_i j want hg
      rw [hg]
      split at hb
      · rename_i t ht
        split at hb
        · rename_i bb hbb
          have h1 := hx t
          rw [hslot t (guard_reads hg ht), hbb] at h1
          have h2 := h1.val_eq.1
          have h3 : a.tmps[t]? = some (.bool bb) := by
            cases hh : a.tmps[t]? with
            | none => simp [hh, undef] at h2
            | some x => simp [hh] at h2; rw [h2]
          simp only [yielded, ht, Option.bind_some, h3]
          simp only [Option.some.injEq] at hb
          rw [← hb]
          cases bb <;> cases want <;> rfl
        · cases hb
      · cases hb
  have hrun := T.run i oi hi
  unfold wpOp
  rw [hi]
  simp only
  cases hE : E i with
  | none =>
    rw [hE] at hrun
    rw [hguard false hrun.1]
    simp only [Bool.false_eq_true, if_false]
    have heff : eff E i = { v := .bot } := by simp [eff, hE]
    refine fin undef w o ρ W ?_ (fun _ _ h => h) (fun _ _ h => .inl h) (by rw [heff]; exact .bot) (fun _ _ => rfl)
    rw [hhU, heff]
    cases isW mt ops i <;> simpa [happ_nil] using H
  | some e =>
    rw [hE] at hrun
    obtain ⟨hwant, hop, _⟩ := hrun
    have heff : eff E i = e := by simp [eff, hE]
    rw [hguard true hwant]
    simp only [if_true]
    left
    -- the operands, and no other slot
    let ev : Operand → AV := fun x => if x ∈ oi.op.operands then (S i).ev x else .bot
    have hev : ∀ x, XRel w R ρ (a.eval x) (ev x) := by
      intro x
      simp only [ev]
      split
      · rename_i hmem
        cases x with
        | tmp t =>
          have := hx t
          rw [hslot t (tmp_reads hmem)] at this
          exact this
        | const v =>
          simp only [St.ev, cst, Act.eval]
          split
          · rename_i hsc; exact .r (.val (scB_sc hsc))
          · exact .bot
        | global => exact .bot
        | func f => exact .fn (by simp) (fun k hk => by simp at hk)
      · exact .bot
    have hop1 : AOp P mt oi.op ev (S i).hp (S i).n e := hop.congr fun x hx => by simp only [ev]; rw [if_pos hx]
    -- the blocks: as in the text's order if the operation looks at them at all
    have hop2 : AOp P mt oi.op ev (hU mt ops S E L ops.size) (S i).n e ∧ (∀ p ∈ e.new, hU mt ops S E L ops.size p.1 = some p.2) := by
      cases ht : touch oi.op with
      | false =>
        have hc := hop1.calm ht
        exact ⟨hc.2 _, by rw [hc.1.2.2.1]; simp⟩
      | true =>
        have e1 : hU mt ops S E L ops.size = HS S E ops.size i := by
          rw [hU_past L i ops.size (by omega) fun k hk1 hk2 hk3 => ?_]
          · refine hU_at T L i (by omega) fun k hk hwk => ?_
            have hks : k < ops.size := by omega
            have hg := Array.getElem?_eq_getElem hks
            have hwk' : wrM mt (ops[k]).op = true := by simpa [isW, hg] using hwk
            refine hA k _ hk hg ?_
            simp only [clash, Bool.or_eq_true, Bool.and_eq_true]
            left; right
            exact ⟨hwk', ht⟩
          · by_cases hki : k = i
            · subst hki; rw [hL] at hk3; cases hk3
            · have hg := Array.getElem?_eq_getElem hk2
              have h1 := hB k _ (by omega) hg hk3
              cases hwk : isW mt ops k with
              | false => rfl
              | true =>
                have hwk' : wrM mt (ops[k]).op = true := by simpa [isW, hg] using hwk
                have := (clash_dst h1).2.2.2 hwk'
                rw [ht] at this; cases this
        have hok := T.all i (by omega)
        refine ⟨?_, fun p hp => ?_⟩
        · rw [e1]
          refine hop1.up (fun id x hid => ?_) fun id hid => ?_
          · have hid' : look id (S i).h = some x := hid
            simp only [HS, hid']
          · simp only [HS, St.hp]
            cases hh : look id (S i).h with
            | some x => rfl
            | none =>
              cases hl : look id (later E i (ops.size - i)) with
              | none => rfl
              | some x =>
                obtain ⟨p, hp, hpe⟩ := List.mem_map.1 (look_some hl)
                have := (later_ge T (ops.size - i) i (by omega) p hp).1
                omega
        · rw [e1]
          have hfe : e.fine (S i).n := by rw [← heff]; exact hf
          have hlt := (hfe.new p hp).1
          have hnone : look p.1 (S i).h = none := by
            cases hh : look p.1 (S i).h with
            | none => rfl
            | some x => have := hok _ _ hh; omega
          simp only [HS, hnone]
          have hlat : later E i (ops.size - i) = (eff E i).new ++ later E (i + 1) (ops.size - (i + 1)) := by
            rw [show ops.size - i = (ops.size - (i + 1)) + 1 by omega]; rfl
          rw [hlat, look_append, heff, look_mem hfe.nodup hp]
    have hfr : ∀ id, (S i).n ≤ id → id < (S i).n + e.cnt → ρ id = none := by
      intro id h1 h2
      cases hh : ρ id with
      | none => rfl
      | some k =>
        have hni := T.n hin
        rw [heff] at hni
        rcases hρ id k hh with h3 | ⟨j, hj, hLj, h3, h4⟩
        · have := T.nle (show 0 ≤ i by omega) (by omega)
          omega
        · rcases Nat.lt_trichotomy j i with hji | hji | hji
          · have := T.nle (show j + 1 ≤ i by omega) (by omega); omega
          · subst hji; rw [hL] at hLj; cases hLj
          · have := T.nle (show i + 1 ≤ j by omega) (by omega); omega
    have hlim : wrM mt oi.op = true → ∀ id k, ρ id = some k → id < (S i).n := by
      intro hw id k hk
      rcases hρ id k hk with h3 | ⟨j, hj, hLj, h3, h4⟩
      · exact Nat.lt_of_lt_of_le h3 (T.nle (by omega) (by omega))
      · rcases Nat.lt_trichotomy j i with hji | hji | hji
        · have := T.nle (show j + 1 ≤ i by omega) (by omega); omega
        · subst hji; rw [hL] at hLj; cases hLj
        · have hg := Array.getElem?_eq_getElem hj
          have h5 := (clash_dst (hB j _ hji hg hLj)).2.2.1 hw
          have h6 := (T.step hg).2.2.2 h5
          have := T.n hj
          rw [h6.2.2.2] at this
          omega
    have hstep := hop2.1.step hlim hev W H hop2.2 hfr
    refine hstep K Q fun v w' o' ρ' W' H' h1 h2 hv h3 => ?_
    have hv' : XRel w' R ρ' v (eff E i).v := by rw [heff]; exact hv
    refine fin v w' o' ρ' W' ?_ h1 (by rw [heff]; exact h2) hv' h3
    rw [hhU, heff]
    cases hw : isW mt ops i with
    | true => exact H'
    | false =>
      have hwf : wrM mt oi.op = false := by simpa [isW, hi] using hw
      have := hnw hwf
      rw [heff] at this
      rw [happ_nil this.1 this.2] at H'
      rw [cond_false, happ_nil rfl rfl]
      exact H'

end
end Go.Vc

/- Regions, whole. -/
namespace Go.Vc
open Go

/-- The machine's frame and memory, and the abstract state. -/
structure Rel (C : Ctx) (R : Nat → Prop) (N : Nat) (a : Act) (w : World) (st : St) : Prop where
  size : a.tmps.size = N
  defers : a.defers = []
  ok : st.ok
  ex : ∃ o ρ, WF C w ⟨R, o, ρ⟩ ∧ HRel w ⟨R, o, ρ⟩ st.hp ∧ (∀ t, XRel w R ρ (a.tmps.getD t undef) (st.get t)) ∧ (∀ id k, ρ id = some k → id < st.n) ∧ (∀ id, id < C.n0 → ρ id = C.ρ0 id) ∧ C.n0 ≤ st.n

theorem Rel.drew {C : Ctx} {R : Nat → Prop} {N : Nat} {a : Act} {w : World} {st : St} (h : Rel C R N a w st) : Rel C R N a w.drew st := by
  obtain ⟨h1, h2, h3, o, ρ, W, H, hx, hρ⟩ := h
  exact ⟨h1, h2, h3, o, ρ, W.drew, H.heap_eq rfl, fun t => XRel.mono (w := w) (w' := w.drew) (fun b hb => ⟨hb, rfl⟩) (fun _ _ h => h) (hx t), hρ⟩

section
variable {P : Program} {mt : Bool} {ops : Array Oper} {S : Nat → St} {E : Nat → Option Eff} {C : Ctx} {R : Nat → Prop} {N : Nat}

/-- More blocks, under names that are not yet given. -/
theorem HRel.grow {w : World} {g : Gh} {h h' : HP} (H : HRel w g h) (hn : ∀ id k, g.ρ id = some k → h' id = h id) : HRel w g h' := by
  have hc : ∀ (d c : Nat) (k : Bk), g.ρ c = some k → cont h' d c = cont h d c := by
    intro d
    induction d with
    | zero => intro c k _; rfl
    | succ d ih =>
      intro c k hk
      unfold cont
      rw [hn c k hk]
      cases he : h c with
      | none => rfl
      | some e =>
        cases e with
        | mix => rfl
        | row => rfl
        | ali c2 i j s =>
          obtain ⟨_, bkc, h2, _⟩ := H.ali c c2 i j s k he hk
          simp only
          rw [hn c2 _ h2, ih c2 _ h2]
  refine ⟨fun id sz es bk he hb => H.mix id sz es bk (by rw [← hn id bk hb]; exact he) hb, fun id sz es bk he hb => H.row id sz es bk (by rw [← hn id bk hb]; exact he) hb, fun id c i k sz bk he hb => ?_⟩
  obtain ⟨h1, bkc, h2, h3⟩ := H.ali id c i k sz bk (by rw [← hn id bk hb]; exact he) hb
  exact ⟨h1, bkc, h2, fun d szc esc hcc hmc hi hk => h3 d szc esc (by rw [← hc d c _ h2]; exact hcc) (by rw [← hn c _ h2]; exact hmc) hi hk⟩

theorem mid_start (T : Tr P mt ops S E) {a : Act} {w : World} (h : Rel C R N a w (S 0)) {L : Nat → Bool} (hL : ∀ k, L k = false) : Mid mt C R N ops S E w L a w := by
  obtain ⟨h1, h2, h3, o, ρ, W, H, hx, hρ, hpin⟩ := h
  have e1 : ∀ m t, envU ops S E L m t = (S 0).get t := by
    intro m t
    induction m with
    | zero => rfl
    | succ m ih => simp only [envU]; rw [if_neg (by simp [hL])]; exact ih
  have e2 : ∀ m, hU mt ops S E L m = HS S E ops.size 0 := by
    intro m
    induction m with
    | zero => rfl
    | succ m ih => simp only [hU]; rw [if_neg (by simp [hL])]; exact ih
  refine ⟨h1, h2, ⟨o, ρ, W, ?_, fun t => by rw [e1]; exact hx t, fun id k hk => .inl (hρ id k hk), hpin⟩, fun _ _ => rfl⟩
  rw [e2]
  refine H.grow (fun id k hk => ?_)
  · have hlt := hρ id k hk
    have hno : look id (later E 0 (ops.size - 0)) = none := by
      cases hl : look id (later E 0 (ops.size - 0)) with
      | none => rfl
      | some x =>
        have := look_ge (fun p hp => (later_ge T (ops.size - 0) 0 (by omega) p hp).1) hl
        omega
    simp only [HS, hno, St.hp]
    cases look id (S 0).h <;> rfl

theorem mid_end (T : Tr P mt ops S E) {a : Act} {w0 w : World} {L : Nat → Bool} (h : Mid mt C R N ops S E w0 L a w) (hL : ∀ k, k < ops.size → L k = true) : Rel C R N a w (S ops.size) := by
  obtain ⟨o, ρ, W, H, hx, hρ, hpin⟩ := h.ex
  refine ⟨h.size, h.defers, T.all _ (Nat.le_refl _), o, ρ, W, ?_, fun t => ?_, fun id k hk => ?_, hpin.1, Nat.le_trans hpin.2 (T.nle (Nat.zero_le _) (Nat.le_refl _))⟩
  · have e1 : hU mt ops S E L ops.size = (S ops.size).hp := by
      rw [hU_at T L ops.size (Nat.le_refl _) fun k hk _ => hL k hk]
      funext id
      simp only [HS, Nat.sub_self, later, look, St.hp]
      cases look id (S ops.size).h <;> rfl
    rw [← e1]; exact H
  · rw [← envU_at T L t ops.size (Nat.le_refl _) fun k hk _ => hL k hk]; exact hx t
  · rcases hρ id k hk with h1 | ⟨j, hj, _, h1, h2⟩
    · have := T.nle (Nat.zero_le ops.size) (Nat.le_refl _); omega
    · have := T.nle (show j + 1 ≤ ops.size by omega) (Nat.le_refl _); omega

theorem okN_spec (h : okN N ops = true) : ∀ o ∈ ops.toList, ∀ d, o.dst = some d → d < N := by
  intro o ho d hd
  unfold okN at h
  simp only [List.all_eq_true] at h
  have := h o ho
  rw [hd] at this
  simpa using this

theorem Mid.congrL {L L' : Nat → Bool} {a : Act} {w0 w : World} (hL : ∀ k, L k = L' k) (h : Mid mt C R N ops S E w0 L a w) : Mid mt C R N ops S E w0 L' a w := by
  have : L = L' := funext hL
  rw [← this]; exact h

/-- In the text's order. -/
theorem region_text (T : Tr P mt ops S E) (hN : okN N ops = true) {id : Nat} {Q : Exit → Act → World → Prop} {a : Act} {w : World} (h : Rel C R N a w (S 0)) (hQ : ∀ a' w', Rel C R N a' w' (S ops.size) → Q .normal a' w') :
    (Code.region id ops false).wp P Q a w := by
  refine wp_region ?_
  have key : ∀ (m k : Nat) (a : Act) (w' : World), k + m = ops.size → Mid mt C R N ops S E w (fun j => decide (j < k)) a w' → wpOps P ops Q (List.range' k m) a w' := by
    intro m
    induction m with
    | zero =>
      intro k a w' hk M
      have : k = ops.size := by omega
      subst this
      exact hQ _ _ (mid_end T M fun j hj => by simpa using hj)
    | succ m ih =>
      intro k a w' hk M
      rw [List.range'_succ, wpOps_cons]
      have hks : k < ops.size := by omega
      refine mid_step T (okN_spec hN) (Array.getElem?_eq_getElem hks) (by simp) (fun j o hj _ _ => by simpa using hj) (fun j o hj _ hLj => by simp at hLj; omega) M fun a' w'' M' => ?_
      refine ih (k + 1) a' w'' (by omega) (M'.congrL fun j => ?_)
      simp only [upL]
      by_cases hjk : j = k
      · subst hjk; simp
      · rw [if_neg hjk]
        by_cases h' : j < k
        · simp [h', show j < k + 1 by omega]
        · simp [h', show ¬ j < k + 1 by omega]
  have := key ops.size 0 a w (by omega) (mid_start T h (L := fun j => decide (j < 0)) (by simp))
  rwa [← List.range_eq_range'] at this

/-- How many are not yet done. -/
def left (L : Nat → Bool) : Nat → Nat
  | 0 => 0
  | m + 1 => left L m + (if L m = true then 0 else 1)

theorem left_zero {L : Nat → Bool} : ∀ m, left L m = 0 → ∀ k, k < m → L k = true := by
  intro m
  induction m with
  | zero => intro _ k hk; omega
  | succ m ih =>
    intro h k hk
    simp only [left] at h
    by_cases hm : L m = true
    · rw [if_pos hm] at h
      by_cases hkm : k = m
      · subst hkm; exact hm
      · exact ih (by omega) k (by omega)
    · rw [if_neg hm] at h; omega

theorem left_up {L : Nat → Bool} {i : Nat} (hL : L i = false) : ∀ m, left (upL L i) m + (if i < m then 1 else 0) = left L m := by
  intro m
  induction m with
  | zero => simp [left]
  | succ m ih =>
    simp only [left]
    by_cases hm : m = i
    · subst hm
      have h1 : upL L m m = true := by simp [upL]
      have h2 : m < m + 1 := by omega
      simp only [Nat.lt_irrefl, if_false, Nat.add_zero] at ih
      simp [h1, hL, h2, ih]
    · have h1 : upL L i m = L m := by simp [upL, hm]
      rw [h1]
      by_cases h2 : i < m
      · have h3 : i < m + 1 := by omega
        simp only [h2, if_true] at ih
        simp only [h3, if_true]
        omega
      · have h3 : ¬ i < m + 1 := by omega
        simp only [h2, if_false] at ih
        simp only [h3, if_false]
        omega

/-- In any order that the edges allow. -/
theorem region_any (T : Tr P mt ops S E) (hN : okN N ops = true) (hreg : okReg mt ops = true) (hback : okBack ops = true) (hm : P.follows .mixedOrders = true) {id : Nat} {Q : Exit → Act → World → Prop} {a : Act} {w : World} (h : Rel C R N a w (S 0))
    (hQ : ∀ a' w', Rel C R N a' w' (S ops.size) → Q .normal a' w') : (Code.region id ops true).wp P Q a w := by
  refine wp_region_any hm ?_
  have key : ∀ (fuel : Nat) (listed : Array Bool) (a : Act) (w' : World), listed.size = ops.size → left (fun k => listed.getD k false) ops.size ≤ fuel →
      (∀ j, listed.getD j false = true → ∀ i, ((masks ops.toList []).getD j 0).testBit i = true → listed.getD i false = true) → Mid mt C R N ops S E w.drew (fun k => listed.getD k false) a w' → wpAny P .any ops Q fuel listed a w' := by
    intro fuel
    induction fuel with
    | zero =>
      intro listed a w' hsz hleft hanc M
      have hall := left_zero _ (show left (fun k => listed.getD k false) ops.size = 0 by omega)
      refine ⟨?_, hQ _ _ (mid_end T M hall)⟩
      cases hr : Region.ready .any ops listed with
      | nil => rfl
      | cons x xs =>
        have hx : x ∈ Region.ready .any ops listed := by rw [hr]; simp
        obtain ⟨hf, o, ho, _⟩ := mem_ready.1 hx
        have hxs := (Array.getElem?_eq_some_iff.1 ho).1
        have h1 : listed.getD x false = true := hall x hxs
        have : listed.getD x true = listed.getD x false := by simp [show x < listed.size by omega]
        rw [this, h1] at hf; cases hf
    | succ fuel ih =>
      intro listed a w' hsz hleft hanc M
      refine ⟨fun hr => ?_, fun i hi => ?_⟩
      · -- none is ready: all are done
        have hall : ∀ k, k < ops.size → listed.getD k false = true := by
          intro k
          induction k using Nat.strongRecOn with
          | _ k ihk =>
            intro hk
            cases hl : listed.getD k false with
            | true => rfl
            | false =>
              have : k ∈ Region.ready .any ops listed := by
                refine mem_ready.2 ⟨?_, ops[k], Array.getElem?_eq_getElem hk, fun e he hb => ?_⟩
                · have : listed.getD k true = listed.getD k false := by simp [show k < listed.size by omega]
                  rw [this, hl]
                · have h1 := hback
                  unfold okBack at h1
                  simp only [List.all_eq_true] at h1
                  have h2 := h1 (ops[k], k) (List.mk_mem_zipIdx_iff_getElem?.2 (by simp [hk])) e (by simpa using he)
                  rw [hb] at h2
                  have hlt : e.on < k := by simpa using h2
                  exact ihk e.on hlt (by omega)
              rw [hr] at this; cases this
        exact hQ _ _ (mid_end T M hall)
      · obtain ⟨hf, oi, hoi, hafter⟩ := mem_ready.1 hi
        have hin := (Array.getElem?_eq_some_iff.1 hoi).1
        have hLi : listed.getD i false = false := by
          have : listed.getD i true = listed.getD i false := by simp [show i < listed.size by omega]
          rw [← this]; exact hf
        -- what stands before it in every order is done
        have hanci : ∀ k, ((masks ops.toList []).getD i 0).testBit k = true → listed.getD k false = true := by
          intro k hk
          obtain ⟨o', ho', e, he, hb, hx⟩ := masks_bit ops.toList [] i k (by simp) hk
          have hoo : o' = oi := by
            simp only [List.length_nil, Nat.sub_zero] at ho'
            rw [Array.getElem?_toList, hoi] at ho'
            simpa using ho'.symm
          subst hoo
          have h1 := hafter e (by simpa using he) hb
          rcases hx with hx | ⟨_, hx⟩
          · rw [← hx]; exact h1
          · exact hanc _ h1 _ hx
        refine mid_step T (okN_spec hN) hoi hLi (fun k o hk ho hc => hanci k (okReg_spec hreg hk ho hoi hc)) (fun k o hk ho hLk => ?_) M fun a' w'' M' => ?_
        · cases hcl : clash mt ops oi o with
          | false => rfl
          | true =>
            have := hanc k hLk i (okReg_spec hreg hk hoi ho hcl)
            rw [hLi] at this; cases this
        · have hset : ∀ k, (listed.setIfInBounds i true).getD k false = upL (fun k => listed.getD k false) i k := by
            intro k
            simp only [upL]
            by_cases hk : k = i
            · subst hk; simp [show k < listed.size by omega]
            · rw [if_neg hk, getD_set_ne false (Ne.symm hk)]
          refine ih _ a' w'' (by simpa using hsz) ?_ ?_ (M'.congrL fun k => (hset k).symm)
          · have h1 := left_up (L := fun k => listed.getD k false) hLi ops.size
            rw [if_pos hin] at h1
            have h2 : left (fun k => (listed.setIfInBounds i true).getD k false) ops.size = left (upL (fun k => listed.getD k false) i) ops.size := by
              congr 1; funext k; exact hset k
            omega
          · intro j hj k hk
            rw [hset] at hj ⊢
            simp only [upL] at hj ⊢
            by_cases hki : k = i
            · rw [if_pos hki]
            · rw [if_neg hki]
              by_cases hji : j = i
              · subst hji; exact hanci k hk
              · rw [if_neg hji] at hj; exact hanc j hj k hk
  refine key ops.size _ a _ (by simp) ?_ ?_ ?_
  · have : ∀ m, left (fun k => (Array.replicate ops.size false).getD k false) m ≤ m := by
      intro m
      induction m with
      | zero => simp [left]
      | succ m ih => simp only [left]; split <;> omega
    exact this _
  · intro j hj
    exfalso
    by_cases hjs : j < ops.size
    · simp [hjs] at hj
    · simp [hjs] at hj
  · refine mid_start T h.drew fun k => ?_
    by_cases hk : k < ops.size
    · simp [hk]
    · simp [hk]

end
end Go.Vc

/- The rules: code on abstract states. -/
namespace Go.Vc
open Go

/-- A call's frame. -/
structure Fx where
  C : Ctx
  R : Nat → Prop
  N : Nat
  /-- names below this stay -/
  pins : Nat := 0
  hpin : C.n0 = pins

def conc (F : Fx) (AQ : Exit → St → Prop) : Exit → Act → World → Prop := fun e a w => ∃ st, Rel F.C F.R F.N a w st ∧ AQ e st

/-- From the abstract state st the code comes to AQ. -/
def Wp (P : Program) (F : Fx) (c : Code) (AQ : Exit → St → Prop) (st : St) : Prop := ∀ a w, Rel F.C F.R F.N a w st → c.wp P (conc F AQ) a w

def thenA (K : St → Prop) (AQ : Exit → St → Prop) : Exit → St → Prop
  | .normal, st => K st
  | e, st => AQ e st

def blockA (id : Nat) (AQ : Exit → St → Prop) : Exit → St → Prop
  | .exit i, st => if i = id then AQ .normal st else AQ (.exit i) st
  | e, st => AQ e st

/-- The operations, in the text's order. -/
def goOps (P : Program) (mt : Bool) (all : Array Oper) : List Oper → St → (St → Prop) → Prop
  | [], st, K => K st
  | o :: os, st, K => (wantA all o st = some true ∧ ∃ e, AOp P mt o.op st.ev st.hp st.n e ∧ goOps P mt all os (st.app o.dst e) K) ∨ (wantA all o st = some false ∧ goOps P mt all os (st.app o.dst { v := .bot }) K)

theorem goOps_trace {P : Program} {mt : Bool} (all : Array Oper) : ∀ (os : List Oper) (st : St) (K : St → Prop), goOps P mt all os st K → ∃ (S : Nat → St) (E : Nat → Option Eff), S 0 = st ∧ K (S os.length) ∧
    ∀ k o, os[k]? = some o → match E k with
      | some e => wantA all o (S k) = some true ∧ AOp P mt o.op (S k).ev (S k).hp (S k).n e ∧ S (k + 1) = (S k).app o.dst e
      | none => wantA all o (S k) = some false ∧ S (k + 1) = (S k).app o.dst { v := .bot } := by
  intro os
  induction os with
  | nil => intro st K h; exact ⟨fun _ => st, fun _ => none, rfl, h, fun k o ho => by simp at ho⟩
  | cons o os ih =>
    intro st K h
    rcases h with ⟨hw, e, hop, h⟩ | ⟨hw, h⟩
    · obtain ⟨S, E, h1, h2, h3⟩ := ih _ K h
      refine ⟨fun k => match k with | 0 => st | k + 1 => S k, fun k => match k with | 0 => some e | k + 1 => E k, rfl, h2, fun k o' ho => ?_⟩
      cases k with
      | zero => simp at ho; subst ho; exact ⟨hw, hop, h1⟩
      | succ k => exact h3 k o' (by simpa using ho)
    · obtain ⟨S, E, h1, h2, h3⟩ := ih _ K h
      refine ⟨fun k => match k with | 0 => st | k + 1 => S k, fun k => match k with | 0 => none | k + 1 => E k, rfl, h2, fun k o' ho => ?_⟩
      cases k with
      | zero => simp at ho; subst ho; exact ⟨hw, h1⟩
      | succ k => exact h3 k o' (by simpa using ho)

section
variable {P : Program} {mt : Bool} {F : Fx} {AQ : Exit → St → Prop} {st : St}

theorem w_seq {x y : Code} (h : Wp P F x (thenA (Wp P F y AQ) AQ) st) : Wp P F (.seq x y) AQ st := by
  intro a w hr
  refine wp_seq (wp_mono (h a w hr) fun e a w he => ?_)
  obtain ⟨st', h1, h2⟩ := he
  cases e with
  | normal => exact h2 a w h1
  | _ => exact ⟨st', h1, h2⟩

theorem w_skip (h : AQ .normal st) : Wp P F .skip AQ st := fun a w hr => wp_skip ⟨st, hr, h⟩
theorem w_ret (h : AQ .ret st) : Wp P F .ret AQ st := fun a w hr => wp_ret ⟨st, hr, h⟩
theorem w_exit {id : Nat} (h : AQ (.exit id) st) : Wp P F (.exit id) AQ st := fun a w hr => wp_exit ⟨st, hr, h⟩

theorem w_block {id : Nat} {c : Code} (h : Wp P F c (blockA id AQ) st) : Wp P F (.block id c) AQ st := by
  intro a w hr
  refine wp_block (wp_mono (h a w hr) fun e a w he => ?_)
  obtain ⟨st', h1, h2⟩ := he
  cases e with
  | exit i =>
    simp only [blockA] at h2
    simp only [Exit.inBlock]
    split
    · rename_i hi; rw [if_pos hi] at h2; exact ⟨st', h1, h2⟩
    · rename_i hi; rw [if_neg hi] at h2; exact ⟨st', h1, h2⟩
  | _ => exact ⟨st', h1, h2⟩

theorem ev_rel {a : Act} {w : World} (hr : Rel F.C F.R F.N a w st) (x : Operand) {v : Value} (hx : st.ev x = .val v) : a.eval x = v := by
  obtain ⟨_, _, _, o, ρ, _, _, hs, _⟩ := hr
  cases x with
  | tmp t => have := hs t; rw [show st.get t = .val v from hx] at this; exact this.val_eq.1
  | const u =>
    simp only [St.ev, cst] at hx
    split at hx
    · simp only [AV.val.injEq] at hx; exact hx
    · cases hx
  | global => cases hx
  | func => cases hx

theorem w_cond {c : Operand} {x y : Code} {b : Bool} (hc : st.ev c = .val (.bool b)) (h1 : b = true → Wp P F x AQ st) (h2 : b = false → Wp P F y AQ st) : Wp P F (.cond c x y) AQ st := by
  intro a w hr
  exact wp_cond_split (ev_rel hr c hc) (fun hb => h1 hb a w hr) (fun hb => h2 hb a w hr)

theorem w_region {id : Nat} {ops : Array Oper} {d : Bool} (hm : P.follows .mixedOrders = true) (hok : (okN F.N ops && (!d || (okReg mt ops && okBack ops))) = true)
    (h : ∀ K : St → Prop, (∀ st', AQ .normal st' → K st') → goOps P mt ops ops.toList st K) : Wp P F (.region id ops d) AQ st := by
  intro a w hr
  obtain ⟨S, E, h0, hend, htr⟩ := goOps_trace ops _ _ _ (h (AQ .normal) fun _ h => h)
  subst h0
  have T : Tr P mt ops S E := ⟨hr.ok, fun k o ho => htr k o (by simpa using ho)⟩
  simp only [Bool.and_eq_true, Bool.or_eq_true, Bool.not_eq_true'] at hok
  have hend' : AQ .normal (S ops.size) := by simpa using hend
  cases d with
  | false => exact region_text T hok.1 hr fun a' w' h' => ⟨_, h', hend'⟩
  | true =>
    have := hok.2.resolve_left (by simp)
    exact region_any T hok.1 this.1 this.2 hm hr fun a' w' h' => ⟨_, h', hend'⟩

/-- Less is known. -/
def Wk (F : Fx) (st st' : St) : Prop := ∀ a w, Rel F.C F.R F.N a w st → Rel F.C F.R F.N a w st'

theorem w_weak {c : Code} {st' : St} (hk : Wk F st st') (h : Wp P F c AQ st') : Wp P F c AQ st := fun a w hr => h a w (hk a w hr)

/-- A round's end. -/
def roundA {α : Type} (F : Fx) (S : α → St) (I : α → Prop) (m : α → Nat) (x : α) (AQ : Exit → St → Prop) : Exit → St → Prop
  | .normal, st => ∃ y, I y ∧ m y < m x ∧ Wk F st (S y)
  | e, st => AQ e st

theorem w_loop {α : Type} (S : α → St) (I : α → Prop) (m : α → Nat) (x0 : α) {c : Code} (h0 : I x0) (hk : Wk F st (S x0)) (round : ∀ x, I x → Wp P F c (roundA F S I m x AQ) (S x)) : Wp P F (.loop c) AQ st := by
  intro a w hr b k cs
  have key : ∀ (n : Nat) (x : α) (a : Act) (w : World), m x = n → I x → Rel F.C F.R F.N a w (S x) →
      ∃ e a' w', conc F AQ e a' w' ∧ Arrives P (lone (b.at a (.code c :: .inLoop c :: k)) cs w) b k cs e a' w' := by
    intro n
    induction n using Nat.strongRecOn with
    | _ n ih =>
      intro x a w hn hI hrel
      obtain ⟨e, a₁, w₁, ⟨st₁, hr₁, hq⟩, harr⟩ := round x hI a w hrel b (.inLoop c :: k) cs
      cases e with
      | normal =>
        obtain ⟨y, hIy, hlt, hwk⟩ := hq
        obtain ⟨e₂, a₂, w₂, hq₂, harr₂⟩ := ih (m y) (hn ▸ hlt) y a₁ w₁ rfl hIy (hwk _ _ hr₁)
        exact ⟨e₂, a₂, w₂, hq₂, .of_steps (Steps.trans harr (.one step_inLoop)) harr₂⟩
      | exit id => exact ⟨_, a₁, w₁, ⟨st₁, hr₁, hq⟩, .pass (x := .inLoop c) rfl (fun _ _ => .inl (by simp)) harr⟩
      | goto l => exact ⟨_, a₁, w₁, ⟨st₁, hr₁, hq⟩, .pass (x := .inLoop c) rfl (fun _ _ => .inl (by simp)) harr⟩
      | ret => exact ⟨_, a₁, w₁, ⟨st₁, hr₁, hq⟩, .pass (x := .inLoop c) rfl (fun _ _ => .inl (by simp)) harr⟩
      | panic ch => exact ⟨_, a₁, w₁, ⟨st₁, hr₁, hq⟩, .pass (x := .inLoop c) rfl (fun _ _ => .inl (by simp)) harr⟩
      | outgrown => exact ⟨_, a₁, w₁, ⟨st₁, hr₁, hq⟩, .pass (x := .inLoop c) rfl (fun _ _ => .inl (by simp)) harr⟩
  obtain ⟨e, a', w', hq, harr⟩ := key _ x0 a w rfl h0 (hk a w hr)
  exact ⟨e, a', w', hq, .of_steps (.one step_loop) harr⟩

/-- Slots are forgotten; names too. -/
theorem Wk.cut {st st' : St} (hs : ∀ p ∈ st'.s, st.get p.1 = p.2 ∨ p.2 = .bot) (hh : st'.h = st.h) (hn : st'.n = st.n) : Wk F st st' := by
  intro a w hr
  obtain ⟨h1, h2, h3, o, ρ, W, H, hx, hρ⟩ := hr
  have hp : st'.hp = st.hp := by funext id; simp only [St.hp, hh]
  refine ⟨h1, h2, fun id x hx => by rw [hh] at hx; rw [hn]; exact h3 id x hx, o, ρ, W, by rw [hp]; exact H, fun t => ?_, by rw [hn]; exact hρ.1, hρ.2.1, by rw [hn]; exact hρ.2.2⟩
  cases hl : look t st'.s with
  | none => simp only [St.get, hl, Option.getD_none]; exact .bot
  | some v =>
    simp only [St.get, hl, Option.getD_some]
    have : ∃ p ∈ st'.s, p = (t, v) := by
      have go : ∀ (s : List (Nat × AV)), look t s = some v → (t, v) ∈ s := by
        intro s
        induction s with
        | nil => intro h; cases h
        | cons p r ih =>
          obtain ⟨i, x⟩ := p
          intro h
          simp only [look] at h
          split at h
          · rename_i hi; subst hi; cases h; simp
          · exact List.mem_cons_of_mem _ (ih h)
      exact ⟨_, go _ hl, rfl⟩
    obtain ⟨p, hp, rfl⟩ := this
    rcases hs _ hp with h | h
    · have := hx t; rw [h] at this; exact this
    · simp only at h; rw [h]; exact .bot

end
end Go.Vc

/- Names are changed, forgotten. -/
namespace Go.Vc
open Go

mutual
def rl (m : List (Nat × Nat)) : AV → AV
  | .own id off n => match look id m with | some j => .own j off n | none => .bot
  | .adr id i k => match look id m with | some j => .adr j i k | none => .bot
  | .agg cs => .agg (rlL m cs)
  | .tup vs => .tup (rlL m vs)
  | .fn f cs => .fn f (rlL m cs)
  | .val v => .val v
  | .lst u sz es => .lst u sz es
  | .rptr cs => .rptr cs
  | .bot => .bot
def rlL (m : List (Nat × Nat)) : List AV → List AV
  | [] => []
  | a :: r => rl m a :: rlL m r
end

def rlLL (m : List (Nat × Nat)) : List (List AV) → List (List AV)
  | [] => []
  | a :: r => rlL m a :: rlLL m r

def rlE (m : List (Nat × Nat)) : Ent → Option Ent
  | .mix sz es => some (.mix sz (rlLL m es))
  | .row sz es => some (.row sz es)
  | .ali c i k sz => match look c m with | some d => some (.ali d i k sz) | none => none

theorem rlL_length (m : List (Nat × Nat)) : ∀ as, (rlL m as).length = as.length := by
  intro as
  induction as with
  | nil => rfl
  | cons a r ih => simp [rlL, ih]

theorem rlL_getD (m : List (Nat × Nat)) : ∀ (as : List AV) (k : Nat), (rlL m as).getD k .bot = rl m (as.getD k .bot) := by
  intro as
  induction as with
  | nil => intro k; simp [rlL, rl]
  | cons a r ih =>
    intro k
    cases k with
    | zero => simp [rlL]
    | succ k => simpa [rlL] using ih k

theorem rlLL_length (m : List (Nat × Nat)) : ∀ es, (rlLL m es).length = es.length := by
  intro es
  induction es with
  | nil => rfl
  | cons a r ih => simp [rlLL, ih]

theorem rlLL_getD (m : List (Nat × Nat)) : ∀ (es : List (List AV)) (k : Nat), (rlLL m es).getD k [] = rlL m (es.getD k []) := by
  intro es
  induction es with
  | nil => intro k; simp [rlLL, rlL]
  | cons a r ih =>
    intro k
    cases k with
    | zero => simp [rlLL]
    | succ k => simpa [rlLL] using ih k

theorem look_of_mem {α : Type} {l : List (Nat × α)} {k : Nat} {v : α} (h : look k l = some v) : (k, v) ∈ l := by
  induction l with
  | nil => cases h
  | cons p r ih =>
    obtain ⟨i, x⟩ := p
    simp only [look] at h
    split at h
    · rename_i hi; subst hi; cases h; simp
    · exact List.mem_cons_of_mem _ (ih h)

def back (m : List (Nat × Nat)) : List (Nat × Nat) := m.map fun p => (p.2, p.1)

theorem back_look {m : List (Nat × Nat)} (h2 : (m.map Prod.snd).Nodup) {i j : Nat} (h : look i m = some j) : look j (back m) = some i := by
  have : ((back m).map Prod.fst).Nodup := by simpa [back, List.map_map, Function.comp_def] using h2
  exact look_mem this (p := (j, i)) (List.mem_map.2 ⟨(i, j), look_of_mem h, rfl⟩)

def rlρ (m : List (Nat × Nat)) (ρ : Nat → Option Bk) : Nat → Option Bk := fun j => match look j (back m) with | some i => ρ i | none => none

def rlo (m : List (Nat × Nat)) (o : Nat → Option (List Nat)) : Nat → Option (List Nat) := fun b => match o b with
  | some (x :: M) => match look x m with | some j => some (j :: M) | none => none
  | _ => none

theorem rl_rrel {w : World} {R : Nat → Prop} {m : List (Nat × Nat)} {v : Value} {a : AV} (h : RRel w R v a) : RRel w R v (rl m a) := by
  induction h with
  | val h => simp only [rl]; exact .val h
  | nil h => simp only [rl]; exact .nil h
  | lst us a1 a2 a3 a4 a5 a6 a7 a8 => simp only [rl]; exact .lst us a1 a2 a3 a4 a5 a6 a7 a8
  | rptr us a1 a2 a3 a4 a5 => simp only [rl]; exact .rptr us a1 a2 a3 a4 a5
  | fn a1 _ ih =>
    simp only [rl]
    refine .fn (by rw [rlL_length]; exact a1) fun k hk => ?_
    rw [rlL_length] at hk
    rw [rlL_getD]
    exact ih k hk

theorem rl_rel {w : World} {R : Nat → Prop} {ρ : Nat → Option Bk} {m : List (Nat × Nat)} (h2 : (m.map Prod.snd).Nodup) {v : Value} {a : AV} (h : XRel w R ρ v a) : XRel w R (rlρ m ρ) v (rl m a) := by
  have hρ : ∀ i j, look i m = some j → rlρ m ρ j = ρ i := fun i j hij => by simp only [rlρ, back_look h2 hij]
  induction h with
  | r h => exact .r (rl_rrel h)
  | @own0 id sz cap h =>
    simp only [rl]
    cases hl : look id m with
    | none => exact .bot
    | some j => exact .own0 (by rw [hρ _ _ hl]; exact h)
  | @own id b sz cap off n c x h a1 a2 a3 a4 a5 =>
    simp only [rl]
    cases hl : look id m with
    | none => exact .bot
    | some j => exact .own (by rw [hρ _ _ hl]; exact h) a1 a2 a3 a4 a5
  | @adr id b sz cap i k h =>
    simp only [rl]
    cases hl : look id m with
    | none => exact .bot
    | some j => exact .adr (by rw [hρ _ _ hl]; exact h)
  | agg a1 a2 _ ih =>
    simp only [rl]
    exact .agg (by rw [rlL_length]; exact a1) (fun k hk => by rw [rlL_length] at hk; exact a2 k hk) fun k hk => by
      rw [rlL_length] at hk
      rw [rlL_getD]; exact ih k hk
  | tup a1 _ ih =>
    simp only [rl]
    exact .tup (by rw [rlL_length]; exact a1) fun k hk => by
      rw [rlL_length] at hk
      rw [rlL_getD]; exact ih k hk
  | fn a1 _ ih =>
    simp only [rl]
    exact .fn (by rw [rlL_length]; exact a1) fun k hk => by
      rw [rlL_length] at hk
      rw [rlL_getD]; exact ih k hk
  | bot => simp only [rl]; exact .bot

theorem back_of {m : List (Nat × Nat)} (h1 : (m.map Prod.fst).Nodup) {i j : Nat} (h : look j (back m) = some i) : look i m = some j := by
  have hm := look_of_mem h
  obtain ⟨p, hp, he⟩ := List.mem_map.1 hm
  simp only [Prod.mk.injEq] at he
  obtain ⟨rfl, rfl⟩ := he
  exact look_mem h1 hp

theorem look_inj {m : List (Nat × Nat)} (h2 : (m.map Prod.snd).Nodup) {i i' j : Nat} (h : look i m = some j) (h' : look i' m = some j) : i = i' := by
  have a := back_look h2 h
  have b := back_look h2 h'
  rw [a] at b; simpa using b

/-- Names are changed, and forgotten; slots too. -/
theorem Wk.relabel {F : Fx} {st st' : St} (m : List (Nat × Nat)) (h1 : (m.map Prod.fst).Nodup) (h2 : (m.map Prod.snd).Nodup) (hpin : ∀ id, id < F.pins → look id m = some id) (hn : ∀ p ∈ m, p.2 < st'.n)
    (hok : ∀ p ∈ st'.h, p.1 < st'.n) (hs : ∀ p ∈ st'.s, p.2 = rl m (st.get p.1) ∨ p.2 = .bot) (hh : ∀ p ∈ st'.h, ∃ i e, look i m = some p.1 ∧ look i st.h = some e ∧ rlE m e = some p.2) : Wk F st st' := by
  intro a w hr
  obtain ⟨r1, r2, r3, o, ρ, W, H, hx, hρ, hp⟩ := hr
  have hent : ∀ id' e', st'.hp id' = some e' → ∃ i e, look i m = some id' ∧ st.hp i = some e ∧ rlE m e = some e' := fun id' e' h => hh (id', e') (look_of_mem h)
  have hρ' : ∀ j bk, rlρ m ρ j = some bk → ∃ i, look i m = some j ∧ ρ i = some bk := by
    intro j bk h
    simp only [rlρ] at h
    split at h
    · rename_i i hi; exact ⟨i, back_of h1 hi, h⟩
    · cases h
  have hρ1 : ∀ i j, look i m = some j → rlρ m ρ j = ρ i := fun i j hij => by simp only [rlρ, back_look h2 hij]
  have ho1 : ∀ b i j M, look i m = some j → o b = some (i :: M) → rlo m o b = some (j :: M) := by
    intro b i j M hij hb
    simp only [rlo, hb, hij]
  have ho2 : ∀ b L, rlo m o b = some L → ∃ L', o b = some L' := by
    intro b L hb
    simp only [rlo] at hb
    split at hb
    · rename_i h; exact ⟨_, h⟩
    · cases hb
  have hcont : ∀ (d c c' : Nat) (x : Nat × List (List AV)), look c m = some c' → isMixE (st'.hp c') = false → cont st'.hp d c' = some x → cont st.hp d c = some x ∧ isMixE (st.hp c) = false := by
    intro d
    induction d with
    | zero => intro c c' x _ _ hx; cases hx
    | succ d ih =>
      intro c c' x hc hm hx
      unfold cont at hx ⊢
      cases he' : st'.hp c' with
      | none => simp [he'] at hx
      | some e' =>
        obtain ⟨i, e, g1, g2, g3⟩ := hent c' e' he'
        have := look_inj h2 g1 hc
        subst this
        rw [g2]
        rw [he'] at hx hm
        cases e with
        | mix sz es => simp only [rlE, Option.some.injEq] at g3; subst g3; cases hm
        | row sz es => simp only [rlE, Option.some.injEq] at g3; subst g3; exact ⟨hx, rfl⟩
        | ali c2 i2 k2 s2 =>
          simp only [rlE] at g3
          split at g3
          · rename_i d2 hd2
            simp only [Option.some.injEq] at g3
            subst g3
            simp only at hx ⊢
            split at hx
            · cases hx
            · rename_i hm2
              cases hc2 : cont st'.hp d d2 with
              | none => simp [hc2] at hx
              | some p =>
                obtain ⟨q1, q2⟩ := ih c2 d2 p hd2 (by simpa using hm2) hc2
                rw [hc2] at hx
                rw [q2, q1]
                exact ⟨hx, rfl⟩
          · cases g3
  refine ⟨r1, r2, fun id x hx => hok (id, x) (look_of_mem hx), rlo m o, rlρ m ρ, ⟨fun b hb => ⟨(W.R b hb).1, ?_⟩, fun b L hb => ?_, W.os, W.tape, W.output, W.size, W.keep⟩, ⟨fun id sz es bk he hb => ?_, fun id sz es bk he hb => ?_, fun id c i k sz bk he hb => ?_⟩, fun t => ?_, fun id k hk => ?_, fun id hid => ?_, ?_⟩
  · have := (W.R b hb).2
    show rlo m o b = none
    have h3 : o b = none := this
    simp only [rlo, h3]
  · obtain ⟨L', h3⟩ := ho2 b L hb
    exact W.o b L' h3
  · obtain ⟨i, e, g1, g2, g3⟩ := hent id _ he
    cases e with
    | mix s2 e2 =>
      simp only [rlE, Option.some.injEq, Ent.mix.injEq] at g3
      obtain ⟨rfl, rfl⟩ := g3
      have hb' : ρ i = some bk := by rw [← hρ1 i id g1]; exact hb
      obtain ⟨b, cur, el, us, q1, q2, q3, q4, q5, q6, q7, q8, q9⟩ := (H.mix i _ _ bk g2 hb').ex
      refine ⟨b, cur, el, us, by rw [rlLL_length]; exact q1, ho1 b i id [] g1 q2, q3, by rw [rlLL_length]; exact q4, by rw [rlLL_length]; exact q5, fun j hj => ?_, fun j l hj hl => ?_, fun j l hj hl => ?_, fun j l hj hl => ?_⟩
      · rw [rlLL_length] at hj; rw [rlLL_getD, rlL_length]; exact q6 j hj
      · rw [rlLL_length] at hj; exact q7 j l hj hl
      · rw [rlLL_length] at hj; exact q8 j l hj hl
      · rw [rlLL_length] at hj; rw [rlLL_getD, rlL_getD]; exact rl_rel h2 (q9 j l hj hl)
    | row => simp [rlE] at g3
    | ali c2 i2 k2 s2 => simp only [rlE] at g3; split at g3 <;> simp at g3
  · obtain ⟨i, e, g1, g2, g3⟩ := hent id _ he
    cases e with
    | mix => simp [rlE] at g3
    | row s2 e2 =>
      simp only [rlE, Option.some.injEq, Ent.row.injEq] at g3
      obtain ⟨rfl, rfl⟩ := g3
      have hb' : ρ i = some bk := by rw [← hρ1 i id g1]; exact hb
      obtain ⟨v, hv, hh2⟩ := H.row i _ _ bk g2 hb'
      exact ⟨v, hv.mono (R' := F.R) [id] fun b M hbo => ⟨ho1 b i id M g1 hbo, rfl⟩, hh2⟩
    | ali c2 i2 k2 s2 => simp only [rlE] at g3; split at g3 <;> simp at g3
  · obtain ⟨i0, e, g1, g2, g3⟩ := hent id _ he
    cases e with
    | mix => simp [rlE] at g3
    | row => simp [rlE] at g3
    | ali c2 i2 k2 s2 =>
      simp only [rlE] at g3
      split at g3
      · rename_i d2 hd2
        simp only [Option.some.injEq, Ent.ali.injEq] at g3
        obtain ⟨rfl, rfl, rfl, rfl⟩ := g3
        have hb' : ρ i0 = some bk := by rw [← hρ1 i0 id g1]; exact hb
        obtain ⟨q1, bkc, q2, q3⟩ := H.ali i0 _ _ _ _ bk g2 hb'
        refine ⟨q1, bkc, by show rlρ m ρ d2 = some bkc; rw [hρ1 c2 d2 hd2]; exact q2, fun d szc esc hc hm hi hk => ?_⟩
        obtain ⟨q4, q5⟩ := hcont d c2 d2 _ hd2 hm hc
        exact q3 d szc esc q4 q5 hi hk
      · cases g3
  · cases hl : look t st'.s with
    | none => simp only [St.get, hl, Option.getD_none]; exact .bot
    | some v =>
      simp only [St.get, hl, Option.getD_some]
      rcases hs _ (look_of_mem hl) with h | h
      · simp only at h; rw [h]; exact rl_rel h2 (hx t)
      · simp only at h; rw [h]; exact .bot
  · obtain ⟨i, hi, _⟩ := hρ' id k hk
    exact hn _ (look_of_mem hi)
  · have h3 := hp.1 id hid
    show rlρ m ρ id = F.C.ρ0 id
    rw [hρ1 id id (hpin id (by rw [← F.hpin]; exact hid))]; exact h3
  · rcases Nat.eq_zero_or_pos F.C.n0 with h0 | h0
    · omega
    · have := hn _ (look_of_mem (hpin (F.C.n0 - 1) (by rw [← F.hpin]; omega)))
      simp only at this
      omega

end Go.Vc

/- A function keeps its contract if its body does. -/
namespace Go.Vc
open Go

/-- A nil slice is an empty list. -/
inductive Up : AV → AV → Prop
  | refl {a} : Up a a
  | nil {u sz} : Up (.val (.slice none 0 0)) (.lst u sz [])
  | lst {sz es fs} : es.length = fs.length → (∀ i, i < es.length → (fs.getD i []).length = (es.getD i []).length) →
      (∀ i k, i < es.length → k < (es.getD i []).length → Up ((es.getD i []).getD k .bot) ((fs.getD i []).getD k .bot)) → Up (.lst true sz es) (.lst true sz fs)

inductive UpL : List AV → List AV → Prop
  | nil : UpL [] []
  | cons {a b as bs} : Up a b → UpL as bs → UpL (a :: as) (b :: bs)

theorem UpL.refl : ∀ as, UpL as as
  | [] => .nil
  | _ :: as => .cons .refl (UpL.refl as)

theorem UpL.get {as bs : List AV} (h : UpL as bs) : as.length = bs.length ∧ ∀ k, k < as.length → Up (as.getD k .bot) (bs.getD k .bot) := by
  induction h with
  | nil => exact ⟨rfl, fun k hk => by simp at hk⟩
  | cons h _ ih =>
    refine ⟨by simp [ih.1], fun k hk => ?_⟩
    cases k with
    | zero => simpa using h
    | succ k => simpa using ih.2 k (by simpa using hk)

theorem TRel.up {w : World} {R : Nat → Prop} {o : Nat → Option (List Nat)} {a b : AV} (hu : Up a b) : ∀ {L : List Nat} {v : Value}, TRel w R o L v a → TRel w R o L v b := by
  induction hu with
  | refl => intro L v h; exact h
  | nil =>
    intro L v h
    cases h with
    | val => exact .nil
  | @lst sz es fs h1 h2 _ ih =>
    intro L v h
    cases h with
    | nil =>
      have : fs = [] := List.eq_nil_of_length_eq_zero (by simpa using h1.symm)
      subst this; exact .nil
    | own us a1 a2 a3 a4 a5 a6 a7 a8 a9 =>
      rw [h1]
      exact .own us a1 a2 a3 (by omega) a5 (fun i hi => by rw [h2 i (by omega)]; exact a6 i (by omega)) (fun i k hi hk => a7 i k (by omega) hk) (fun i k hi hk => a8 i k (by omega) hk)
        fun i k hi hk => ih i k (by omega) (by rw [a6 i (by omega)]; exact hk) (a9 i k (by omega) hk)

/-- The slots that a function's results lie in. -/
def resT (rs : Array ResultVar) : Option (List Nat) :=
  match rs.toList with
  | [] => some []
  | [.tmp a] => some [a]
  | [.tmp a, .tmp b] => some [a, b]
  | [.tmp a, .tmp b, .tmp c] => some [a, b, c]
  | [.tmp a, .tmp b, .tmp c, .tmp d] => some [a, b, c, d]
  | _ => none

def oneOr (vs : List Value) : Value :=
  match vs with
  | [v] => v
  | vs => .tuple vs.toArray

theorem run_results {P : Program} {w : World} {fn : Func} {ts : List Nat} (h : resT fn.results = some ts) (tmps : Array Value) : (results fn tmps).run P w = .ok (oneOr (ts.map fun t => tmps.getD t undef)) w := by
  have key : ∀ l : List ResultVar, fn.results = l.toArray → fn.results.toList = l := fun l h => by rw [h]
  obtain ⟨l, hl⟩ : ∃ l : List ResultVar, fn.results = l.toArray := ⟨fn.results.toList, by simp⟩
  have hk := key l hl
  unfold resT at h
  split at h
  · rename_i h0; cases h; rw [hk] at h0; subst h0; simp [results, hl, oneOr]
  · rename_i h0; cases h; rw [hk] at h0; subst h0; simp [results, hl, oneOr]
  · rename_i h0; cases h; rw [hk] at h0; subst h0; simp [results, hl, oneOr]
  · rename_i h0; cases h; rw [hk] at h0; subst h0; simp [results, hl, oneOr]
  · rename_i h0; cases h; rw [hk] at h0; subst h0; simp [results, hl, oneOr]
  · cases h

def oneOrA (as : List AV) : AV :=
  match as with
  | [a] => a
  | as => .tup as

/-- Parts of like shape. -/
inductive ShL : List AV → List AV → Prop
  | nil : ShL [] []
  | agg {cs ds as bs} : cs.length = ds.length → ShL as bs → ShL (.agg cs :: as) (.agg ds :: bs)
  | one {a b as bs} : cellOk a = true → cellOk b = true → ShL as bs → ShL (a :: as) (b :: bs)

/-- What a return needs: the results' cells, packed. -/
structure RetV (as : List AV) (st : St) (rs : List AV) : Prop where
  sh : ShL as rs
  pk : ∃ q ds, layCs st.hp (as.flatMap AV.cells) = some (q, ds) ∧ ds.Nodup ∧ UpL q (rs.flatMap AV.cells)

abbrev RetA (ts : List Nat) (st : St) (rs : List AV) : Prop := RetV (ts.map st.get) st rs

def retQ (ts : List Nat) (rs : List AV) : Exit → St → Prop
  | .normal, st => RetA ts st rs
  | .ret, st => RetA ts st rs
  | _, _ => False

def slots : Nat → List AV → List (Nat × AV)
  | _, [] => []
  | k, a :: r => (k, a) :: slots (k + 1) r

theorem look_slots : ∀ (as : List AV) (k t : Nat), look t (slots k as) = if k ≤ t ∧ t < k + as.length then some (as.getD (t - k) .bot) else none := by
  intro as
  induction as with
  | nil => intro k t; simp only [slots, look]; rw [if_neg (by simp)]
  | cons a as ih =>
    intro k t
    simp only [slots, look]
    by_cases h : k = t
    · subst h; simp
    · rw [if_neg h, ih]
      by_cases h2 : k + 1 ≤ t ∧ t < k + 1 + as.length
      · rw [if_pos h2, if_pos (by simp; omega)]
        have : t - k = (t - (k + 1)) + 1 := by omega
        rw [this, List.getD_cons_succ]
      · rw [if_neg h2, if_neg (by simp; omega)]

theorem TRel.noR {w : World} {R : Nat → Prop} {o : Nat → Option (List Nat)} {L : List Nat} {v : Value} {a : AV} (h : TRel w R o L v a) : TRel w (fun _ => False) o L v a := h.anyR

section
variable {w : World} {g : Gh} {h : HP}

theorem cells_one {v : Value} (h : one v) : v.cells.toList = [v] := by revert h; unfold one Value.oneCell'; cases v <;> simp [Value.cells]

theorem cells_oneA {a : AV} (h : cellOk a = true) : a.cells = [a] := by cases a <;> first | rfl | cases h

theorem XRel.cellOne {R : Nat → Prop} {ρ : Nat → Option Bk} {v : Value} {a : AV} (ha : cellOk a = true) (hx : XRel w R ρ v a) : one v := by
  cases hx with
  | r h => exact h.one
  | agg => cases ha
  | tup => cases ha
  | bot => cases ha
  | _ => rfl

theorem getD_app_left {α : Type} {xs ys : List α} {k : Nat} {d : α} (h : k < xs.length) : (xs ++ ys).getD k d = xs.getD k d := by
  simp only [List.getD_eq_getElem?_getD]; rw [List.getElem?_append_left h]

theorem getD_app_right {α : Type} {xs ys : List α} {k : Nat} {d : α} (h : xs.length ≤ k) : (xs ++ ys).getD k d = ys.getD (k - xs.length) d := by
  simp only [List.getD_eq_getElem?_getD]; rw [List.getElem?_append_right h]

/-- The results' values and cells. -/
theorem ret_cells {R : Nat → Prop} {ρ : Nat → Option Bk} : ∀ (as rs : List AV) (vs : List Value), ShL as rs → vs.length = as.length → (∀ k, k < as.length → XRel w R ρ (vs.getD k undef) (as.getD k .bot)) →
    (∀ k, k < as.length → Sh1 (vs.getD k undef) (rs.getD k .bot)) ∧
      (vs.flatMap fun v => v.cells.toList).length = (as.flatMap AV.cells).length ∧ (rs.flatMap AV.cells).length = (as.flatMap AV.cells).length ∧ rs.length = as.length ∧
      ∀ k, k < (as.flatMap AV.cells).length → XRel w R ρ ((vs.flatMap fun v => v.cells.toList).getD k undef) ((as.flatMap AV.cells).getD k .bot) := by
  intro as rs vs hs
  induction hs generalizing vs with
  | nil => intro hl _; have : vs = [] := List.eq_nil_of_length_eq_zero hl; subst this; simp
  | @agg cs ds as bs hcd _ ih =>
    intro hl hx
    cases vs with
    | nil => simp at hl
    | cons v vs =>
      have h0 := hx 0 (by simp)
      simp only [List.getD_cons_zero] at h0
      obtain ⟨us, rfl, e1, e2, e3⟩ := h0.agg_eq
      obtain ⟨i1, i2, i3, i4, i5⟩ := ih vs (by simpa using hl) fun k hk => by have := hx (k + 1) (by simpa using hk); simpa using this
      have hus : (Value.agg us).cells.toList = us.toList := rfl
      refine ⟨fun k hk => ?_, ?_, ?_, by simp [i4], fun k hk => ?_⟩
      · cases k with
        | zero => exact ⟨us, rfl, by show us.size = ds.length; omega⟩
        | succ k => simpa using i1 k (by simpa using hk)
      · simp only [List.flatMap_cons, List.length_append, i2, hus, AV.cells, Array.length_toList, e1]
      · simp only [List.flatMap_cons, List.length_append, i3, AV.cells, hcd]
      · simp only [List.flatMap_cons, hus, AV.cells]
        simp only [List.flatMap_cons, List.length_append, AV.cells] at hk
        by_cases hkc : k < cs.length
        · rw [getD_app_left (by simp; omega), getD_app_left hkc]
          have := e3 k hkc
          simpa [List.getD_eq_getElem?_getD, Array.getD_eq_getD_getElem?] using this
        · rw [getD_app_right (by simp; omega), getD_app_right (by omega)]
          have := i5 (k - cs.length) (by omega)
          simpa [e1] using this
  | @one a b as bs ha hb _ ih =>
    intro hl hx
    cases vs with
    | nil => simp at hl
    | cons v vs =>
      have h0 := hx 0 (by simp)
      simp only [List.getD_cons_zero] at h0
      have hone := h0.cellOne ha
      obtain ⟨i1, i2, i3, i4, i5⟩ := ih vs (by simpa using hl) fun k hk => by have := hx (k + 1) (by simpa using hk); simpa using this
      refine ⟨fun k hk => ?_, ?_, ?_, by simp [i4], fun k hk => ?_⟩
      · cases k with
        | zero =>
          simp only [List.getD_cons_zero]
          cases b with
          | agg => cases hb
          | tup => cases hb
          | bot => cases hb
          | _ => exact hone
        | succ k => simpa using i1 k (by simpa using hk)
      · simp only [List.flatMap_cons, List.length_append, i2, cells_one hone, cells_oneA ha, List.length_cons, List.length_nil]
      · simp only [List.flatMap_cons, List.length_append, i3, cells_oneA ha, cells_oneA hb, List.length_cons, List.length_nil]
      · simp only [List.flatMap_cons, cells_one hone, cells_oneA ha]
        simp only [List.flatMap_cons, List.length_append, cells_oneA ha, List.length_cons, List.length_nil] at hk
        cases k with
        | zero => simpa using h0
        | succ k => simpa using i5 k (by omega)

theorem one_or (vs : List Value) (rs : List AV) (hvl : vs.length = rs.length) (c1 : ∀ k, k < rs.length → Sh1 (vs.getD k undef) (rs.getD k .bot)) :
    flat (oneOrA rs) = rs.flatMap AV.cells ∧ flatV (oneOr vs) = (vs.flatMap fun v => v.cells.toList) ∧ Sh (oneOr vs) (oneOrA rs) := by
  have many : oneOr vs = .tuple vs.toArray → oneOrA rs = .tup rs → flat (oneOrA rs) = rs.flatMap AV.cells ∧ flatV (oneOr vs) = (vs.flatMap fun v => v.cells.toList) ∧ Sh (oneOr vs) (oneOrA rs) := by
    intro e1 e2
    rw [e1, e2]
    refine ⟨rfl, by simp [flatV], vs.toArray, rfl, by simpa using hvl, fun k hk => ?_⟩
    have := c1 k hk
    simpa [List.getD_eq_getElem?_getD] using this
  cases vs with
  | nil =>
    cases rs with
    | nil => exact many rfl rfl
    | cons r rs => simp at hvl
  | cons v vs =>
    cases rs with
    | nil => simp at hvl
    | cons r rs =>
      cases vs with
      | nil =>
        cases rs with
        | cons r' rs => simp at hvl
        | nil =>
          have h1 := c1 0 (by simp)
          simp only [List.getD_cons_zero] at h1
          refine ⟨?_, ?_, ?_⟩
          · cases r with
            | tup => exact h1.elim
            | _ => simp [oneOrA, flat]
          · cases r with
            | tup => exact h1.elim
            | agg cs => obtain ⟨us, rfl, _⟩ := h1; simp [oneOr, flatV]
            | _ =>
              have h2 : one v := h1
              simp only [oneOr, List.flatMap_cons, List.flatMap_nil, List.append_nil]
              revert h2; unfold one Value.oneCell'; cases v <;> simp [flatV]
          · cases r with
            | tup => exact h1.elim
            | _ => exact h1
      | cons v' vs =>
        cases rs with
        | nil => simp at hvl
        | cons r' rs => exact many rfl rfl

/-- What is returned, in memory of its own. -/
theorem ret_res' {C : Ctx} {R : Nat → Prop} {w : World} {st : St} {o : Nat → Option (List Nat)} {ρ : Nat → Option Bk} (W : WF C w ⟨R, o, ρ⟩) (H : HRel w ⟨R, o, ρ⟩ st.hp) (hw : C.wrb = fun _ => False) {vs : List Value} {as rs : List AV} (hA : RetV as st rs)
    (hvl : vs.length = as.length) (hx : ∀ k, k < as.length → XRel w R ρ (vs.getD k undef) (as.getD k .bot)) :
    RowKit.Below C.w0.heap.size C.w0 w ∧ ∃ o, (∀ b L, o b = some L → C.w0.heap.size ≤ b ∧ b < w.heap.size) ∧ Res w o (oneOr vs) (oneOrA rs) := by
  obtain ⟨q, ds, hq, hnd, hup⟩ := hA.pk
  obtain ⟨c1, c2, c3, c4, c5⟩ := ret_cells (w := w) (R := R) (ρ := ρ) as rs vs hA.sh hvl hx
  obtain ⟨hlen, _, ky, hk, hL⟩ := layCs_rel H (fun k => (vs.flatMap fun v => v.cells.toList).getD k undef) (fun k => [k]) _ q ds 0 hq fun j hj => by
    simpa using c5 j hj
  have hnd' : (ky.map Prod.fst).Nodup := by rw [hk]; exact hnd
  let o' : Nat → Option (List Nat) := fun b => match o b with
    | some (x :: M) => match look x ky with
      | some L => some (L ++ M)
      | none => none
    | _ => none
  have ho' : ∀ p ∈ ky, ∀ b M, o b = some (p.1 :: M) → o' b = some (p.2 ++ M) := by
    intro p hp b M hb
    simp only [o', hb, look_mem hnd' hp]
  have hflat := one_or vs rs (by rw [c4]; exact hvl) (by rw [← c4] at c1; exact c1)
  obtain ⟨f1, f2, f3⟩ := hflat
  refine ⟨⟨W.os, W.tape, W.output, W.size, fun k hk => W.keep k hk (by rw [hw]; exact fun h => h)⟩, o', fun b L hb => ?_, ⟨f3, fun k hk => ?_⟩⟩
  · simp only [o'] at hb
    split at hb
    · rename_i x M hM
      have := W.o b _ hM
      rw [hw] at this
      exact ⟨this.2.resolve_right fun h => h, this.1⟩
    · cases hb
  · rw [f1] at hk ⊢
    rw [f2]
    obtain ⟨u1, u2⟩ := hup.get
    have hkq : k < q.length := by omega
    have := hL k hkq w o' (fun _ _ => rfl) fun p hp b M hb => ⟨ho' p hp b M hb, rfl⟩
    simp only [Nat.zero_add] at this
    exact (TRel.up (u2 k hkq) this).anyR


theorem ret_res {C : Ctx} {R : Nat → Prop} {N : Nat} {a : Act} {w : World} {st : St} (hr : Rel C R N a w st) (hw : C.wrb = fun _ => False) {ts : List Nat} {rs : List AV} (hA : RetA ts st rs) :
    RowKit.Below C.w0.heap.size C.w0 w ∧ ∃ o, (∀ b L, o b = some L → C.w0.heap.size ≤ b ∧ b < w.heap.size) ∧ Res w o (oneOr (ts.map fun t => a.tmps.getD t undef)) (oneOrA rs) := by
  obtain ⟨_, _, _, o, ρ, W, H, hx, _⟩ := hr
  refine ret_res' W H hw hA (by simp) fun k hk => ?_
  rw [List.length_map] at hk
  have h1 : (ts.map fun t => a.tmps.getD t undef).getD k undef = a.tmps.getD (ts.getD k 0) undef := by simp [List.getD_eq_getElem?_getD, hk]
  have h2 : (ts.map st.get).getD k .bot = st.get (ts.getD k 0) := by simp [List.getD_eq_getElem?_getD, hk]
  rw [h1, h2]; exact hx _

end

theorem contract_intro {P : Program} {f : Nat} {fn : Func} {c : Code} {args : List AV} {ts : List Nat} {rs : List AV} {res : AV} (hf : P.funcs[f]? = some fn) (hb : fn.body = some c) (hrt : resT fn.results = some ts) (hrs : res = oneOrA rs)
    (hname : (fn.name == "runtime.NumGoroutine") = false) (hN : args.length ≤ fn.ntmps) (h : ∀ F : Fx, F.N = fn.ntmps → F.pins = 0 → Wp P F c (retQ ts rs) ⟨slots 0 args, [], 0⟩) : Contract P f args res := by
  subst hrs
  refine ⟨⟨fn, hf, hname, by rw [hb]; rfl⟩, fun w R vals hR hsz hx => ?_⟩
  refine calls_of_wp hf hb ?_
  let C : Ctx := ⟨w, fun _ => False, fun _ => none, 0⟩
  have hrel : Rel C R fn.ntmps { tmps := vals ++ Array.replicate (fn.ntmps - vals.size) undef, defers := [] } w ⟨slots 0 args, [], 0⟩ := by
    refine ⟨by simp; omega, rfl, (fun id x h => by cases h), fun _ => none, noρ, ⟨fun b hb => ⟨hR b hb, rfl⟩, (fun b L hb => by cases hb), rfl, rfl, rfl, Nat.le_refl _, fun b _ _ => rfl⟩, ⟨(fun id sz es bk _ hb => by cases hb), (fun id sz es bk _ hb => by cases hb), (fun id c i k sz bk _ hb => by cases hb)⟩, fun t => ?_, (fun id k hk => by cases hk), (fun id hid => by cases hid), Nat.le_refl _⟩
    simp only [St.get, look_slots]
    by_cases ht : t < args.length
    · rw [if_pos (by omega)]
      simp only [Nat.sub_zero, Option.getD_some]
      have := hx t ht
      have h2 : (vals ++ Array.replicate (fn.ntmps - vals.size) undef).getD t undef = vals.getD t undef := by
        simp [Array.getElem?_append, show t < vals.size by omega]
      rw [h2]; exact this
    · rw [if_neg (by omega)]; exact .bot
  refine Code.wp_mono (fun e a w' hq => ?_) (h ⟨C, R, fn.ntmps, 0, rfl⟩ rfl rfl _ w hrel)
  obtain ⟨st, hr, hq⟩ := hq
  have fin : RetA ts st rs → a.defers = [] ∧ ∃ v, (results fn a.tmps).run P w' = .ok v w' ∧ ∃ v' o, Ending.returned v = .returned v' ∧ RowKit.Below w.heap.size w w' ∧ (∀ b L, o b = some L → w.heap.size ≤ b ∧ b < w'.heap.size) ∧ Res w' o v' (oneOrA rs) := by
    intro hA
    obtain ⟨h1, o, h2, h3⟩ := ret_res hr rfl hA
    exact ⟨hr.defers, _, run_results hrt _, _, o, rfl, h1, h2, h3⟩
  cases e with
  | normal => exact fin hq
  | ret => exact fin hq
  | _ => exact hq.elim

theorem run_loadVar {P : Program} {w : World} {t : TypeId} {ty : Tyi} (ht : tyi P t = some ty) {b x : Nat} {us : Nat → Value} (hc : ∀ j, j < ty.sz → w.cell? ⟨b, x + j, none⟩ = some (us j)) :
    (loadVar t ⟨b, x, none⟩).run P w = .ok (bif ty.agg then .agg ((List.range ty.sz).map us).toArray else us 0) w := by
  have h := (run_loadAt (P := P) (w := w) ht hc).1
  simpa [Instr.loadAt, Instr.sureAddr] using h

/-- A struct result that lies in a variable's cells. -/
structure RetC (a : Nat) (ty : Tyi) (st : St) (res : AV) : Prop where
  ex : ∃ id i k sz es, st.get a = .adr id i k ∧ look id st.h = some (.mix sz es) ∧ i < es.length ∧ k + ty.sz ≤ sz ∧ RetV [.agg (((es.getD i []).drop k).take ty.sz)] st [res]

def retCQ (a : Nat) (ty : Tyi) (res : AV) : Exit → St → Prop
  | .normal, st => RetC a ty st res
  | .ret, st => RetC a ty st res
  | _, _ => False

theorem contract_introC {P : Program} {f : Nat} {fn : Func} {c : Code} {args : List AV} {a0 : Nat} {t : TypeId} {ty : Tyi} {res : AV} (hf : P.funcs[f]? = some fn) (hb : fn.body = some c) (hrt : fn.results = #[.cell a0 t]) (hty : tyi P t = some ty) (hag : ty.agg = true)
    (hname : (fn.name == "runtime.NumGoroutine") = false) (hN : args.length ≤ fn.ntmps) (h : ∀ F : Fx, F.N = fn.ntmps → F.pins = 0 → Wp P F c (retCQ a0 ty res) ⟨slots 0 args, [], 0⟩) : Contract P f args res := by
  refine ⟨⟨fn, hf, hname, by rw [hb]; rfl⟩, fun w R vals hR hsz hx => ?_⟩
  refine calls_of_wp hf hb ?_
  let C : Ctx := ⟨w, fun _ => False, fun _ => none, 0⟩
  have hrel : Rel C R fn.ntmps { tmps := vals ++ Array.replicate (fn.ntmps - vals.size) undef, defers := [] } w ⟨slots 0 args, [], 0⟩ := by
    refine ⟨by simp; omega, rfl, (fun id x h => by cases h), fun _ => none, noρ, ⟨fun b hb => ⟨hR b hb, rfl⟩, (fun b L hb => by cases hb), rfl, rfl, rfl, Nat.le_refl _, fun b _ _ => rfl⟩, ⟨(fun id sz es bk _ hb => by cases hb), (fun id sz es bk _ hb => by cases hb), (fun id c i k sz bk _ hb => by cases hb)⟩, fun t => ?_, (fun id k hk => by cases hk), (fun id hid => by cases hid), Nat.le_refl _⟩
    simp only [St.get, look_slots]
    by_cases ht : t < args.length
    · rw [if_pos (by omega)]
      simp only [Nat.sub_zero, Option.getD_some]
      have := hx t ht
      have h2 : (vals ++ Array.replicate (fn.ntmps - vals.size) undef).getD t undef = vals.getD t undef := by
        simp [Array.getElem?_append, show t < vals.size by omega]
      rw [h2]; exact this
    · rw [if_neg (by omega)]; exact .bot
  refine Code.wp_mono (fun e a w' hq => ?_) (h ⟨C, R, fn.ntmps, 0, rfl⟩ rfl rfl _ w hrel)
  obtain ⟨st, hr, hq⟩ := hq
  have fin : RetC a0 ty st res → a.defers = [] ∧ ∃ v, (results fn a.tmps).run P w' = .ok v w' ∧ ∃ v' o, Ending.returned v = .returned v' ∧ RowKit.Below w.heap.size w w' ∧ (∀ b L, o b = some L → w.heap.size ≤ b ∧ b < w'.heap.size) ∧ Res w' o v' res := by
    intro hA
    obtain ⟨id, i, k, sz, es, h1, h2, h3, h4, h5⟩ := hA.ex
    obtain ⟨_, hdef, _, o, ρ, W, H, hxx, _⟩ := hr
    have hxa := hxx a0
    rw [h1] at hxa
    obtain ⟨b, bsz, cap, hbk, hv⟩ := hxa.adr_eq
    obtain ⟨b', cur, el, us, hbk', ho', hh, hsz', hml, hl, hcur, hone, hxr⟩ := (H.mix id sz es _ h2 hbk).ex
    simp only [Bk.mk.injEq, Option.some.injEq] at hbk'
    obtain ⟨rfl, rfl, _⟩ := hbk'
    have hrun := run_loadVar (P := P) (w := w') hty (b := b) (x := i * bsz + k) (us := fun j => us i (k + j)) (fun j hj => by
      rw [cell_heap hh, Nat.add_assoc]; exact hcur i (k + j) h3 (by omega))
    rw [hag] at hrun
    simp only [cond_true] at hrun
    have hlen : (((es.getD i []).drop k).take ty.sz).length = ty.sz := by rw [List.length_take, List.length_drop, hl i h3]; omega
    have hX : XRel w' R ρ (.agg ((List.range ty.sz).map fun j => us i (k + j)).toArray) (.agg (((es.getD i []).drop k).take ty.sz)) := by
      refine .agg (by rw [hlen]; simp) ?_ ?_
      · intro j hj; rw [hlen] at hj; rw [range_getD _ _ _ hj]; exact hone _ _ h3 (by omega)
      · intro j hj
        rw [hlen] at hj
        rw [range_getD _ _ _ hj]
        have := hxr i (k + j) h3 (by omega)
        simpa [List.getD_eq_getElem?_getD, List.getElem?_take, List.getElem?_drop, hj] using this
    obtain ⟨q1, o1, q2, q3⟩ := ret_res' W H rfl h5 (vs := [.agg ((List.range ty.sz).map fun j => us i (k + j)).toArray]) rfl fun j hj => by
      have : j = 0 := by simpa using hj
      subst this; exact hX
    have hv2 : (a.tmps[a0]?).getD undef = .pointer (some ⟨b, i * bsz + k, none⟩) := by rw [← hv]; simp
    refine ⟨hdef, _, ?_, _, o1, rfl, q1, q2, q3⟩
    simp [results, hrt, hv2, asAddr, hrun, oneOr]
  cases e with
  | normal => exact fin hq
  | ret => exact fin hq
  | _ => exact hq.elim

end Go.Vc

/- Operations, run on abstract states by rewriting. -/
namespace Go.Vc
open Go

/-- A slot turns. -/
def St.put (st : St) (t : Nat) (a : AV) : St := { st with s := putS t a st.s }

theorem putS_look : ∀ (s : List (Nat × AV)) (t : Nat) (a : AV), look t s = some a → putS t a s = s := by
  intro s
  induction s with
  | nil => intro t a h; cases h
  | cons p r ih =>
    obtain ⟨i, x⟩ := p
    intro t a h
    simp only [look] at h
    simp only [putS]
    split
    · rename_i hi; subst hi; rw [if_pos rfl] at h; cases h; rfl
    · rename_i hi; rw [if_neg hi] at h; rw [ih t a h]

theorem St.put_get {st : St} {t : Nat} {a : AV} (h : st.get t = a) (ha : a ≠ .bot) : st.put t a = st := by
  unfold St.get at h
  cases hl : look t st.s with
  | none => rw [hl] at h; exact absurd h.symm ha
  | some x =>
    rw [hl] at h
    simp only [Option.getD_some] at h
    subst h
    simp only [St.put, putS_look _ _ _ hl]

/-- What an operation does to the slots and the blocks. -/
def St.eff (st : St) (dst : Option Nat) (e : Eff) : St := st.app dst e

/-- A call that waits for its contract. -/
def callA (P : Program) (mt : Bool) (all : Array Oper) (f : Nat) (as : List AV) (dst : Option Nat) (os : List Oper) (st : St) (K : St → Prop) : Prop :=
  (∃ bs res, PurL st.hp as bs ∧ Contract P f bs res ∧ goOps P mt all os (st.app dst (unk st.n res)) K) ∨
  (mt = true ∧ ∃ args ms res m Pt sets dels, MContract P f args ms res ∧ MCall st.hp st.n ms m Pt sets dels ∧ as.length = args.length ∧ (∀ k, k < args.length → MArg m (as.getD k .bot) (args.getD k .bot)) ∧
    (∀ j, j < ms.length → ∃ k, k < args.length ∧ Occ (m.getD j 0) (as.getD k .bot)) ∧ goOps P mt all os (st.app dst { v := res, set := sets, del := dels }) K) ∨
  (mt = true ∧ ∃ e, ICon P f as st.hp st.n e ∧ goOps P mt all os (st.app dst e) K)

/-- A store of a list into a row's cell, that waits for its facts. -/
def stoA (P : Program) (mt : Bool) (all : Array Oper) (t : TypeId) (av xv : AV) (dst : Option Nat) (os : List Oper) (st : St) (K : St → Prop) : Prop :=
  ∃ ty id i k b sz es ds dels, tyi P t = some ty ∧ ty.sz = 1 ∧ av = .adr id i k ∧ Sto st.hp st.n id i k xv b sz es ds dels ∧
    goOps P mt all os (st.app dst { v := .bot, set := [(id, .row sz (es.set i ((es.getD i []).set k b)))], del := ds ++ dels }) K

def runSW (R : St → Prop) (Z : Prop) (dst : Option Nat) (st : St) : Option (Prop × Eff) → Prop
  | some (c, e) => c ∧ R (st.app dst e)
  | none => Z

def runEW (R : St → Prop) (dst : Option Nat) (st : St) : Option (Prop × Eff) → Prop
  | some (c, e) => c ∧ R (st.app dst e)
  | none => False

def callE (P : Program) (mt : Bool) (all : Array Oper) (as : List AV) (dst : Option Nat) (os : List Oper) (st : St) (K : St → Prop) : AV → Prop
  | .fn f caps => callA P mt all f (as ++ caps) dst os st K
  | _ => False

def runOW (P : Program) (mt : Bool) (all : Array Oper) (os : List Oper) (K R : St → Prop) (dst : Option Nat) (st : St) (op : Op) : Prop :=
  match op with
  | .call ⟨.value x, args, _⟩ => callE P mt all (args.toList.map st.ev) dst os st K (st.ev x)
  | .store t a x => runSW R (stoA P mt all t (st.ev a) (st.ev x) dst os st K) dst st (storev (tyi P t) (st.ev a) (st.ev x) st.hp)
  | op => runEW R dst st (opF P op st.ev st.hp st.n)

def guardW (P : Program) (mt : Bool) (all : Array Oper) (os : List Oper) (K R : St → Prop) (dst : Option Nat) (st : St) (op : Op) (t : Nat) (want : Bool) : AV → Prop
  | .val (.bool b) => (b = want → runOW P mt all os K R dst (st.put t (.val (.bool want))) op) ∧ (b = !want → R ((st.put t (.val (.bool !want))).app dst { v := .bot }))
  | _ => False

def guardTW (P : Program) (mt : Bool) (all : Array Oper) (os : List Oper) (K R : St → Prop) (dst : Option Nat) (st : St) (op : Op) (want : Bool) : Option Nat → Prop
  | some t => guardW P mt all os K R dst st op t want (st.get t)
  | none => False

/-- The operations, by rewriting: where a guard is not known, both ways. -/
def runOps (P : Program) (mt : Bool) (all : Array Oper) : List Oper → St → (St → Prop) → Prop
  | [], st, K => K st
  | o :: os, st, K => match o.guard with
    | none => runOW P mt all os K (fun st' => runOps P mt all os st' K) o.dst st o.op
    | some (j, want) => guardTW P mt all os K (fun st' => runOps P mt all os st' K) o.dst st o.op want ((all[j]?).bind (·.dst))

theorem goOps_one {P : Program} {mt : Bool} {all : Array Oper} {o : Oper} {os : List Oper} {st : St} {K R : St → Prop} (hw : wantA all o st = some true)
    (ih : ∀ st', R st' → goOps P mt all os st' K) (h : runOW P mt all os K R o.dst st o.op) : goOps P mt all (o :: os) st K := by
  refine .inl ⟨hw, ?_⟩
  unfold runOW at h
  split at h
  · rename_i x args ts ho
    unfold callE at h
    split at h
    · rename_i f caps hx
      rcases h with ⟨bs, res, h1, h2, h3⟩ | ⟨h0, args, ms, res, m, Pt, sets, dels, h1, h2, h3, h4, h5, h6⟩ | ⟨h0, e, h1, h2⟩
      · exact ⟨_, .call ho rfl hx h1 h2, h3⟩
      · exact ⟨_, .mcall h0 ho rfl hx h1 h2 h3 h4 h5, h6⟩
      · exact ⟨_, .icall h0 ho rfl hx h1, h2⟩
    · exact h.elim
  · rename_i t a x ho
    unfold runSW at h
    split at h
    · rename_i c e he
      exact ⟨e, .blt (by rw [ho]; exact he) h.1, ih _ h.2⟩
    · obtain ⟨ty, id, i, k, b, sz, es, ds, dels, h1, h2, h3, h4, h5⟩ := h
      exact ⟨_, .sto ho h1 h2 h3 h4, h5⟩
  · unfold runEW at h
    split at h
    · rename_i c e he
      exact ⟨e, .blt he h.1, ih _ h.2⟩
    · exact h.elim

theorem goOps_run {P : Program} {mt : Bool} {all : Array Oper} : ∀ (os : List Oper) (st : St) (K : St → Prop), runOps P mt all os st K → goOps P mt all os st K := by
  intro os
  induction os with
  | nil => intro st K h; exact h
  | cons o os ih =>
    intro st K h
    unfold runOps at h
    split at h
    · rename_i hg
      exact goOps_one (by simp [wantA, hg]) (fun st' => ih st' K) h
    · rename_i j want hg
      unfold guardTW at h
      split at h
      · rename_i t ht
        unfold guardW at h
        split at h
        · rename_i b hb
          have hput : ∀ b', b = b' → st.put t (.val (.bool b')) = st := by rintro _ rfl; exact St.put_get hb (by simp)
          obtain ⟨h1, h2⟩ := h
          by_cases hbw : b = want
          · have h1 := h1 hbw
            rw [hput _ hbw] at h1
            exact goOps_one (by simp only [wantA, hg, ht, hb, hbw, beq_self_eq_true]) (fun st' => ih st' K) h1
          · have hb' : b = !want := by cases b <;> cases want <;> simp_all
            have h2 := h2 hb'
            rw [hput _ hb'] at h2
            refine .inr ⟨?_, ih _ _ h2⟩
            have : (b == want) = false := by simpa using hbw
            simp only [wantA, hg, ht, hb, this]
        · exact h.elim
      · exact h.elim

/-- A call by its contract. -/
theorem callA_intro {P : Program} {mt : Bool} {all : Array Oper} {f : Nat} {as bs : List AV} {res : AV} {dst : Option Nat} {os : List Oper} {st : St} {K : St → Prop} (hc : Contract P f bs res) (hp : PurL st.hp as bs)
    (h : runOps P mt all os (st.app dst (unk st.n res)) K) : callA P mt all f as dst os st K := .inl ⟨bs, res, hp, hc, goOps_run _ _ _ h⟩

/-- A call that writes, by its contract. -/
theorem callA_mut {P : Program} {all : Array Oper} {f : Nat} {as args : List AV} {ms : List Mu} {res : AV} {m : List Nat} {Pt : Nat → List Nat} {sets : List (Nat × Ent)} {dels : List Nat} {dst : Option Nat} {os : List Oper} {st : St} {K : St → Prop} (hc : MContract P f args ms res)
    (hm : MCall st.hp st.n ms m Pt sets dels) (hl : as.length = args.length) (ha : ∀ k, k < args.length → MArg m (as.getD k .bot) (args.getD k .bot)) (hv : ∀ j, j < ms.length → ∃ k, k < args.length ∧ Occ (m.getD j 0) (as.getD k .bot))
    (h : runOps P true all os (st.app dst { v := res, set := sets, del := dels }) K) : callA P true all f as dst os st K := .inr (.inl ⟨rfl, args, ms, res, m, Pt, sets, dels, hc, hm, hl, ha, hv, goOps_run _ _ _ h⟩)

/-- A call that works on the caller's blocks. -/
theorem callA_in {P : Program} {all : Array Oper} {f : Nat} {as : List AV} {e : Eff} {dst : Option Nat} {os : List Oper} {st : St} {K : St → Prop} (hc : ICon P f as st.hp st.n e) (h : runOps P true all os (st.app dst e) K) : callA P true all f as dst os st K :=
  .inr (.inr ⟨rfl, e, hc, goOps_run _ _ _ h⟩)

/-- A list goes into a row's cell. -/
theorem stoA_intro {P : Program} {mt : Bool} {all : Array Oper} {t : TypeId} {ty : Tyi} {xv b : AV} {id i k sz : Nat} {es : List (List AV)} {ds : List Nat} {dst : Option Nat} {os : List Oper} {st : St} {K : St → Prop} (dels : List Nat) (h1 : tyi P t = some ty) (h2 : ty.sz = 1)
    (h3 : Sto st.hp st.n id i k xv b sz es ds dels) (h : runOps P mt all os (st.app dst { v := .bot, set := [(id, .row sz (es.set i ((es.getD i []).set k b)))], del := ds ++ dels }) K) : stoA P mt all t (.adr id i k) xv dst os st K :=
  ⟨ty, id, i, k, b, sz, es, ds, dels, h1, h2, rfl, h3, goOps_run _ _ _ h⟩

theorem w_run {P : Program} {F : Fx} {AQ : Exit → St → Prop} {st : St} {id : Nat} {ops : Array Oper} {d : Bool} (hm : P.follows .mixedOrders = true) (hok : (okN F.N ops && (!d || (okReg false ops && okBack ops))) = true)
    (h : ∀ K : St → Prop, (∀ st', AQ .normal st' → K st') → runOps P false ops ops.toList st K) : Wp P F (.region id ops d) AQ st :=
  w_region hm hok fun K hK => goOps_run _ _ _ (h K hK)

theorem w_runM {P : Program} {F : Fx} {AQ : Exit → St → Prop} {st : St} {id : Nat} {ops : Array Oper} {d : Bool} (hm : P.follows .mixedOrders = true) (hok : (okN F.N ops && (!d || (okReg true ops && okBack ops))) = true)
    (h : ∀ K : St → Prop, (∀ st', AQ .normal st' → K st') → runOps P true ops ops.toList st K) : Wp P F (.region id ops d) AQ st :=
  w_region hm hok fun K hK => goOps_run _ _ _ (h K hK)

theorem PurL.nil {h : HP} : PurL h [] [] := ⟨rfl, fun k hk => by simp at hk⟩

theorem PurL.cons {h : HP} {a b : AV} {as bs : List AV} (h1 : PurTo h a b) (h2 : PurL h as bs) : PurL h (a :: as) (b :: bs) := by
  refine ⟨by simp [h2.1], fun k hk => ?_⟩
  cases k with
  | zero => simpa using h1
  | succ k => simpa using h2.2 k (by simpa using hk)

theorem PurTo.whole {h : HP} {id n u sz es} (hc : cont h depth id = some (sz, es)) (hm : isMixE (h id) = false) (hn : n = es.length) : PurTo h (.own id 0 n) (.lst u sz es) :=
  .row hc hm (by omega) (by subst hn; simp)

end Go.Vc

/- Facts that the relation brings: bounds. -/
namespace Go.Vc
open Go

/-- A value by content is within the machine's bounds. -/
inductive Good : AV → Prop
  | val {v} : sc v → Good (.val v)
  | lst {u sz es} : es.length ≤ maxLen → (∀ i, i < es.length → (es.getD i []).length = sz) → (∀ i k, i < es.length → k < sz → Good ((es.getD i []).getD k .bot)) → Good (.lst u sz es)
  | rptr {cs} : (∀ k, k < cs.length → Good (cs.getD k .bot)) → Good (.rptr cs)
  | agg {cs} : (∀ k, k < cs.length → Good (cs.getD k .bot)) → Good (.agg cs)
  | other {a} : (match a with | .val _ | .lst _ _ _ | .rptr _ | .agg _ => False | _ => True) → Good a

theorem RRel.good {w : World} {R : Nat → Prop} {v : Value} {a : AV} (h : RRel w R v a) : Good a := by
  induction h with
  | val h => exact .val h
  | nil => exact .lst (by simp) (fun i hi => by simp at hi) (fun i k hi => by simp at hi)
  | lst us _ _ h1 h2 h3 _ _ _ ih => exact .lst (by omega) h3 ih
  | rptr us _ _ _ _ _ ih => exact .rptr ih
  | fn => exact .other trivial

theorem XRel.good {w : World} {R : Nat → Prop} {ρ : Nat → Option Bk} {v : Value} {a : AV} (h : XRel w R ρ v a) : Good a := by
  induction h with
  | r h => exact h.good
  | agg _ _ _ ih => exact .agg ih
  | _ => exact .other trivial

theorem TRel.good {w : World} {R : Nat → Prop} {o : Nat → Option (List Nat)} {L : List Nat} {v : Value} {a : AV} (h : TRel w R o L v a) : Good a := by
  induction h with
  | val h => exact .val h
  | nil => exact .lst (by simp) (fun i hi => by simp at hi) (fun i k hi => by simp at hi)
  | own us _ _ _ h1 h2 h3 _ _ _ ih => exact .lst (by omega) h3 ih

section
variable {P : Program} {F : Fx} {AQ : Exit → St → Prop} {st : St} {c : Code}

/-- What a slot holds is within bounds. -/
theorem w_good (t : Nat) (h : Good (st.get t) → Wp P F c AQ st) : Wp P F c AQ st := by
  intro a w hr
  have : Good (st.get t) := by
    obtain ⟨_, _, _, o, ρ, _, _, hx, _⟩ := hr
    exact (hx t).good
  exact h this a w hr

/-- What a block of this call's own holds is within bounds. -/
theorem w_goodRow (t : Nat) {id off n sz : Nat} {es : List (List AV)} (ht : st.get t = .own id off n) (he : st.hp id = some (.row sz es)) (h : Good (.lst true sz es) → Wp P F c AQ st) : Wp P F c AQ st := by
  intro a w hr
  have : Good (.lst true sz es) := by
    obtain ⟨_, _, _, o, ρ, _, H, hx, _⟩ := hr
    have hxt := hx t
    rw [ht] at hxt
    rcases hxt.own_eq with ⟨s0, c0, hb, _⟩ | ⟨b, bsz, cap, cc, x0, hb, _⟩
    · obtain ⟨v, hv, _⟩ := H.row id sz es _ he hb; exact hv.good
    · obtain ⟨v, hv, _⟩ := H.row id sz es _ he hb; exact hv.good
  exact h this a w hr

theorem w_sr {id : Nat} {ops : Array Oper} {d : Bool} {y : Code} (hm : P.follows .mixedOrders = true) (hok : (okN F.N ops && (!d || (okReg false ops && okBack ops))) = true)
    (h : ∀ K : St → Prop, (∀ st', Wp P F y AQ st' → K st') → runOps P false ops ops.toList st K) : Wp P F (.seq (.region id ops d) y) AQ st :=
  w_seq (w_run hm hok fun K hK => h K fun st' h' => hK st' h')

theorem w_srM {id : Nat} {ops : Array Oper} {d : Bool} {y : Code} (hm : P.follows .mixedOrders = true) (hok : (okN F.N ops && (!d || (okReg true ops && okBack ops))) = true)
    (h : ∀ K : St → Prop, (∀ st', Wp P F y AQ st' → K st') → runOps P true ops ops.toList st K) : Wp P F (.seq (.region id ops d) y) AQ st :=
  w_seq (w_runM hm hok fun K hK => h K fun st' h' => hK st' h')

theorem w_sc {cd : Operand} {x y z : Code} {b : Bool} (hc : st.ev cd = .val (.bool b)) (h1 : b = true → Wp P F x (thenA (Wp P F z AQ) AQ) st) (h2 : b = false → Wp P F y (thenA (Wp P F z AQ) AQ) st) : Wp P F (.seq (.cond cd x y) z) AQ st :=
  w_seq (w_cond hc h1 h2)

end

/-- Lists of numbers, as elements of one cell each. -/
def Is (xs : List Int) : List (List AV) := xs.map fun x => [.val (.int .i64 x)]

@[simp] theorem Is_length (xs : List Int) : (Is xs).length = xs.length := by simp [Is]
@[simp] theorem Is_nil : Is [] = [] := rfl
theorem Is_get (xs : List Int) (i : Nat) (h : i < xs.length) : (Is xs).getD i [] = [.val (.int .i64 (xs.getD i 0))] := by
  simp [Is, List.getD_eq_getElem?_getD, h]
theorem Is_append (xs ys : List Int) : Is (xs ++ ys) = Is xs ++ Is ys := by simp [Is]

def B64 (x : Int) : Prop := -9223372036854775808 ≤ x ∧ x ≤ 9223372036854775807

theorem Good.is {u : Bool} {xs : List Int} (h : Good (.lst u 1 (Is xs))) : xs.length ≤ 9223372036854775807 ∧ ∀ x ∈ xs, B64 x := by
  cases h with
  | lst h1 h2 h3 =>
    refine ⟨by rw [Is_length] at h1; exact Nat.le_trans h1 (by decide), fun x hx => ?_⟩
    obtain ⟨i, hi, rfl⟩ := List.getElem_of_mem hx
    have := h3 i 0 (by simpa using hi) (by omega)
    rw [Is_get _ _ hi] at this
    simp only [List.getD_cons_zero] at this
    cases this with
    | val h =>
      simp only [sc] at h
      have e1 : IntKind.i64.min = -9223372036854775808 := by decide
      have e2 : IntKind.i64.max = 9223372036854775807 := by decide
      simpa [List.getD_eq_getElem?_getD, hi, B64, e1, e2] using h
    | other h => exact h.elim
  | other h => exact h.elim

@[simp] theorem i64_min : IntKind.i64.min = -9223372036854775808 := by decide
@[simp] theorem i64_max : IntKind.i64.max = 9223372036854775807 := by decide

/-- A sum that does not wrap. -/
theorem wrap_id {x : Int} (h : B64 x) : IntKind.i64.wrap x = x := IntWalk.i64_in x h

@[simp] theorem Is_at (xs : List Int) (i : Nat) (h : i < xs.length) : (Is xs)[i]? = some [.val (.int .i64 xs[i])] := by simp [Is, h]

@[simp] theorem Is_at' (xs : List Int) (i : Nat) (h : i < (Is xs).length) : (Is xs)[i] = [.val (.int .i64 (xs[i]'(by simpa using h)))] := by simp [Is]

@[simp] theorem Is_set (xs : List Int) (i : Nat) (x : Int) : (Is xs).set i [.val (.int .i64 x)] = Is (xs.set i x) := by simp [Is, List.map_set]

@[simp] theorem Is_rep (n : Nat) (x : Int) : List.replicate n [.val (.int .i64 x)] = Is (List.replicate n x) := by simp [Is]

theorem mem_at {xs : List Int} {i : Nat} (h : i < xs.length) : xs[i] ∈ xs := List.getElem_mem h

/-- One number or truth value is returned. -/
theorem ret_val {t : Nat} {v v' : Value} {st : St} (h : st.get t = .val v) (e : v = v') : RetA [t] st [.val v'] := by
  subst e
  refine ⟨?_, [.val v], [], ?_, .nil, UpL.refl _⟩
  · simp only [List.map_cons, List.map_nil, h]; exact .one rfl rfl .nil
  · simp only [List.map_cons, List.map_nil, h, List.flatMap_cons, List.flatMap_nil, AV.cells, List.append_nil]; rfl

/-- One list of this call's own is returned. -/
theorem ret_row {t id n sz : Nat} {es fs : List (List AV)} {st : St} (h : st.get t = .own id 0 n) (he : look id st.h = some (.row sz es)) (hn : es.length = n) (e : es = fs) : RetA [t] st [.lst true sz fs] := by
  subst e
  refine ⟨?_, [.lst true sz es], [id], ?_, by simp, UpL.refl _⟩
  · simp only [List.map_cons, List.map_nil, h]; exact .one rfl rfl .nil
  · have he' : st.hp id = some (.row sz es) := he
    simp only [List.map_cons, List.map_nil, h, List.flatMap_cons, List.flatMap_nil, AV.cells, List.append_nil]
    simp [layCsF, layC, layD, Go.Vc.depth, he', hn]

theorem wrap_succ {i n : Nat} (h : i < n) (hn : n ≤ 9223372036854775807) : IntKind.i64.wrap ((i : Int) + 1) = ((i + 1 : Nat) : Int) := by
  rw [wrap_id ⟨by omega, by omega⟩]; rfl

theorem retQ_ret {ts : List Nat} {rs : List AV} {st : St} (h1 : ShL (ts.map st.get) rs) {q : List AV} {ds : List Nat} (h2 : layCs st.hp ((ts.map st.get).flatMap AV.cells) = some (q, ds)) (h3 : ds.Nodup) (h4 : UpL q (rs.flatMap AV.cells)) : retQ ts rs .ret st := ⟨h1, q, ds, h2, h3, h4⟩

/- Each function that looks a block up, by what it finds: rewriting simplifies what is found first. -/
def contE (h : HP) (d : Nat) : Option Ent → Option (Nat × List (List AV))
  | some (.mix sz es) => some (sz, es)
  | some (.row sz es) => some (sz, es)
  | some (.ali c i k sz) => if isMixE (h c) then none else match cont h d c with
      | some (_, es) => match (es.getD i []).getD k .bot with
        | .lst true sz' es' => if sz' = sz then some (sz, es') else none
        | _ => none
      | none => none
  | none => none

theorem cont_E {h : HP} {d id : Nat} : cont h (d + 1) id = contE h d (h id) := by
  simp only [cont]
  cases h id with
  | none => rfl
  | some e => cases e <;> rfl

def wrE (h : HP) (d id : Nat) (es : List (List AV)) : Option Ent → Option (List (Nat × Ent))
  | some (.mix sz _) => some [(id, .mix sz es)]
  | some (.row sz _) => some [(id, .row sz es)]
  | some (.ali c i k sz) => match cont h d c with
      | some (_, fs) => wr h d c (fs.set i ((fs.getD i []).set k (.lst true sz es)))
      | none => none
  | none => none

theorem wr_E {h : HP} {d id : Nat} {es : List (List AV)} : wr h (d + 1) id es = wrE h d id es (h id) := by
  simp only [wr]
  cases h id with
  | none => rfl
  | some e => cases e <;> rfl

def loadC (t : Tyi) (id i k n : Nat) : Option (Nat × List (List AV)) → Option (Prop × Eff)
  | some (sz, es) => some (i < es.length ∧ k + t.sz ≤ sz, { v := bif t.agg then .agg (takeC id i k n (((es.getD i []).drop k).take t.sz)).1 else (takeC id i k n (((es.getD i []).drop k).take t.sz)).1.getD 0 .bot, new := (takeC id i k n (((es.getD i []).drop k).take t.sz)).2, cnt := t.sz })
  | none => none

def loadE (t : Tyi) (id i k n : Nat) (h : HP) : Option Ent → Option (Prop × Eff)
  | some (.mix sz es) => some (i < es.length ∧ k + t.sz ≤ sz, { v := bif t.agg then .agg (((es.getD i []).drop k).take t.sz) else (es.getD i []).getD k .bot })
  | some (.row sz es) => loadC t id i k n (some (sz, es))
  | some (.ali _ _ _ _) => loadC t id i k n (cont h depth id)
  | none => none

theorem loadv_E {t : Tyi} {id i k n : Nat} {h : HP} : loadv (some t) (.adr id i k) h n = loadE t id i k n h (h id) := by
  simp only [loadv, loadE]
  cases he : h id with
  | none => rfl
  | some e =>
    cases e with
    | mix => rfl
    | row sz es =>
      have : cont h depth id = some (sz, es) := by simp [cont, depth, he]
      simp only [this, loadC]
    | ali => simp only [loadC]; cases cont h depth id <;> rfl

def storeC (t : Tyi) (id i k : Nat) (x : AV) (h : HP) : Option (Nat × List (List AV)) → Option (Prop × Eff)
  | some (sz, es) => match x with
    | .val v => if t.sz = 1 ∧ nonNil v = true then
        match wr h depth id (es.set i ((es.getD i []).set k (.val v))) with
        | some s => some (i < es.length ∧ k < sz, { v := .bot, set := s })
        | none => none
      else none
    | _ => none
  | none => none

def storeE (t : Tyi) (id i k : Nat) (x : AV) (h : HP) : Option Ent → Option (Prop × Eff)
  | some (.mix sz es) => if x.cells.length = t.sz && okAgg x then
        some (i < es.length ∧ k + t.sz ≤ sz, { v := .bot, set := [(id, .mix sz (es.set i (splice (es.getD i []) k x.cells)))] })
      else none
  | some (.row _ _) => storeC t id i k x h (cont h depth id)
  | some (.ali _ _ _ _) => storeC t id i k x h (cont h depth id)
  | none => none

theorem storev_E {t : Tyi} {id i k : Nat} {x : AV} {h : HP} : storev (some t) (.adr id i k) x h = storeE t id i k x h (h id) := by
  simp only [storev, storeE]
  cases he : h id with
  | none => rfl
  | some e => cases e <;> first | rfl | (simp only [storeC]; cases cont h depth id <;> rfl)

def layE (h : HP) (d : Nat) (id n : Nat) : Option Ent → Option (AV × List Nat)
  | some (.row sz es) => if es.length = n then some (.lst true sz es, [id]) else none
  | some (.mix sz es) => if es.length = n then match layEsF (layD h d) es with
      | some (q, ds) => some (.lst true sz q, id :: ds)
      | none => none
      else none
  | some (.ali _ _ _ _) => none
  | none => none

theorem layD_val {h : HP} {d : Nat} {v : Value} : layD h (d + 1) (.val v) = some (.val v, []) := rfl
theorem layD_E {h : HP} {d id n : Nat} : layD h (d + 1) (.own id 0 n) = layE h d id n (h id) := by
  simp only [layD, layE]
  cases he : h id with
  | none => rfl
  | some e => cases e <;> rfl

def idxC (t : Tyi) (id off n : Nat) (j : Int) : Option (Nat × List (List AV)) → Option (Prop × Eff)
  | some (sz, _) => if sz = t.sz then some (0 ≤ j ∧ j < n, { v := .adr id (off + j.toNat) 0 }) else none
  | none => none

theorem idxAddr_own {t : Tyi} {id off n : Nat} {k : IntKind} {j : Int} {h : HP} : idxAddr (some t) (.own id off n) (.val (.int k j)) h = idxC t id off n j (cont h depth id) := by
  simp only [idxAddr, idxC]; cases cont h depth id <;> rfl
theorem idxAddr_lst {t : Tyi} {u : Bool} {sz : Nat} {es : List (List AV)} {k : IntKind} {j : Int} {h : HP} :
    idxAddr (some t) (.lst u sz es) (.val (.int k j)) h = if sz = t.sz then some (0 ≤ j ∧ j < es.length, { v := .rptr (es.getD j.toNat []) }) else none := rfl

def srcE (h : HP) (sz id off n : Nat) : Option Ent → Option (Prop × List (List AV) × List Nat)
  | some (.mix sz' es) => if sz' = sz then match layEs h ((es.drop off).take n) with
      | some (q, d) => some (off + n ≤ es.length, q, d)
      | none => none
      else none
  | some (.row sz' es) => if sz' = sz then some (off + n ≤ es.length ∧ ∀ e ∈ es, ∀ c ∈ e, isVal c = true, (es.drop off).take n, []) else none
  | some (.ali _ _ _ _) => match cont h depth id with
      | some (sz', es) => if sz' = sz then some (off + n ≤ es.length ∧ ∀ e ∈ es, ∀ c ∈ e, isVal c = true, (es.drop off).take n, []) else none
      | none => none
  | none => none

theorem src_nil {h : HP} {sz : Nat} : src h sz (.val (.slice none 0 0)) = some (True, [], []) := rfl
theorem src_lst {h : HP} {sz : Nat} {u : Bool} {sz' : Nat} {es : List (List AV)} : src h sz (.lst u sz' es) = if sz' = sz then some (∀ e ∈ es, ∀ c ∈ e, isVal c = true, es, []) else none := rfl
theorem src_E {h : HP} {sz id off n : Nat} : src h sz (.own id off n) = srcE h sz id off n (h id) := by
  simp only [src, srcE]
  cases he : h id with
  | none => rfl
  | some e =>
    cases e with
    | mix => rfl
    | row sz' es =>
      have : cont h depth id = some (sz', es) := by simp [cont, depth, he]
      simp only [this]
    | ali => rfl

def baseE (h : HP) (sz id m : Nat) : Option Ent → Option (Prop × List (List AV) × List Nat × List Nat)
  | some (.row sz' es) => if sz' = sz then some (m ≤ es.length, es.take m, [id], []) else none
  | some (.mix sz' es) => if sz' = sz then match layEs h (es.take m) with
      | some (q, d) => some (m ≤ es.length, q, [id], d)
      | none => none
      else none
  | some (.ali _ _ _ _) => none
  | none => none

theorem base_nil {h : HP} {sz : Nat} : base h sz (.val (.slice none 0 0)) = some (True, [], [], []) := rfl
theorem base_E {h : HP} {sz id m : Nat} : base h sz (.own id 0 m) = baseE h sz id m (h id) := by
  simp only [base, baseE]
  cases he : h id with
  | none => rfl
  | some e => cases e <;> rfl

def appE (t : Tyi) (n : Nat) : Option (Prop × List (List AV) × List Nat × List Nat) → Option (Prop × List (List AV) × List Nat) → Option (Prop × Eff)
  | some (c1, es, i, d1), some (c2, news, d2) =>
      if (n :: (i ++ (d1 ++ d2))).Nodup then
        some (c1 ∧ c2 ∧ (es.length + news.length) * t.bytes ≤ 140737488355328 ∧ es.length + news.length ≤ 140737488355328 ∧ 0 < t.sz,
          { v := .own n 0 (es.length + news.length), del := i ++ (d1 ++ d2), new := [(n, .row t.sz (es ++ news))], cnt := 1 }) else none
  | _, _ => none

theorem appendv_E {t : Tyi} {s x : AV} {h : HP} {n : Nat} : appendv (some t) s x h n = appE t n (base h t.sz s) (src h t.sz x) := by
  simp only [appendv, appE]
  cases base h t.sz s with
  | none => rfl
  | some p => cases src h t.sz x <;> rfl

def slcC (t : Tyi) (id off n : Nat) (lo hi : Int) : Option (Nat × List (List AV)) → Option (Prop × Eff)
  | some (sz, _) => if sz = t.sz then some (0 ≤ lo ∧ lo ≤ hi ∧ hi ≤ n, { v := .own id (off + lo.toNat) (hi - lo).toNat }) else none
  | none => none

theorem sliceGo_own {t : Tyi} {h : HP} {id off n : Nat} {lo hi : Int} : sliceGo t h (.own id off n) lo hi = slcC t id off n lo hi (cont h depth id) := by
  simp only [sliceGo, slcC]; cases cont h depth id <;> rfl
theorem sliceGo_lst {t : Tyi} {h : HP} {u : Bool} {sz : Nat} {es : List (List AV)} {lo hi : Int} :
    sliceGo t h (.lst u sz es) lo hi = if sz = t.sz then some (0 ≤ lo ∧ lo ≤ hi ∧ hi ≤ es.length, { v := .lst u sz ((es.drop lo.toNat).take (hi - lo).toNat) }) else none := rfl

@[simp] theorem hp_mk {s : List (Nat × AV)} {h : List (Nat × Ent)} {n id : Nat} : St.hp ⟨s, h, n⟩ id = look id h := rfl

section
variable {h : HP} {d id n k i c j l off m sz : Nat} {es : List (List AV)} {t : Tyi} {x : AV} {q : Int}

@[simp] theorem contE_mix : contE h d (some (.mix sz es)) = some (sz, es) := rfl
@[simp] theorem contE_row : contE h d (some (.row sz es)) = some (sz, es) := rfl
def contI (h : HP) (d i k sz : Nat) : Bool → Option (Nat × List (List AV)) → Option (Nat × List (List AV))
  | true, _ => none
  | false, some (_, es) => match (es.getD i []).getD k .bot with
        | .lst true sz' es' => if sz' = sz then some (sz, es') else none
        | _ => none
  | false, none => none
@[simp] theorem contE_ali : contE h d (some (.ali c i k sz)) = contI h d i k sz (isMixE (h c)) (cont h d c) := by
  simp only [contE, contI]
  cases isMixE (h c) with
  | true => rfl
  | false => simp only [Bool.false_eq_true, if_false]; cases cont h d c <;> rfl
@[simp] theorem contI_some {z : Nat} : contI h d i k sz false (some (z, es)) = match (es.getD i []).getD k .bot with
        | .lst true sz' es' => if sz' = sz then some (sz, es') else none
        | _ => none := rfl
@[simp] theorem wrE_mix : wrE h d id es (some (.mix sz es)) = some [(id, .mix sz es)] := rfl
@[simp] theorem wrE_row {fs : List (List AV)} : wrE h d id es (some (.row sz fs)) = some [(id, .row sz es)] := rfl
def wrI (h : HP) (d c i k sz : Nat) (es : List (List AV)) : Option (Nat × List (List AV)) → Option (List (Nat × Ent))
  | some (_, fs) => wr h d c (fs.set i ((fs.getD i []).set k (.lst true sz es)))
  | none => none
@[simp] theorem wrE_ali : wrE h d id es (some (.ali c i k sz)) = wrI h d c i k sz es (cont h d c) := by
  simp only [wrE, wrI]
@[simp] theorem wrI_some {z : Nat} {fs : List (List AV)} : wrI h d c i k sz es (some (z, fs)) = wr h d c (fs.set i ((fs.getD i []).set k (.lst true sz es))) := rfl
@[simp] theorem loadC_some : loadC t id i k n (some (sz, es)) = some (i < es.length ∧ k + t.sz ≤ sz, { v := bif t.agg then .agg (takeC id i k n (((es.getD i []).drop k).take t.sz)).1 else (takeC id i k n (((es.getD i []).drop k).take t.sz)).1.getD 0 .bot, new := (takeC id i k n (((es.getD i []).drop k).take t.sz)).2, cnt := t.sz }) := rfl
@[simp] theorem loadE_mix : loadE t id i k n h (some (.mix sz es)) = some (i < es.length ∧ k + t.sz ≤ sz, { v := bif t.agg then .agg (((es.getD i []).drop k).take t.sz) else (es.getD i []).getD k .bot }) := rfl
@[simp] theorem loadE_row : loadE t id i k n h (some (.row sz es)) = loadC t id i k n (some (sz, es)) := rfl
@[simp] theorem loadE_ali : loadE t id i k n h (some (.ali c j l sz)) = loadC t id i k n (cont h depth id) := rfl
@[simp] theorem loadv_rptr {cs : List AV} : loadv (some t) (.rptr cs) h n = some (t.sz ≤ cs.length, { v := bif t.agg then .agg (cs.take t.sz) else cs.getD 0 .bot }) := rfl
@[simp] theorem storeC_some {v : Value} : storeC t id i k (.val v) h (some (sz, es)) = if t.sz = 1 ∧ nonNil v = true then (wr h depth id (es.set i ((es.getD i []).set k (.val v)))).map (fun s => (i < es.length ∧ k < sz, { v := .bot, set := s })) else none := by
  simp only [storeC]; split
  · cases wr h depth id (es.set i ((es.getD i []).set k (.val v))) <;> rfl
  · rfl
@[simp] theorem storeC_own {a b c : Nat} : storeC t id i k (.own a b c) h (some (sz, es)) = none := rfl
@[simp] theorem storeE_mix : storeE t id i k x h (some (.mix sz es)) = if x.cells.length = t.sz && okAgg x then
        some (i < es.length ∧ k + t.sz ≤ sz, { v := .bot, set := [(id, .mix sz (es.set i (splice (es.getD i []) k x.cells)))] }) else none := rfl
@[simp] theorem storeE_row : storeE t id i k x h (some (.row sz es)) = storeC t id i k x h (cont h depth id) := rfl
@[simp] theorem storeE_ali : storeE t id i k x h (some (.ali c j l sz)) = storeC t id i k x h (cont h depth id) := rfl
@[simp] theorem layE_row : layE h d id n (some (.row sz es)) = if es.length = n then some (.lst true sz es, [id]) else none := rfl
@[simp] theorem layE_mix : layE h d id n (some (.mix sz es)) = if es.length = n then (layEsF (layD h d) es).map (fun p => (.lst true sz p.1, id :: p.2)) else none := by
  simp only [layE]; split
  · cases layEsF (layD h d) es <;> rfl
  · rfl
@[simp] theorem idxC_some : idxC t id off n q (some (sz, es)) = if sz = t.sz then some (0 ≤ q ∧ q < n, { v := .adr id (off + q.toNat) 0 }) else none := rfl
@[simp] theorem srcE_mix {z : Nat} : srcE h sz id off n (some (.mix z es)) = if z = sz then (layEs h ((es.drop off).take n)).map (fun p => (off + n ≤ es.length, p.1, p.2)) else none := by
  simp only [srcE]; split
  · cases layEs h ((es.drop off).take n) <;> rfl
  · rfl
@[simp] theorem srcE_row {z : Nat} : srcE h sz id off n (some (.row z es)) = if z = sz then some (off + n ≤ es.length ∧ ∀ e ∈ es, ∀ c ∈ e, isVal c = true, (es.drop off).take n, []) else none := rfl
@[simp] theorem baseE_row {z : Nat} : baseE h sz id m (some (.row z es)) = if z = sz then some (m ≤ es.length, es.take m, [id], []) else none := rfl
@[simp] theorem baseE_mix {z : Nat} : baseE h sz id m (some (.mix z es)) = if z = sz then (layEs h (es.take m)).map (fun p => (m ≤ es.length, p.1, [id], p.2)) else none := by
  simp only [baseE]; split
  · cases layEs h (es.take m) <;> rfl
  · rfl
@[simp] theorem appE_some {c1 c2 : Prop} {is d1 d2 : List Nat} {news : List (List AV)} : appE t n (some (c1, es, is, d1)) (some (c2, news, d2)) = if (n :: (is ++ (d1 ++ d2))).Nodup then
        some (c1 ∧ c2 ∧ (es.length + news.length) * t.bytes ≤ 140737488355328 ∧ es.length + news.length ≤ 140737488355328 ∧ 0 < t.sz,
          { v := .own n 0 (es.length + news.length), del := is ++ (d1 ++ d2), new := [(n, .row t.sz (es ++ news))], cnt := 1 }) else none := rfl
@[simp] theorem slcC_some {lo hi : Int} : slcC t id off n lo hi (some (sz, es)) = if sz = t.sz then some (0 ≤ lo ∧ lo ≤ hi ∧ hi ≤ n, { v := .own id (off + lo.toNat) (hi - lo).toNat }) else none := rfl
end

/- The operations, one by one. -/
def runE (P : Program) (mt : Bool) (all : Array Oper) (os : List Oper) (dst : Option Nat) (st : St) (K : St → Prop) (x : Option (Prop × Eff)) : Prop := runEW (fun st' => runOps P mt all os st' K) dst st x
def runS (P : Program) (mt : Bool) (all : Array Oper) (os : List Oper) (dst : Option Nat) (st : St) (K : St → Prop) (t : TypeId) (av xv : AV) (x : Option (Prop × Eff)) : Prop := runSW (fun st' => runOps P mt all os st' K) (stoA P mt all t av xv dst os st K) dst st x
def runO (P : Program) (mt : Bool) (all : Array Oper) (os : List Oper) (dst : Option Nat) (st : St) (K : St → Prop) (op : Op) : Prop := runOW P mt all os K (fun st' => runOps P mt all os st' K) dst st op
def guardE (P : Program) (mt : Bool) (all : Array Oper) (os : List Oper) (dst : Option Nat) (st : St) (K : St → Prop) (op : Op) (t : Nat) (want : Bool) (x : AV) : Prop := guardW P mt all os K (fun st' => runOps P mt all os st' K) dst st op t want x
def guardT (P : Program) (mt : Bool) (all : Array Oper) (os : List Oper) (dst : Option Nat) (st : St) (K : St → Prop) (op : Op) (want : Bool) (x : Option Nat) : Prop := guardTW P mt all os K (fun st' => runOps P mt all os st' K) dst st op want x

section
variable {P : Program} {mt : Bool} {all : Array Oper} {os : List Oper} {dst : Option Nat} {st : St} {K : St → Prop} {op : Op} {ty : TypeId} {pos : String} {af : Array Edge}

@[simp] theorem runE_some {c : Prop} {e : Eff} : runE P mt all os dst st K (some (c, e)) = (c ∧ runOps P mt all os (st.app dst e) K) := rfl
@[simp] theorem callE_fn {f : Nat} {caps as : List AV} : callE P mt all as dst os st K (.fn f caps) = callA P mt all f (as ++ caps) dst os st K := rfl
@[simp] theorem runO_call {x : Operand} {args : Array Operand} {ts : Array TypeId} : runO P mt all os dst st K (.call ⟨.value x, args, ts⟩) = callE P mt all (args.toList.map st.ev) dst os st K (st.ev x) := rfl
@[simp] theorem runO_move {x} : runO P mt all os dst st K (.move x) = runOps P mt all os (st.app dst { v := st.ev x }) K := by simp [runO, runOW, runEW, opF]
@[simp] theorem runO_assign {x} : runO P mt all os dst st K (.assign x) = runOps P mt all os (st.app dst { v := st.ev x }) K := by simp [runO, runOW, runEW, opF]
@[simp] theorem runO_pick {c a b} : runO P mt all os dst st K (.pick c a b) = runE P mt all os dst st K (pick (st.ev c) (st.ev a) (st.ev b)) := rfl
@[simp] theorem runO_alloc {e} : runO P mt all os dst st K (.alloc e) = runE P mt all os dst st K (Vc.alloc (tyi P e) st.n) := rfl
@[simp] theorem runO_box {t x} : runO P mt all os dst st K (.box t x) = runE P mt all os dst st K (boxv (st.ev x) st.n) := rfl
@[simp] theorem runO_build {t parts} : runO P mt all os dst st K (.build t parts) = runE P mt all os dst st K (build (tyi P t) (places P t) (parts.toList.map fun p => (p.1, st.ev p.2))) := rfl
def elmE (g : TypeId → Option (Prop × Eff)) : Option TypeId → Option (Prop × Eff)
  | some e => g e
  | none => none
@[simp] theorem elmE_some {g : TypeId → Option (Prop × Eff)} {e : TypeId} : elmE g (some e) = g e := rfl
@[simp] theorem runO_buildSlice {t len parts} : runO P mt all os dst st K (.buildSlice t len parts) = runE P mt all os dst st K (elmE (fun e => buildSlice (tyi P e) len (parts.toList.map fun p => (p.1, st.ev p.2)) st.n) (elm P t)) := by
  simp only [runO, runE, runOW, opF]; cases elm P t <;> rfl
@[simp] theorem runO_load {t a} : runO P mt all os dst st K (.load t a) = runE P mt all os dst st K (loadv (tyi P t) (st.ev a) st.hp st.n) := rfl
@[simp] theorem runO_store {t a x} : runO P mt all os dst st K (.store t a x) = runS P mt all os dst st K t (st.ev a) (st.ev x) (storev (tyi P t) (st.ev a) (st.ev x) st.hp) := rfl
@[simp] theorem runS_some {t : TypeId} {av xv : AV} {c : Prop} {e : Eff} : runS P mt all os dst st K t av xv (some (c, e)) = (c ∧ runOps P mt all os (st.app dst e) K) := rfl
@[simp] theorem runS_none {t : TypeId} {av xv : AV} : runS P mt all os dst st K t av xv none = stoA P mt all t av xv dst os st K := rfl
@[simp] theorem runO_nilCheck {x} : runO P mt all os dst st K (.nilCheck x) = runE P mt all os dst st K (nilCheck (st.ev x)) := rfl
@[simp] theorem runO_binOp {o xt x y yt} : runO P mt all os dst st K (.binOp o xt x y yt) = runE P mt all os dst st K (binopT (eqT P xt) o (st.ev x) (st.ev y)) := rfl
@[simp] theorem runO_unOp {o t x} : runO P mt all os dst st K (.unOp o t x) = runE P mt all os dst st K (unop o (st.ev x)) := rfl
@[simp] theorem runO_convert {s d x} : runO P mt all os dst st K (.convert s d x) = runE P mt all os dst st K (convI (intk P s) (intk P d) (st.ev x)) := rfl
@[simp] theorem runO_makeSlice {t l c} : runO P mt all os dst st K (.makeSlice t l c) = runE P mt all os dst st K (elmE (fun e => makeSl (tyi P e) (st.ev l) (st.ev c) st.n) (elm P t)) := by
  simp only [runO, runE, runOW, opF]; cases elm P t <;> rfl
@[simp] theorem runO_fieldAddr {t x k} : runO P mt all os dst st K (.fieldAddr t x k) = runE P mt all os dst st K (fieldAddr (fld P t k) (st.ev x)) := rfl
@[simp] theorem runO_field {t x k} : runO P mt all os dst st K (.field t x k) = runE P mt all os dst st K (fieldv (fld P t k) (st.ev x)) := rfl
@[simp] theorem runO_indexAddr {t x i} : runO P mt all os dst st K (.indexAddr t x i) = runE P mt all os dst st K (elmE (fun e => idxAddr (tyi P e) (st.ev x) (st.ev i) st.hp) (elm P t)) := by
  simp only [runO, runE, runOW, opF]; cases elm P t <;> rfl
@[simp] theorem runO_slice {t x lo hi} : runO P mt all os dst st K (.slice t x lo hi none) = runE P mt all os dst st K (elmE (fun e => slicev (tyi P e) st.hp (st.ev x) (lo.map st.ev) (hi.map st.ev)) (elm P t)) := by
  simp only [runO, runE, runOW, opF]; cases elm P t <;> rfl
@[simp] theorem runO_extract {x k} : runO P mt all os dst st K (.extract x k) = runE P mt all os dst st K (extractv (st.ev x) k) := rfl
@[simp] theorem runO_len {x t ts} (h : ts = #[t]) : runO P mt all os dst st K (.call ⟨.builtin .len, #[x], ts⟩) = runE P mt all os dst st K (elmE (fun _ => lenv (st.ev x)) (elm P t)) := by
  subst h; simp only [runO, runE, runOW, opF, bltF]; cases elm P t <;> rfl
@[simp] theorem runO_append {x y t u} : runO P mt all os dst st K (.call ⟨.builtin .append, #[x, y], #[t, u]⟩) = runE P mt all os dst st K (elmE (fun e => if t = u then appendv (tyi P e) (st.ev x) (st.ev y) st.hp st.n else none) (elm P t)) := by
  simp only [runO, runE, runOW, opF, bltF]; cases elm P t <;> rfl
@[simp] theorem runO_min {xs ts} : runO P mt all os dst st K (.call ⟨.builtin .min, xs, ts⟩) = runE P mt all os dst st K (minmax (fun a b => if b < a then b else a) (xs.toList.map st.ev)) := rfl
@[simp] theorem runO_max {xs ts} : runO P mt all os dst st K (.call ⟨.builtin .max, xs, ts⟩) = runE P mt all os dst st K (minmax (fun a b => if b > a then b else a) (xs.toList.map st.ev)) := rfl

@[simp] theorem runOps_nil : runOps P mt all [] st K = K st := rfl
@[simp] theorem runOps_go : runOps P mt all (⟨dst, op, ty, pos, af, none⟩ :: os) st K = runO P mt all os dst st K op := rfl
@[simp] theorem runOps_guard {j : Nat} {want : Bool} : runOps P mt all (⟨dst, op, ty, pos, af, some (j, want)⟩ :: os) st K = guardT P mt all os dst st K op want ((all[j]?).bind (·.dst)) := rfl
@[simp] theorem guardT_some {want : Bool} {t : Nat} : guardT P mt all os dst st K op want (some t) = guardE P mt all os dst st K op t want (st.get t) := rfl
@[simp] theorem guardE_b {want : Bool} {t : Nat} {b : Bool} : guardE P mt all os dst st K op t want (.val (.bool b)) = ((b = want → runO P mt all os dst (st.put t (.val (.bool want))) K op) ∧ (b = !want → runOps P mt all os ((st.put t (.val (.bool !want))).app dst { v := .bot }) K)) := rfl
@[simp high] theorem guardE_tt {t : Nat} : guardE P mt all os dst st K op t true (.val (.bool true)) = runO P mt all os dst (st.put t (.val (.bool true))) K op := by simp [guardE_b]
@[simp high] theorem guardE_ff {t : Nat} : guardE P mt all os dst st K op t false (.val (.bool false)) = runO P mt all os dst (st.put t (.val (.bool false))) K op := by simp [guardE_b]
@[simp high] theorem guardE_tf {t : Nat} : guardE P mt all os dst st K op t true (.val (.bool false)) = runOps P mt all os ((st.put t (.val (.bool false))).app dst { v := .bot }) K := by simp [guardE_b]
@[simp high] theorem guardE_ft {t : Nat} : guardE P mt all os dst st K op t false (.val (.bool true)) = runOps P mt all os ((st.put t (.val (.bool true))).app dst { v := .bot }) K := by simp [guardE_b]
end

attribute [simp] cont_E wr_E loadv_E storev_E layD_val layD_E idxAddr_own idxAddr_lst src_nil src_lst src_E base_nil base_E appendv_E sliceGo_own sliceGo_lst
attribute [simp] rl rlL rlLL rlE nonNil St.ev cst scB St.app putS setAll delAll slots St.get look lenv binopT binop unop pick St.put setH delH fieldAddr fieldv nilCheck depth isMixE thenA blockA roundA makeSl convI extractv slen slicev minmax fold2 build fillA splice chunk rep evenPl buildSlice layCsF layEsF layC alloc boxv takeC AV.cells isVal okAgg

end Go.Vc

/- A function keeps its contract of writing if its body does. -/
namespace Go.Vc
open Go

def ments : Nat → List Mu → List (Nat × Ent)
  | _, [] => []
  | j, u :: r => (j, .row u.sz u.es) :: ments (j + 1) r

theorem look_ments : ∀ (ms : List Mu) (j id : Nat), look id (ments j ms) = if j ≤ id ∧ id < j + ms.length then some (.row (ms.getD (id - j) .none).sz (ms.getD (id - j) .none).es) else none := by
  intro ms
  induction ms with
  | nil => intro j id; simp only [ments, look]; rw [if_neg (by simp)]
  | cons u r ih =>
    intro j id
    simp only [ments, look]
    by_cases h : j = id
    · subst h; simp
    · rw [if_neg h, ih]
      by_cases h2 : j + 1 ≤ id ∧ id < j + 1 + r.length
      · rw [if_pos h2, if_pos (by simp; omega)]
        have : id - j = (id - (j + 1)) + 1 := by omega
        rw [this, List.getD_cons_succ]
      · rw [if_neg h2, if_neg (by simp; omega)]

def resOk (ts : List Nat) (st : St) (res : AV) : Prop :=
  match ts, res with
  | [t], .val v => st.get t = .val v
  | [], .tup [] => True
  | _, _ => False

structure MRet (ts : List Nat) (res : AV) (ms : List Mu) (st : St) : Prop where
  res : resOk ts st res
  ent : ∀ j, j < ms.length → look j st.h = some (.row (ms.getD j .none).sz (ms.getD j .none).fs)

def mretQ (ts : List Nat) (res : AV) (ms : List Mu) : Exit → St → Prop
  | .normal, st => MRet ts res ms st
  | .ret, st => MRet ts res ms st
  | _, _ => False

theorem mcontract_intro {P : Program} {f : Nat} {fn : Func} {c : Code} {args : List AV} {ms : List Mu} {ts : List Nat} {res : AV} {rv : Value} (hf : P.funcs[f]? = some fn) (hb : fn.body = some c) (hrt : resT fn.results = some ts) (hrv : resV res = some rv)
    (hname : (fn.name == "runtime.NumGoroutine") = false) (hN : args.length ≤ fn.ntmps) (hlen : ∀ j, j < ms.length → (ms.getD j .none).fs.length = (ms.getD j .none).es.length)
    (h : ∀ F : Fx, F.N = fn.ntmps → F.pins = ms.length → Wp P F c (mretQ ts res ms) ⟨slots 0 args, ments 0 ms, ms.length⟩) : MContract P f args ms res := by
  refine ⟨⟨fn, hf, hname, by rw [hb]; rfl⟩, hlen, rv, hrv, fun w R o ρ vals hp => ?_⟩
  refine calls_of_wp hf hb ?_
  let C : Ctx := ⟨w, fun b => ∃ L, o b = some L, ρ, ms.length⟩
  have hment : ∀ id e, look id (ments 0 ms) = some e → id < ms.length ∧ e = .row (ms.getD id .none).sz (ms.getD id .none).es := by
    intro id e he
    rw [look_ments] at he
    split at he
    · rename_i h1; simp only [Nat.sub_zero, Option.some.injEq] at he; exact ⟨by omega, he.symm⟩
    · cases he
  have hsz := hp.size
  have hrel : Rel C R fn.ntmps { tmps := vals ++ Array.replicate (fn.ntmps - vals.size) undef, defers := [] } w ⟨slots 0 args, ments 0 ms, ms.length⟩ := by
    refine ⟨by simp; omega, rfl, fun id x h => (hment id x h).1, o, ρ, ⟨hp.hR, fun b L hb => ⟨hp.ho b L hb, .inr ⟨L, hb⟩⟩, rfl, rfl, rfl, Nat.le_refl _, fun b _ _ => rfl⟩,
      ⟨fun id sz es bk he hb => ?_, fun id sz es bk he hb => ?_, fun id c i k sz bk he hb => ?_⟩, fun t => ?_, fun id k hk => hp.lim id k hk, fun id _ => rfl, Nat.le_refl _⟩
    · have := (hment id _ he).2; cases this
    · obtain ⟨h1, h2⟩ := hment id _ he
      cases h2
      obtain ⟨v, h3, h4⟩ := hp.ent id bk h1 hb
      exact ⟨v, h4, h3⟩
    · have := (hment id _ he).2; cases this
    · simp only [St.get, look_slots]
      by_cases ht : t < args.length
      · rw [if_pos (by omega)]
        simp only [Nat.sub_zero, Option.getD_some]
        have := hp.args t ht
        have h2 : (vals ++ Array.replicate (fn.ntmps - vals.size) undef).getD t undef = vals.getD t undef := by
          simp [Array.getElem?_append, show t < vals.size by omega]
        rw [h2]; exact this
      · rw [if_neg (by omega)]; exact .bot
  refine Code.wp_mono (fun e a w' hq => ?_) (h ⟨C, R, fn.ntmps, ms.length, rfl⟩ rfl rfl _ w hrel)
  obtain ⟨st, hr, hq⟩ := hq
  have fin : MRet ts res ms st → a.defers = [] ∧ ∃ v, (results fn a.tmps).run P w' = .ok v w' ∧ (Ending.returned v = .returned rv ∧ MPost w w' R o ρ ms) := by
    intro hA
    obtain ⟨_, hdef, _, o', ρ', W, H, hx, _, hpin⟩ := hr
    refine ⟨hdef, _, run_results hrt _, ?_, W.os, W.tape, W.output, W.size, fun b hb hob => W.keep b hb (by rintro ⟨L, hL⟩; rw [hob] at hL; cases hL), o', fun b L hb => W.o b L hb, fun j bk hj hbk => ?_⟩
    · have h1 := hA.res
      unfold resOk at h1
      split at h1
      · rename_i t v
        have h2 := hx t
        rw [h1] at h2
        simp only [resV] at hrv
        split at hrv
        · cases hrv
          simp only [List.map_cons, List.map_nil, oneOr]
          rw [h2.val_eq.1]
        · cases hrv
      · simp only [resV, Option.some.injEq] at hrv
        subst hrv; rfl
      · exact h1.elim
    · obtain ⟨v, h1, h2⟩ := H.row j _ _ bk (hA.ent j hj) ((hpin.1 j hj).trans hbk)
      exact ⟨v, h2, h1⟩
  cases e with
  | normal => exact fin hq
  | ret => exact fin hq
  | _ => exact hq.elim

def isAli : Ent → Bool
  | .ali _ _ _ _ => true
  | _ => false

/-- One list that a row's cell holds is handed over. -/
theorem MCall.cell {st : St} {id r i k sz szr : Nat} {es fs : List (List AV)} {esr : List (List AV)} {dels : List Nat} (h1 : look id st.h = some (.ali r i k sz)) (h2 : look r st.h = some (.row szr esr)) (hi : i < esr.length) (hk : k < szr) (hks : k < (esr.getD i []).length)
    (hc : (esr.getD i []).getD k .bot = .lst true sz es) (hd : ∀ x ∈ dels, x < st.n) (ha : ∀ p ∈ st.h, isAli p.2 = true → p.1 ∈ dels) :
    MCall st.hp st.n [⟨sz, es, fs⟩] [id] (fun _ => [r, i, k]) [(r, .row szr (esr.set i ((esr.getD i []).set k (.lst true sz fs))))] dels := by
  have h0 : ∀ j, j < [(⟨sz, es, fs⟩ : Mu)].length → j = 0 := fun j hj => by simpa using hj
  have hset := fun j l => set_cell esr i k (.lst true sz fs) j l hi hks
  refine ⟨rfl, fun j hj => ?_, fun i' j hi' hj hij => ?_, by simp, fun r' e he => ?_, fun j r' M hj hP => ?_, hd, fun id' c i' k' s' hid he => .inl ?_⟩
  · have := h0 j hj; subst this
    exact .cell h1 h2 hi hk hc
  · have := h0 j hj; have := h0 i' hi'; omega
  · simp only [look] at he
    split at he
    · rename_i hr
      subst hr
      simp only [Option.some.injEq] at he
      subst he
      refine ⟨szr, esr, _, h2, rfl, ⟨fun j hj hP => by simp at hP, by simp, fun _ j hj => by rw [set_row], fun i2 k2 j hj hP hi2 hk2 => ?_, fun i2 k2 hi2 hk2 hm => ?_⟩⟩
      · have := h0 j hj; subst this
        simp only [List.cons.injEq, and_true, true_and] at hP
        rw [hset]
        rw [if_pos ⟨hP.1.symm, hP.2.symm⟩]; rfl
      · rw [hset]
        rw [if_neg]
        rintro ⟨rfl, rfl⟩
        exact (hm 0 (by simp)).2 rfl
    · cases he
  · simp only [List.cons.injEq] at hP
    simp [look, hP.1]
  · exact ha (id', _) (look_of_mem he) rfl

def rsets : List Nat → List Mu → List (Nat × Ent)
  | id :: m, u :: ms => (id, .row u.sz u.fs) :: rsets m ms
  | _, _ => []

theorem rsets_keys : ∀ (m : List Nat) (ms : List Mu), m.length = ms.length → (rsets m ms).map Prod.fst = m := by
  intro m
  induction m with
  | nil => intro ms _; cases ms <;> rfl
  | cons id m ih =>
    intro ms h
    cases ms with
    | nil => simp at h
    | cons u ms => simp [rsets, ih ms (by simpa using h)]

theorem rsets_look : ∀ (m : List Nat) (ms : List Mu) (r : Nat) (e : Ent), m.length = ms.length → look r (rsets m ms) = some e → ∃ j, j < ms.length ∧ m.getD j 0 = r ∧ e = .row (ms.getD j .none).sz (ms.getD j .none).fs := by
  intro m
  induction m with
  | nil => intro ms r e _ h; cases ms <;> cases h
  | cons id m ih =>
    intro ms r e hl h
    cases ms with
    | nil => simp at hl
    | cons u ms =>
      simp only [rsets, look] at h
      split at h
      · rename_i hr; cases h; exact ⟨0, by simp, by simpa using hr, rfl⟩
      · obtain ⟨j, h1, h2, h3⟩ := ih ms r e (by simpa using hl) h
        exact ⟨j + 1, by simpa using h1, by simpa using h2, by simpa using h3⟩

theorem getD_inj {m : List Nat} (hn : m.Nodup) {i j : Nat} (hi : i < m.length) (hj : j < m.length) (h : m.getD i 0 = m.getD j 0) : i = j := by
  rw [List.getD_eq_getElem?_getD, List.getD_eq_getElem?_getD, List.getElem?_eq_getElem hi, List.getElem?_eq_getElem hj] at h
  exact (List.getElem_inj hn).1 (by simpa using h)

/-- Whole lists of this call's own are handed over. -/
theorem MCall.roots {st : St} {ms : List Mu} {m : List Nat} {dels : List Nat} (hl : m.length = ms.length) (hn : m.Nodup) (hr : ∀ j, j < ms.length → look (m.getD j 0) st.h = some (.row (ms.getD j .none).sz (ms.getD j .none).es))
    (hlen : ∀ j, j < ms.length → (ms.getD j .none).fs.length = (ms.getD j .none).es.length) (hd : ∀ x ∈ dels, x < st.n) (ha : ∀ p ∈ st.h, isAli p.2 = true → p.1 ∈ dels) :
    MCall st.hp st.n ms m (fun j => [m.getD j 0]) (rsets m ms) dels := by
  refine ⟨hl, fun j hj => .root (hr j hj), fun i j hi hj hij hp => ?_, by rw [rsets_keys m ms hl]; exact hn, fun r e he => ?_, fun j r M hj hP => ?_, hd, fun id' c i' k' s' hid he => .inl ?_⟩
  · have h1 : m.getD i 0 = m.getD j 0 := by simpa using hp
    exact hij (getD_inj hn (by omega) (by omega) h1)
  · obtain ⟨j, h1, h2, h3⟩ := rsets_look m ms r e hl he
    refine ⟨_, (ms.getD j .none).es, (ms.getD j .none).fs, by rw [← h2]; exact hr j h1, h3, ⟨fun j' hj' hP => ?_, hlen j h1, fun hne => ?_, fun i k j' hj' hP => ?_, fun i k hi hk hm => ?_⟩⟩
    · have h4 : m.getD j' 0 = m.getD j 0 := by rw [h2]; simpa using hP
      rw [getD_inj hn (by omega) (by omega) h4]
    · exact absurd (by rw [h2]) (hne j h1)
    · simp at hP
    · exact absurd (by rw [h2]) (hm j h1).1
  · simp only [List.cons.injEq] at hP
    have hk : r ∈ (rsets m ms).map Prod.fst := by
      rw [rsets_keys m ms hl, ← hP.1, List.getD_eq_getElem?_getD, List.getElem?_eq_getElem (by omega)]
      simp
    cases hlk : look r (rsets m ms) with
    | some x => rfl
    | none =>
      exfalso
      obtain ⟨q, hq, hqe⟩ := List.mem_map.1 hk
      obtain ⟨a, b⟩ := q
      simp only at hqe
      subst hqe
      rw [look_mem (by rw [rsets_keys m ms hl]; exact hn) hq] at hlk
      cases hlk
  · exact ha (id', _) (look_of_mem he) rfl

/-- A whole list, and one number: the common call. -/
theorem callA_root {P : Program} {all : Array Oper} {f : Nat} {id n : Nat} {v : Value} {u : Mu} {res : AV} {dst : Option Nat} {os : List Oper} {st : St} {K : St → Prop} (hc : MContract P f [.own 0 0 n, .val v] [u] res)
    (hr : look id st.h = some (.row u.sz u.es)) (ha : ∀ p ∈ st.h, isAli p.2 = false) (h : runOps P true all os (st.app dst { v := res, set := [(id, .row u.sz u.fs)] }) K) : callA P true all f [.own id 0 n, .val v] dst os st K := by
  have h0 : ∀ j, j < [u].length → j = 0 := fun j hj => by simpa using hj
  refine callA_mut (m := [id]) hc (MCall.roots (dels := []) rfl (by simp) (fun j hj => by have := h0 j hj; subst this; exact hr) hc.len (by simp) (fun p hp hi => by rw [ha p hp] at hi; cases hi)) rfl (fun q hq => ?_) (fun j hj => ⟨0, by simp, ?_⟩) h
  · match q, hq with
    | 0, _ => exact .own (j := 0) (by simp)
    | 1, _ => exact .val
  · have := h0 j hj; subst this; rfl

/-- A list that a row's cell holds, and one number. -/
theorem callA_cell {P : Program} {all : Array Oper} {f : Nat} {id n r i k szr : Nat} {esr : List (List AV)} {v : Value} {u : Mu} {res : AV} {dst : Option Nat} {os : List Oper} {st : St} {K : St → Prop} (dels : List Nat) (hc : MContract P f [.own 0 0 n, .val v] [u] res)
    (h1 : look id st.h = some (.ali r i k u.sz)) (h2 : look r st.h = some (.row szr esr)) (hi : i < esr.length) (hk : k < szr) (hks : k < (esr.getD i []).length)
    (he : (esr.getD i []).getD k .bot = .lst true u.sz u.es) (hd : ∀ x ∈ dels, x < st.n) (ha : ∀ p ∈ st.h, isAli p.2 = true → p.1 ∈ dels)
    (h : runOps P true all os (st.app dst { v := res, set := [(r, .row szr (esr.set i ((esr.getD i []).set k (.lst true u.sz u.fs))))], del := dels }) K) : callA P true all f [.own id 0 n, .val v] dst os st K := by
  have h0 : ∀ j, j < [u].length → j = 0 := fun j hj => by simpa using hj
  refine callA_mut (m := [id]) hc (MCall.cell h1 h2 hi hk hks he hd ha) rfl (fun q hq => ?_) (fun j hj => ⟨0, by simp, ?_⟩) h
  · match q, hq with
    | 0, _ => exact .own (j := 0) (by simp)
    | 1, _ => exact .val
  · have := h0 j hj; subst this; rfl

/-- A list of this call's own (or a scalar) goes into a row's cell. -/
theorem stoA_row {P : Program} {mt : Bool} {all : Array Oper} {t : TypeId} {ty : Tyi} {xv b : AV} {id i k sz : Nat} {es : List (List AV)} {ds : List Nat} {dst : Option Nat} {os : List Oper} {st : St} {K : St → Prop} (dels : List Nat) (h1 : tyi P t = some ty) (h2 : ty.sz = 1)
    (he : look id st.h = some (.row sz es)) (hl : layC st.hp xv = some (b, ds)) (hi : i < es.length) (hk : k < sz) (hn : (id :: ds).Nodup) (hlt : ∀ y ∈ ds ++ dels, y < st.n) (ha : ∀ p ∈ st.h, isAli p.2 = true → p.1 ∈ dels)
    (h : runOps P mt all os (st.app dst { v := .bot, set := [(id, .row sz (es.set i ((es.getD i []).set k b)))], del := ds ++ dels }) K) : stoA P mt all t (.adr id i k) xv dst os st K :=
  stoA_intro dels h1 h2 ⟨he, hl, hi, hk, hn, hlt, fun id' _ _ _ _ _ h3 => .inl (ha (id', _) (look_of_mem h3) rfl)⟩ h

attribute [simp] isAli ments resOk

end Go.Vc

/- More lemmas for calls. -/
namespace Go.Vc
open Go

theorem PurTo.aggL {h : HP} {xs ys : List AV} (hp : PurL h xs ys) : PurTo h (.agg xs) (.agg ys) := .agg hp.1 hp.2

/-- A variable, read by content. -/
theorem PurTo.var {h : HP} {id sz : Nat} {row cs : List AV} (he : h id = some (.mix sz [row])) (hl : row.length ≤ sz) (hp : PurL h row cs) : PurTo h (.adr id 0 0) (.rptr cs) :=
  .adr he (by simp) (by have := hp.1; omega) fun j hj => by simpa using hp.2 j (by have := hp.1; omega)

inductive MArgL (m : List Nat) : List AV → List AV → Prop
  | nil : MArgL m [] []
  | cons {a b xs ys} : MArg m a b → MArgL m xs ys → MArgL m (a :: xs) (b :: ys)

theorem MArgL.get {m : List Nat} {xs ys : List AV} (h : MArgL m xs ys) : xs.length = ys.length ∧ ∀ k, k < ys.length → MArg m (xs.getD k .bot) (ys.getD k .bot) := by
  induction h with
  | nil => exact ⟨rfl, fun k hk => by simp at hk⟩
  | cons h _ ih =>
    refine ⟨by simp [ih.1], fun k hk => ?_⟩
    cases k with
    | zero => simpa using h
    | succ k => simpa using ih.2 k (by simpa using hk)

theorem MArg.aggL {m : List Nat} {xs ys : List AV} (h : MArgL m xs ys) : MArg m (.agg xs) (.agg ys) := .agg h.get.1 fun k hk => h.get.2 k (by have := h.get.1; omega)

inductive Roots (h : List (Nat × Ent)) : List Nat → List Mu → Prop
  | nil : Roots h [] []
  | cons {id u m ms} : look id h = some (.row u.sz u.es) → Roots h m ms → Roots h (id :: m) (u :: ms)

theorem Roots.get {h : List (Nat × Ent)} {m : List Nat} {ms : List Mu} (hr : Roots h m ms) : m.length = ms.length ∧ ∀ j, j < ms.length → look (m.getD j 0) h = some (.row (ms.getD j .none).sz (ms.getD j .none).es) := by
  induction hr with
  | nil => exact ⟨rfl, fun j hj => by simp at hj⟩
  | cons h _ ih =>
    refine ⟨by simp [ih.1], fun k hk => ?_⟩
    cases k with
    | zero => simpa using h
    | succ k => simpa using ih.2 k (by simpa using hk)

def occC (id : Nat) : AV → Bool
  | .own i _ _ => Nat.beq i id
  | _ => false

def occB (id : Nat) : AV → Bool
  | .own i _ _ => Nat.beq i id
  | .agg cs => cs.any (occC id)
  | _ => false

theorem occC_own {id : Nat} {a : AV} (h : occC id a = true) : ∃ off n, a = .own id off n := by
  unfold occC at h
  split at h
  · cases Nat.eq_of_beq_eq_true h; exact ⟨_, _, rfl⟩
  · cases h

theorem occB_occ {id : Nat} {a : AV} (h : occB id a = true) : Occ id a := by
  unfold occB at h
  split at h
  · exact Nat.eq_of_beq_eq_true h
  · rename_i cs
    obtain ⟨x, hx, hc⟩ := List.any_eq_true.1 h
    obtain ⟨l, hl, rfl⟩ := List.getElem_of_mem hx
    obtain ⟨off, n, he⟩ := occC_own hc
    exact ⟨l, hl, off, n, by simp [List.getD_eq_getElem?_getD, hl, he]⟩
  · cases h

/-- Whole lists of this call's own are handed over, in structs too. -/
theorem callA_roots {P : Program} {all : Array Oper} {f : Nat} {as args : List AV} {m : List Nat} {ms : List Mu} {res : AV} {dst : Option Nat} {os : List Oper} {st : St} {K : St → Prop} (hc : MContract P f args ms res)
    (hn : m.Nodup) (hr : Roots st.h m ms) (ha : MArgL m as args) (ho : (m.all fun id => as.any (occB id)) = true) (hali : ∀ p ∈ st.h, isAli p.2 = false)
    (h : runOps P true all os (st.app dst { v := res, set := rsets m ms }) K) : callA P true all f as dst os st K := by
  refine callA_mut (m := m) hc (MCall.roots (dels := []) hr.get.1 hn hr.get.2 hc.len (by simp) (fun p hp hi => by rw [hali p hp] at hi; cases hi)) ha.get.1 ha.get.2 (fun j hj => ?_) h
  have hj' : j < m.length := by rw [hr.get.1]; exact hj
  have := List.all_eq_true.1 ho _ (List.getElem_mem hj')
  obtain ⟨a, ha1, ha2⟩ := List.any_eq_true.1 this
  obtain ⟨k, hk, rfl⟩ := List.getElem_of_mem ha1
  refine ⟨k, by rw [← ha.get.1]; exact hk, ?_⟩
  have := occB_occ ha2
  simpa [List.getD_eq_getElem?_getD, hj', hk] using this

inductive Ents (h : List (Nat × Ent)) : Nat → List Mu → Prop
  | nil {j} : Ents h j []
  | cons {j u ms} : look j h = some (.row u.sz u.fs) → Ents h (j + 1) ms → Ents h j (u :: ms)

theorem Ents.get {h : List (Nat × Ent)} {j : Nat} {ms : List Mu} (he : Ents h j ms) : ∀ i, i < ms.length → look (j + i) h = some (.row (ms.getD i .none).sz (ms.getD i .none).fs) := by
  induction he with
  | nil => intro i hi; simp at hi
  | cons h _ ih =>
    intro i hi
    cases i with
    | zero => simpa using h
    | succ i => have := ih i (by simpa using hi); simpa [Nat.add_comm, Nat.add_left_comm] using this

theorem mret {ts : List Nat} {res : AV} {ms : List Mu} {st : St} (h1 : resOk ts st res) (h2 : Ents st.h 0 ms) : MRet ts res ms st := ⟨h1, fun j hj => by simpa using h2.get j hj⟩

end Go.Vc

/- A function that works on the caller's blocks keeps its contract if its body does. -/
namespace Go.Vc
open Go

/-- What a return gives. -/
structure IRet (ts : List Nat) (H : List (Nat × Ent)) (n : Nat) (e : Eff) (st : St) : Prop where
  res : oneOrA (ts.map st.get) = e.v
  n : st.n = n + e.cnt
  h : st.h = setAll e.set (delAll e.del H) ++ e.new

def iretQ (ts : List Nat) (H : List (Nat × Ent)) (n : Nat) (e : Eff) : Exit → St → Prop
  | .normal, st => IRet ts H n e st
  | .ret, st => IRet ts H n e st
  | _, _ => False

theorem res_rel {w : World} {R : Nat → Prop} {ρ : Nat → Option Bk} {tmps : Array Value} {st : St} (hx : ∀ t, XRel w R ρ (tmps.getD t undef) (st.get t)) (ts : List Nat) :
    XRel w R ρ (oneOr (ts.map fun t => tmps.getD t undef)) (oneOrA (ts.map st.get)) := by
  match ts with
  | [] => exact .tup rfl fun k hk => by simp at hk
  | [t] => exact hx t
  | t :: u :: r =>
    simp only [List.map_cons, oneOr, oneOrA]
    refine .tup (by simp) fun k hk => ?_
    have hk' : k < (t :: u :: r).length := by simpa using hk
    have h1 : ((tmps.getD t undef :: tmps.getD u undef :: r.map fun t => tmps.getD t undef).toArray).getD k undef = tmps.getD ((t :: u :: r)[k]) undef := by
      have : (tmps.getD t undef :: tmps.getD u undef :: r.map fun t => tmps.getD t undef) = (t :: u :: r).map fun t => tmps.getD t undef := rfl
      rw [this]
      have hk2 : k < (List.map (fun t => tmps.getD t undef) (t :: u :: r)).toArray.size := by simpa using hk'
      rw [Array.getD_eq_getD_getElem?, Array.getElem?_eq_getElem hk2, Option.getD_some]
      simp only [List.getElem_toArray, List.getElem_map]
    have h2 : (st.get t :: st.get u :: r.map st.get).getD k .bot = st.get ((t :: u :: r)[k]) := by
      have : (st.get t :: st.get u :: r.map st.get) = (t :: u :: r).map st.get := rfl
      rw [this, List.getD_eq_getElem?_getD, List.getElem?_map, List.getElem?_eq_getElem hk', Option.map_some, Option.getD_some]
    rw [h1, h2]; exact hx _

theorem icon_intro {P : Program} {f : Nat} {fn : Func} {c : Code} {as : List AV} {ts : List Nat} {H : List (Nat × Ent)} {n : Nat} {e : Eff} (hf : P.funcs[f]? = some fn) (hb : fn.body = some c) (hrt : resT fn.results = some ts)
    (hname : (fn.name == "runtime.NumGoroutine") = false) (hN : as.length ≤ fn.ntmps) (hH : ∀ p ∈ H, p.1 < n) (hfine : e.fine n) (hnew : ∀ id, n ≤ id → id < n + e.cnt → id ∈ e.new.map Prod.fst)
    (h : ∀ F : Fx, F.N = fn.ntmps → F.pins = n → Wp P F c (iretQ ts H n e) ⟨slots 0 as, H, n⟩) : ICon P f as (fun id => look id H) n e := by
  refine ⟨⟨fn, hf, hname, by rw [hb]; rfl⟩, fun _ => hfine, fun C w g h' vals hag hne hlim W HH hsz hargs => ?_⟩
  refine calls_of_wp hf hb ?_
  let C' : Ctx := ⟨w, fun b => ∃ L, g.o b = some L, g.ρ, n⟩
  have hrel : Rel C' g.R fn.ntmps { tmps := vals ++ Array.replicate (fn.ntmps - vals.size) undef, defers := [] } w ⟨slots 0 as, H, n⟩ := by
    refine ⟨by simp; omega, rfl, fun id x hx => hH (id, x) (look_of_mem hx), g.o, g.ρ, ⟨W.R, fun b L hb => ⟨(W.o b L hb).1, .inr ⟨L, hb⟩⟩, rfl, rfl, rfl, Nat.le_refl _, fun b _ _ => rfl⟩,
      HH.grow fun id k hk => (hag id (hlim id k hk)).symm, fun t => ?_, hlim, fun id _ => rfl, Nat.le_refl _⟩
    simp only [St.get, look_slots]
    by_cases ht : t < as.length
    · rw [if_pos (by omega)]
      simp only [Nat.sub_zero, Option.getD_some]
      have h2 : (vals ++ Array.replicate (fn.ntmps - vals.size) undef).getD t undef = vals.getD t undef := by
        simp [Array.getElem?_append, show t < vals.size by omega]
      rw [h2]; exact hargs t ht
    · rw [if_neg (by omega)]; exact .bot
  refine Code.wp_mono (fun ex a w' hq => ?_) (h ⟨C', g.R, fn.ntmps, n, rfl⟩ rfl rfl _ w hrel)
  obtain ⟨st, hr, hq⟩ := hq
  have fin : IRet ts H n e st → a.defers = [] ∧ ∃ v, (results fn a.tmps).run P w' = .ok v w' ∧ ∃ v' o' ρ', Ending.returned v = .returned v' ∧ WF C w' ⟨g.R, o', ρ'⟩ ∧ HRel w' ⟨g.R, o', ρ'⟩ (happ e h') ∧ (∀ id k, g.ρ id = some k → ρ' id = some k) ∧
      (∀ id k, ρ' id = some k → g.ρ id = some k ∨ (n ≤ id ∧ id < n + e.cnt)) ∧ XRel w' g.R ρ' v' e.v ∧ (∀ b, g.R b → w'.heap[b]? = w.heap[b]?) := by
    intro hA
    obtain ⟨_, hdef, _, o', ρ', W', HH', hx, hlt', hpin⟩ := hr
    obtain ⟨a1, a2, a3⟩ := hA
    have hρ1 : ∀ id, id < n → ρ' id = g.ρ id := hpin.1
    have hcC : ∀ b, b < C.w0.heap.size → ¬ C.wrb b → g.o b = none := by
      intro b hb hw
      cases ho : g.o b with
      | none => rfl
      | some L => rcases (W.o b L ho).2 with h | h
                  · omega
                  · exact absurd h hw
    have hkeep : ∀ b, b < w.heap.size → g.o b = none → w'.heap[b]? = w.heap[b]? := fun b hb ho => W'.keep b hb (by rintro ⟨L, hL⟩; rw [ho] at hL; cases hL)
    refine ⟨hdef, _, run_results hrt _, _, o', ρ', rfl, ⟨W'.R, fun b L hb => ⟨(W'.o b L hb).1, ?_⟩, W'.os.trans W.os, W'.tape.trans W.tape, W'.output.trans W.output, Nat.le_trans W.size W'.size, fun b hb hw => ?_⟩,
      HH'.grow fun id k hk => ?_, fun id k hk => (hρ1 id (hlim id k hk)).trans hk, fun id k hk => ?_, ?_, fun b hb => hkeep b (W.R b hb).1 (W.R b hb).2⟩
    · rcases (W'.o b L hb).2 with h | ⟨L', h⟩
      · exact .inl (Nat.le_trans W.size h)
      · exact (W.o b L' h).2
    · exact (hkeep b (Nat.lt_of_lt_of_le hb W.size) (hcC b hb hw)).trans (W.keep b hb hw)
    · have hid : id < n + e.cnt := by rw [← a2]; exact hlt' id k hk
      have hl : look id st.h = match happ e (fun id => look id H) id with | some x => some x | none => look id e.new := by
        have := look_app (st := ⟨[], H, n⟩) none hfine id
        simp only [St.app] at this
        rw [a3]; exact this
      show happ e h' id = look id st.h
      rw [hl]
      by_cases hlt : id < n
      · have hn : look id e.new = none := by
          cases hq : look id e.new with
          | none => rfl
          | some x => have := (hfine.new _ (look_of_mem hq)).1; simp only at this; omega
        have he : happ e h' id = happ e (fun id => look id H) id := by
          simp only [happ, hag id hlt]
        rw [he, hn]
        cases happ e (fun id => look id H) id <;> rfl
      · obtain ⟨p, hp, hpe⟩ := List.mem_map.1 (hnew id (by omega) hid)
        have h1 : happ e (fun id => look id H) id = none := by
          simp only [happ]
          have h2 : look id e.set = none := by
            cases hq : look id e.set with
            | none => rfl
            | some x => have := hfine.sets.2 _ (look_of_mem hq); simp only at this; omega
          have h3 : look id H = none := by
            cases hq : look id H with
            | none => rfl
            | some x => have := hH _ (look_of_mem hq); simp only at this; omega
          rw [h2, h3]; simp
        have h2 : happ e h' id = h' id := by
          simp only [happ]
          have h2 : look id e.set = none := by
            cases hq : look id e.set with
            | none => rfl
            | some x => have := hfine.sets.2 _ (look_of_mem hq); simp only at this; omega
          rw [h2, if_neg]
          intro hd; have := hfine.del id hd; omega
        rw [h1, h2]
        obtain ⟨i, x⟩ := p
        simp only at hpe
        subst hpe
        rw [hne _ hp, look_mem hfine.nodup hp]
    · by_cases hlt : id < n
      · exact .inl ((hρ1 id hlt).symm.trans hk)
      · exact .inr ⟨by omega, by rw [← a2]; exact hlt' id k hk⟩
    · rw [← a1]; exact res_rel hx ts
  cases ex with
  | normal => exact fin hq
  | ret => exact fin hq
  | _ => exact hq.elim

end Go.Vc

/- Results that lie in slots and in variables' cells. -/
namespace Go.Vc
open Go

/-- The results, as the slots and the cells hold them. -/
inductive RGet (P : Program) (st : St) : List ResultVar → List AV → Prop
  | nil : RGet P st [] []
  | tmp {t r as} : RGet P st r as → RGet P st (.tmp t :: r) (st.get t :: as)
  | cell {a t ty id i k sz es r as} : tyi P t = some ty → ty.agg = true → st.get a = .adr id i k → look id st.h = some (.mix sz es) → i < es.length → k + ty.sz ≤ sz → RGet P st r as →
      RGet P st (.cell a t :: r) (.agg (((es.getD i []).drop k).take ty.sz) :: as)
  | cell1 {a t ty id i k sz es r as} : tyi P t = some ty → ty.agg = false → 0 < ty.sz → st.get a = .adr id i k → look id st.h = some (.mix sz es) → i < es.length → k + ty.sz ≤ sz → RGet P st r as →
      RGet P st (.cell a t :: r) ((es.getD i []).getD k .bot :: as)

def resM (tmps : Array Value) : ResultVar → Sem Value
  | .tmp t => pure (tmps.getD t undef)
  | .cell a t => do loadVar t (← asAddr (tmps.getD a undef))

theorem rget_run {P : Program} {R : Nat → Prop} {w : World} {st : St} {o : Nat → Option (List Nat)} {ρ : Nat → Option Bk} (H : HRel w ⟨R, o, ρ⟩ st.hp) {tmps : Array Value} (hx : ∀ t, XRel w R ρ (tmps.getD t undef) (st.get t))
    {rvs : List ResultVar} {as : List AV} (hg : RGet P st rvs as) : ∃ vs : List Value, (rvs.mapM (resM tmps)).run P w = .ok vs w ∧ vs.length = as.length ∧ ∀ k, k < as.length → XRel w R ρ (vs.getD k undef) (as.getD k .bot) := by
  induction hg with
  | nil => exact ⟨[], by simp, rfl, fun k hk => by simp at hk⟩
  | @tmp t r as _ ih =>
    obtain ⟨vs, h1, h2, h3⟩ := ih
    refine ⟨tmps.getD t undef :: vs, by simp [List.mapM_cons, resM, h1], by simp [h2], fun k hk => ?_⟩
    cases k with
    | zero => exact hx t
    | succ k => exact h3 k (by simpa using hk)
  | @cell a t ty id i k sz es r as hty hag ha hl hi hk _ ih =>
    obtain ⟨vs, h1, h2, h3⟩ := ih
    have hxa := hx a
    rw [ha] at hxa
    obtain ⟨b, bsz, cap, hbk, hv⟩ := hxa.adr_eq
    obtain ⟨b', cur, el, us, hbk', ho', hh, hsz', hml, hlen, hcur, hone, hxr⟩ := (H.mix id sz es _ hl hbk).ex
    simp only [Bk.mk.injEq, Option.some.injEq] at hbk'
    obtain ⟨rfl, rfl, _⟩ := hbk'
    have hrun := run_loadVar (P := P) (w := w) hty (b := b) (x := i * bsz + k) (us := fun j => us i (k + j)) (fun j hj => by
      rw [cell_heap hh, Nat.add_assoc]; exact hcur i (k + j) hi (by omega))
    rw [hag] at hrun
    simp only [cond_true] at hrun
    have hlen2 : (((es.getD i []).drop k).take ty.sz).length = ty.sz := by rw [List.length_take, List.length_drop, hlen i hi]; omega
    have hX : XRel w R ρ (.agg ((List.range ty.sz).map fun j => us i (k + j)).toArray) (.agg (((es.getD i []).drop k).take ty.sz)) := by
      refine .agg (by rw [hlen2]; simp) ?_ ?_
      · intro j hj; rw [hlen2] at hj; rw [range_getD _ _ _ hj]; exact hone _ _ hi (by omega)
      · intro j hj
        rw [hlen2] at hj
        rw [range_getD _ _ _ hj]
        have := hxr i (k + j) hi (by omega)
        simpa [List.getD_eq_getElem?_getD, List.getElem?_take, List.getElem?_drop, hj] using this
    have hv2 : tmps.getD a undef = .pointer (some ⟨b, i * bsz + k, none⟩) := hv
    refine ⟨.agg ((List.range ty.sz).map fun j => us i (k + j)).toArray :: vs, ?_, by simp [h2], fun j hj => ?_⟩
    · rw [List.mapM_cons]
      simp [resM, hv2, asAddr, hrun, h1]
    · cases j with
      | zero => exact hX
      | succ j => exact h3 j (by simpa using hj)
  | @cell1 a t ty id i k sz es r as hty hag h0 ha hl hi hk _ ih =>
    obtain ⟨vs, h1, h2, h3⟩ := ih
    have hxa := hx a
    rw [ha] at hxa
    obtain ⟨b, bsz, cap, hbk, hv⟩ := hxa.adr_eq
    obtain ⟨b', cur, el, us, hbk', ho', hh, hsz', hml, hlen, hcur, hone, hxr⟩ := (H.mix id sz es _ hl hbk).ex
    simp only [Bk.mk.injEq, Option.some.injEq] at hbk'
    obtain ⟨rfl, rfl, _⟩ := hbk'
    have hrun := run_loadVar (P := P) (w := w) hty (b := b) (x := i * bsz + k) (us := fun j => us i (k + j)) (fun j hj => by
      rw [cell_heap hh, Nat.add_assoc]; exact hcur i (k + j) hi (by omega))
    rw [hag] at hrun
    simp only [cond_false, Nat.add_zero] at hrun
    have hv2 : tmps.getD a undef = .pointer (some ⟨b, i * bsz + k, none⟩) := hv
    refine ⟨us i k :: vs, ?_, by simp [h2], fun j hj => ?_⟩
    · rw [List.mapM_cons]
      simp [resM, hv2, asAddr, hrun, h1]
    · cases j with
      | zero => exact hxr i k hi (by omega)
      | succ j => exact h3 j (by simpa using hj)

theorem rget_results {P : Program} {w : World} {fn : Func} {rvs : List ResultVar} {tmps : Array Value} {vs : List Value} (hr : fn.results = rvs.toArray) (h : (rvs.mapM (resM tmps)).run P w = .ok vs w) : (results fn tmps).run P w = .ok (oneOr vs) w := by
  have e : results fn tmps = (do let vs ← fn.results.mapM (resM tmps); pure (if h : vs.size = 1 then vs[0] else .tuple vs)) := by
    unfold results
    congr 1
  rw [e, hr, List.mapM_toArray]
  simp only [map_eq_pure_bind]
  simp [h]
  rcases vs with _ | ⟨v, _ | ⟨u, r⟩⟩
  · simp [oneOr]
  · simp [oneOr]
  · simp [oneOr]

/-- What a return needs. -/
structure RetG (P : Program) (rvs : List ResultVar) (st : St) (rs : List AV) : Prop where
  ex : ∃ as, RGet P st rvs as ∧ RetV as st rs

def retGQ (P : Program) (rvs : List ResultVar) (rs : List AV) : Exit → St → Prop
  | .normal, st => RetG P rvs st rs
  | .ret, st => RetG P rvs st rs
  | _, _ => False

theorem contract_introG {P : Program} {f : Nat} {fn : Func} {c : Code} {args : List AV} {rvs : List ResultVar} {rs : List AV} {res : AV} (hf : P.funcs[f]? = some fn) (hb : fn.body = some c) (hrt : fn.results = rvs.toArray) (hrs : res = oneOrA rs)
    (hname : (fn.name == "runtime.NumGoroutine") = false) (hN : args.length ≤ fn.ntmps) (h : ∀ F : Fx, F.N = fn.ntmps → F.pins = 0 → Wp P F c (retGQ P rvs rs) ⟨slots 0 args, [], 0⟩) : Contract P f args res := by
  subst hrs
  refine ⟨⟨fn, hf, hname, by rw [hb]; rfl⟩, fun w R vals hR hsz hx => ?_⟩
  refine calls_of_wp hf hb ?_
  let C : Ctx := ⟨w, fun _ => False, fun _ => none, 0⟩
  have hrel : Rel C R fn.ntmps { tmps := vals ++ Array.replicate (fn.ntmps - vals.size) undef, defers := [] } w ⟨slots 0 args, [], 0⟩ := by
    refine ⟨by simp; omega, rfl, (fun id x h => by cases h), fun _ => none, noρ, ⟨fun b hb => ⟨hR b hb, rfl⟩, (fun b L hb => by cases hb), rfl, rfl, rfl, Nat.le_refl _, fun b _ _ => rfl⟩, ⟨(fun id sz es bk _ hb => by cases hb), (fun id sz es bk _ hb => by cases hb), (fun id c i k sz bk _ hb => by cases hb)⟩, fun t => ?_, (fun id k hk => by cases hk), (fun id hid => by cases hid), Nat.le_refl _⟩
    simp only [St.get, look_slots]
    by_cases ht : t < args.length
    · rw [if_pos (by omega)]
      simp only [Nat.sub_zero, Option.getD_some]
      have := hx t ht
      have h2 : (vals ++ Array.replicate (fn.ntmps - vals.size) undef).getD t undef = vals.getD t undef := by
        simp [Array.getElem?_append, show t < vals.size by omega]
      rw [h2]; exact this
    · rw [if_neg (by omega)]; exact .bot
  refine Code.wp_mono (fun e a w' hq => ?_) (h ⟨C, R, fn.ntmps, 0, rfl⟩ rfl rfl _ w hrel)
  obtain ⟨st, hr, hq⟩ := hq
  have fin : RetG P rvs st rs → a.defers = [] ∧ ∃ v, (results fn a.tmps).run P w' = .ok v w' ∧ ∃ v' o, Ending.returned v = .returned v' ∧ RowKit.Below w.heap.size w w' ∧ (∀ b L, o b = some L → w.heap.size ≤ b ∧ b < w'.heap.size) ∧ Res w' o v' (oneOrA rs) := by
    intro hA
    obtain ⟨as, hg, hv⟩ := hA.ex
    obtain ⟨_, hdef, _, o, ρ, W, H, hxx, _⟩ := hr
    obtain ⟨vs, h1, h2, h3⟩ := rget_run H hxx hg
    obtain ⟨q1, o1, q2, q3⟩ := ret_res' W H rfl hv (vs := vs) h2 h3
    exact ⟨hdef, _, rget_results hrt h1, _, o1, rfl, q1, q2, q3⟩
  cases e with
  | normal => exact fin hq
  | ret => exact fin hq
  | _ => exact hq.elim

end Go.Vc

/- Nil slices and empty literals get names and rows. -/
namespace Go.Vc
open Go

def nlA (news : List (Nat × Nat)) (a b : AV) : Prop := a = b ∨ (a = .val (.slice none 0 0) ∧ ∃ q ∈ news, b = .own q.1 0 0)

def nlL (news : List (Nat × Nat)) : List AV → List AV → Prop
  | [], [] => True
  | a :: r, b :: s => nlA news a b ∧ nlL news r s
  | _, _ => False

def entN (news : List (Nat × Nat)) : Ent → Ent → Prop
  | .mix sz [cs], .mix sz' [ds] => sz = sz' ∧ nlL news cs ds
  | .mix sz [], .row sz' es => sz = sz' ∧ es = []
  | e, e' => e = e'

theorem nlL_get {news : List (Nat × Nat)} : ∀ {cs ds : List AV}, nlL news cs ds → cs.length = ds.length ∧ ∀ k, k < cs.length → nlA news (cs.getD k .bot) (ds.getD k .bot) := by
  intro cs
  induction cs with
  | nil => intro ds h; cases ds with
    | nil => exact ⟨rfl, fun k hk => by simp at hk⟩
    | cons => exact h.elim
  | cons a r ih =>
    intro ds h
    cases ds with
    | nil => exact h.elim
    | cons b s =>
      obtain ⟨h1, h2⟩ := h
      obtain ⟨h3, h4⟩ := ih h2
      refine ⟨by simp [h3], fun k hk => ?_⟩
      cases k with
      | zero => simpa using h1
      | succ k => simpa using h4 k (by simpa using hk)

/-- What an entry may have become. -/
theorem entN_cases {news : List (Nat × Nat)} {e e' : Ent} (h : entN news e e') : e = e' ∨ (∃ sz cs ds, e = .mix sz [cs] ∧ e' = .mix sz [ds] ∧ nlL news cs ds) ∨ (∃ sz, e = .mix sz [] ∧ e' = .row sz []) := by
  unfold entN at h
  split at h
  · obtain ⟨rfl, h⟩ := h; exact .inr (.inl ⟨_, _, _, rfl, rfl, h⟩)
  · obtain ⟨rfl, rfl⟩ := h; exact .inr (.inr ⟨_, rfl, rfl⟩)
  · exact .inl h

theorem Wk.nils {F : Fx} {st st' : St} (news : List (Nat × Nat)) (hn : ∀ p ∈ news, st.n ≤ p.1 ∧ p.1 < st'.n) (hle : st.n ≤ st'.n) (hs : ∀ p ∈ st'.s, nlA news (st.get p.1) p.2 ∨ p.2 = .bot)
    (hh : ∀ p ∈ st'.h, (∃ q ∈ news, p = (q.1, .row q.2 [])) ∨ ∃ e, look p.1 st.h = some e ∧ entN news e p.2) (hnd : (news.map Prod.fst).Nodup) : Wk F st st' := by
  intro a w hr
  obtain ⟨r1, r2, r3, o, ρ, W, H, hx, hρ, hp⟩ := hr
  let ρ' : Nat → Option Bk := fun id => match look id news with | some sz => some ⟨none, sz, 0⟩ | none => ρ id
  have hnone : ∀ q ∈ news, ρ q.1 = none := by
    intro q hq
    cases h : ρ q.1 with
    | none => rfl
    | some k => have := hρ _ _ h; have := (hn q hq).1; omega
  have hold : ∀ id k, ρ id = some k → ρ' id = some k := by
    intro id k hk
    simp only [ρ']
    cases hl : look id news with
    | none => exact hk
    | some sz => have := hnone _ (look_of_mem hl); simp only at this; rw [hk] at this; cases this
  have hnew : ∀ q ∈ news, ρ' q.1 = some ⟨none, q.2, 0⟩ := by
    intro q hq
    simp only [ρ']
    rw [look_mem hnd hq]
  have hA : ∀ {v : Value} {x y : AV}, XRel w F.R ρ v x → nlA news x y → XRel w F.R ρ' v y := by
    intro v x y hv h
    rcases h with rfl | ⟨rfl, q, hq, rfl⟩
    · exact hv.mono (fun b hb => ⟨hb, rfl⟩) hold
    · obtain ⟨rfl, _⟩ := hv.val_eq
      exact .own0 (hnew q hq)
  have hent : ∀ id e', st'.hp id = some e' → (∃ q ∈ news, id = q.1 ∧ e' = .row q.2 []) ∨ ∃ e, st.hp id = some e ∧ entN news e e' := by
    intro id e' h
    rcases hh (id, e') (look_of_mem h) with ⟨q, hq, he⟩ | h
    · simp only [Prod.mk.injEq] at he; exact .inl ⟨q, hq, he.1, he.2⟩
    · exact .inr h
  have hback : ∀ id bk, ρ' id = some bk → (∃ q ∈ news, id = q.1 ∧ bk = ⟨none, q.2, 0⟩) ∨ (ρ id = some bk ∧ ∀ q ∈ news, id ≠ q.1) := by
    intro id bk h
    simp only [ρ'] at h
    cases hl : look id news with
    | some sz => rw [hl] at h; simp only [Option.some.injEq] at h; exact .inl ⟨(id, sz), look_of_mem hl, rfl, h.symm⟩
    | none =>
      rw [hl] at h
      refine .inr ⟨h, fun q hq he => ?_⟩
      subst he; rw [look_mem hnd hq] at hl; cases hl
  have hcont : ∀ (d c : Nat) (szc : Nat) (esc : List (List AV)) (bk : Bk), ρ c = some bk → cont st'.hp d c = some (szc, esc) → isMixE (st'.hp c) = false → esc = [] ∨ (cont st.hp d c = some (szc, esc) ∧ isMixE (st.hp c) = false) := by
    intro d
    induction d with
    | zero => intro c szc esc bk _ h; cases h
    | succ d ih =>
      intro c szc esc bk hb hc hm
      unfold cont at hc ⊢
      cases he : st'.hp c with
      | none => simp [he] at hc
      | some e' =>
        rw [he] at hc hm
        rcases hent c e' he with ⟨q, hq, rfl, rfl⟩ | ⟨e, h1, h2⟩
        · rw [hnone q hq] at hb; cases hb
        · rcases entN_cases h2 with rfl | ⟨sz, cs, ds, rfl, rfl, _⟩ | ⟨sz, rfl, rfl⟩
          · cases e with
            | mix => cases hm
            | row sz es => exact .inr ⟨by rw [h1]; exact hc, by rw [h1]; rfl⟩
            | ali c2 i2 k2 s2 =>
              rw [h1]
              simp only at hc ⊢
              split at hc
              · cases hc
              · rename_i hm2
                cases hc2 : cont st'.hp d c2 with
                | none => simp [hc2] at hc
                | some p =>
                  obtain ⟨sz2, es2⟩ := p
                  obtain ⟨_, bk2, hb2, _⟩ := H.ali c c2 i2 k2 s2 bk h1 hb
                  rw [hc2] at hc
                  rcases ih c2 sz2 es2 bk2 hb2 hc2 (by simpa using hm2) with rfl | ⟨q1, q2⟩
                  · simp at hc
                  · right; rw [q2, q1]; exact ⟨hc, rfl⟩
          · cases hm
          · simp only [Option.some.injEq, Prod.mk.injEq] at hc; exact .inl hc.2.symm
  refine ⟨r1, r2, fun id x hx => ?_, o, ρ', ⟨W.R, W.o, W.os, W.tape, W.output, W.size, W.keep⟩, ⟨fun id sz es bk he hb => ?_, fun id sz es bk he hb => ?_, fun id c i k sz bk he hb => ?_⟩, fun t => ?_, fun id k hk => ?_, fun id hid => ?_, Nat.le_trans hp.2 hle⟩
  · rcases hent id x hx with ⟨q, hq, rfl, _⟩ | ⟨e, he, _⟩
    · exact (hn q hq).2
    · exact Nat.lt_of_lt_of_le (r3 id e he) hle
  · rcases hent id _ he with ⟨q, hq, rfl, h⟩ | ⟨e, h1, h2⟩
    · cases h
    · rcases hback id bk hb with ⟨q, hq, rfl, rfl⟩ | ⟨hb', _⟩
      · exact absurd (r3 _ e h1) (by have := (hn q hq).1; omega)
      · rcases entN_cases h2 with rfl | ⟨s1, cs, ds, rfl, hd, hl⟩ | ⟨s1, rfl, hd⟩
        · obtain ⟨b, cur, el, us, q1, q2, q3, q4, q5, q6, q7, q8, q9⟩ := (H.mix id sz es bk h1 hb').ex
          exact ⟨b, cur, el, us, q1, q2, q3, q4, q5, q6, q7, q8, fun i k hi hk => (q9 i k hi hk).mono (fun b hb => ⟨hb, rfl⟩) hold⟩
        · cases hd
          obtain ⟨b, cur, el, us, q1, q2, q3, q4, q5, q6, q7, q8, q9⟩ := (H.mix id sz _ bk h1 hb').ex
          obtain ⟨g1, g2⟩ := nlL_get hl
          refine ⟨b, cur, el, us, q1, q2, q3, q4, q5, fun i hi => ?_, q7, q8, fun i k hi hk => ?_⟩
          · have h0 : i = 0 := by simp at hi; omega
            subst h0
            have := q6 0 (by simp)
            simpa [← g1] using this
          · have h0 : i = 0 := by simp at hi; omega
            subst h0
            have h6 := q6 0 (by simp)
            simp only [List.getD_cons_zero] at h6
            refine hA (q9 0 k (by simp) hk) ?_
            simpa using g2 k (by omega)
        · cases hd
  · rcases hent id _ he with ⟨q, hq, rfl, h⟩ | ⟨e, h1, h2⟩
    · cases h
      have := (show ρ' q.1 = some bk from hb).symm.trans (hnew q hq)
      cases this
      exact ⟨_, .nil, .nil⟩
    · rcases hback id bk hb with ⟨q, hq, rfl, rfl⟩ | ⟨hb', _⟩
      · exact absurd (r3 _ e h1) (by have := (hn q hq).1; omega)
      · rcases entN_cases h2 with rfl | ⟨s1, cs, ds, rfl, hd, hl⟩ | ⟨s1, rfl, hd⟩
        · exact H.row id sz es bk h1 hb'
        · cases hd
        · cases hd
          obtain ⟨b, cur, el, us, q1, q2, q3, q4, q5, q6, q7, q8, q9⟩ := (H.mix id sz [] bk h1 hb').ex
          subst q1
          exact ⟨.slice (some ⟨b, 0, none⟩) 0 0, .own (es := []) us q2 q3 (by simpa using q4) (Nat.le_refl _) (Nat.zero_le _) (fun i hi => by simp at hi) (fun i k hi => by simp at hi) (fun i k hi => by simp at hi) (fun i k hi => by simp at hi), .own⟩
  · rcases hent id _ he with ⟨q, hq, rfl, h⟩ | ⟨e, h1, h2⟩
    · cases h
    · rcases hback id bk hb with ⟨q, hq, rfl, rfl⟩ | ⟨hb', _⟩
      · exact absurd (r3 _ e h1) (by have := (hn q hq).1; omega)
      · rcases entN_cases h2 with rfl | ⟨s1, cs, ds, rfl, hd, hl⟩ | ⟨s1, rfl, hd⟩
        · obtain ⟨q1, bkc, q2, q3⟩ := H.ali id c i k sz bk h1 hb'
          refine ⟨q1, bkc, hold _ _ q2, fun d szc esc hc hm hi hk => ?_⟩
          rcases hcont d c szc esc bkc q2 hc hm with rfl | ⟨g1, g2⟩
          · simp at hi
          · exact q3 d szc esc g1 g2 hi hk
        · cases hd
        · cases hd
  · cases hl : look t st'.s with
    | none => simp only [St.get, hl, Option.getD_none]; exact .bot
    | some v =>
      simp only [St.get, hl, Option.getD_some]
      rcases hs _ (look_of_mem hl) with h | h
      · exact hA (hx t) h
      · simp only at h; rw [h]; exact .bot
  · rcases hback id k hk with ⟨q, hq, rfl, _⟩ | ⟨h, _⟩
    · exact (hn q hq).2
    · exact Nat.lt_of_lt_of_le (hρ id k h) hle
  · show ρ' id = _
    have hlt : id < st.n := Nat.lt_of_lt_of_le hid hp.2
    rw [← hp.1 id hid]
    simp only [ρ']
    cases hl : look id news with
    | none => rfl
    | some sz => have := (hn _ (look_of_mem hl)).1; simp only at this; omega

def hhOk (m : List (Nat × Nat)) (h : List (Nat × Ent)) (j : Nat) (e' : Ent) : Prop := (((look j (back m)).bind fun i => look i h).bind (rlE m)) = some e'

/-- Names are changed, where many stay. -/
theorem Wk.rel {F : Fx} {st st' : St} (m : List (Nat × Nat)) (h1 : (m.map Prod.fst).Nodup) (h2 : (m.map Prod.snd).Nodup) (hpin : ∀ id, id < F.pins → look id m = some id) (hn : ∀ p ∈ m, p.2 < st'.n)
    (hok : ∀ p ∈ st'.h, p.1 < st'.n) (hs : ∀ p ∈ st'.s, p.2 = rl m (st.get p.1) ∨ p.2 = .bot) (hh : ∀ p ∈ st'.h, hhOk m st.h p.1 p.2) : Wk F st st' := by
  refine Wk.relabel m h1 h2 hpin hn hok hs fun p hp => ?_
  have := hh p hp
  unfold hhOk at this
  obtain ⟨e, he, hr⟩ := Option.bind_eq_some_iff.1 this
  obtain ⟨i, hi, hl⟩ := Option.bind_eq_some_iff.1 he
  exact ⟨i, e, back_of h1 hi, hl, hr⟩

/-- Paths meet again: what is known of the state where they do. -/
theorem join {P : Program} {F : Fx} {y : Code} {AQ : Exit → St → Prop} {K : St → Prop} {G : Prop} (hK : ∀ st', Wp P F y AQ st' → K st') (S : Bool → St) (C : Prop) (h1 : (∀ b : Bool, (b = true ↔ C) → ∀ st', Wk F st' (S b) → K st') → G)
    (h2 : ∀ b : Bool, (b = true ↔ C) → Wp P F y AQ (S b)) : G := h1 fun b hb st' hw => hK st' (w_weak hw (h2 b hb))

end Go.Vc

/- What a reading gives: memory that is only read, by content. -/
namespace Go.Vc
open Go

/-- Each value of the type t that can be read has cells that read as some 'cells a'. -/
def Reads {H : Type} (enc : TypeId × Value → H) (P : Program) (w : World) (t : TypeId) {α : Type} (cells : α → List AV) : Prop :=
  ∀ fuel cs x, DataW.trod enc P w 0 (fun _ => true) true fuel t cs = some x →
    ∃ a : α, cs.length = (cells a).length ∧ ∀ k, k < cs.length → one (cs.getD k undef) ∧ RRel w (fun b => b < w.heap.size) (cs.getD k undef) ((cells a).getD k .bot)

section
variable {H : Type} {enc : TypeId × Value → H} {P : Program} {w : World}

theorem wf64 {n : Int} (h : (Lit.int .i64 n).wf = true) : sc (.int .i64 n) := by
  simp only [Lit.wf] at h
  simpa [sc] using h

theorem reads_int {t : TypeId} (ht : P.underlying t = some (.int .i64)) : Reads enc P w t (fun n : Int => [.val (.int .i64 n)]) := by
  intro fuel cs x h
  obtain ⟨n, rfl, _, hw⟩ := DataW.trod_int ht h
  refine ⟨n, rfl, fun k hk => ?_⟩
  have : k = 0 := by simpa using hk
  subst this
  exact ⟨rfl, .val (wf64 hw)⟩

theorem reads_slice {t e : TypeId} {α : Type} {cells : α → List AV} {sz : Nat} (u : Bool) (ht : P.underlying t = some (.slice e)) (hc : P.cellsOf e = sz) (hp : 0 < sz) (hl : ∀ a, (cells a).length = sz) (he : Reads enc P w e cells) :
    Reads enc P w t (fun xs : List α => [.lst u sz (xs.map cells)]) := by
  intro fuel cs x h
  subst hc
  rcases DataW.trod_slice ht h with ⟨rfl, _⟩ | ⟨a, len, cap, elems, rest, n, _, rfl, _, _, hlc, hcm, hlen, hel, _⟩
  · refine ⟨[], rfl, fun k hk => ?_⟩
    have : k = 0 := by simpa using hk
    subst this
    exact ⟨rfl, .nil (Nat.zero_le _)⟩
  · have each : ∀ i, i < len → ∃ y : List Value × α, w.cells? 0 (a.add (i * P.cellsOf e)) (P.cellsOf e) = some y.1 ∧ y.1.length = (cells y.2).length ∧
        ∀ k, k < y.1.length → one (y.1.getD k undef) ∧ RRel w (fun b => b < w.heap.size) (y.1.getD k undef) ((cells y.2).getD k .bot) := by
      intro i hi
      have h1 := hel i hi
      rw [List.getElem?_eq_getElem (by omega)] at h1
      obtain ⟨cs', h2, h3⟩ := Option.bind_eq_some_iff.1 h1
      obtain ⟨y, h4, h5⟩ := he _ _ _ h3
      exact ⟨(cs', y), h2, h4, h5⟩
    by_cases h0 : len = 0
    · refine ⟨[], rfl, fun k hk => ?_⟩
      have hk0 : k = 0 := by simpa using hk
      subst hk0 h0
      exact ⟨rfl, .nil hcm⟩
    obtain ⟨y0, _⟩ := each 0 (by omega)
    haveI : Inhabited (List Value × α) := ⟨y0⟩
    obtain ⟨y, hy⟩ := Go.Deep.choose_lt each
    refine ⟨(List.range len).map fun i => (y i).2, rfl, fun k hk => ?_⟩
    have hk0 : k = 0 := by simpa using hk
    subst hk0
    refine ⟨rfl, ?_⟩
    simp only [List.getD_cons_zero]
    · have hcell : ∀ i k, i < len → k < P.cellsOf e → w.cell? ((a.add (i * P.cellsOf e)).add k) = some ((y i).1.getD k undef) := by
        intro i k hi hk
        obtain ⟨_, g1, g2⟩ := World.cells?_some (hy i hi).1
        rw [g2 k hk, List.getD_eq_getElem?_getD, List.getElem?_eq_getElem (by omega)]; rfl
      have h00 := hcell 0 0 (by omega) hp
      have hsp : a.spot = none := by simpa [Addr.add] using World.cell?_spot h00
      obtain ⟨b, off, spot⟩ := a
      simp only at hsp
      subst hsp
      have hadd : ∀ i k, ((⟨b, off, none⟩ : Addr).add (i * P.cellsOf e)).add k = ⟨b, off + i * P.cellsOf e + k, none⟩ := by
        intro i k
        simp only [Addr.add]
        split
        · rename_i hk; subst hk
          split
          · rename_i hz; rw [hz]; rfl
          · rfl
        · split
          · rename_i hz; rw [hz]; rfl
          · rfl
      have hblk : ∃ cur el fr, w.heap[b]? = some (.cells cur el fr) := by
        rw [hadd] at h00
        simp only [World.cell?] at h00
        split at h00
        · rename_i cur el fr hh; exact ⟨cur, el, fr, hh⟩
        · cases h00
      obtain ⟨cur, el, fr, hh⟩ := hblk
      have hcur : ∀ i k, i < len → k < P.cellsOf e → cur[off + i * P.cellsOf e + k]? = some ((y i).1.getD k undef) := by
        intro i k hi hk
        have := hcell i k hi hk
        rw [hadd] at this
        simpa [World.cell?, hh] using this
      have hbs : b < w.heap.size := by
        rcases Nat.lt_or_ge b w.heap.size with h | h
        · exact h
        · rw [Array.getElem?_eq_none h] at hh; cases hh
      have hget : ∀ i, i < len → (((List.range len).map fun i => (y i).2).map cells).getD i [] = cells (y i).2 := by
        intro i hi
        simp [List.getD_eq_getElem?_getD, hi]
      have hlen2 : (((List.range len).map fun i => (y i).2).map cells).length = len := by simp
      have key := RRel.lst (w := w) (R := fun b => b < w.heap.size) (u := u) (sz := P.cellsOf e) (es := ((List.range len).map fun i => (y i).2).map cells) (b := b) (x := off) (cap := cap) (cur := cur) (e := el) (fr := fr)
        (fun i k => (y i).1.getD k undef) hbs hh (by rw [hlen2]; exact hlc) hcm (fun i hi => by rw [hlen2] at hi; rw [hget i hi]; exact hl _) (fun i k hi hk => by rw [hlen2] at hi; exact hcur i k hi hk)
        (fun i k hi hk => by rw [hlen2] at hi; exact ((hy i hi).2.2 k (by rw [(hy i hi).2.1, hl]; exact hk)).1)
        (fun i k hi hk => by rw [hlen2] at hi; rw [hget i hi]; exact ((hy i hi).2.2 k (by rw [(hy i hi).2.1, hl]; exact hk)).2)
      rw [hlen2] at key
      exact key

/-- A struct's field. -/
theorem reads_field {t : TypeId} {fs : Array Field} {cs : List Value} {n i : Nat} {f : Field} {xs : List (DataW H × List MemPlace)} {α : Type} {cells : α → List AV} {sz : Nat} (hx : xs.length = fs.size)
    (hh : ∀ (i : Nat) (f : Field), fs[i]? = some f → DataW.trod enc P w 0 (fun _ => true) true n f.type ((cs.drop f.offset).take (P.cellsOf f.type)) = xs[i]?) (hf : fs[i]? = some f) (ht : f.type = t) (hs : P.cellsOf t = sz) (hle : f.offset + sz ≤ cs.length) (hr : Reads enc P w t cells) :
    ∃ a : α, (cells a).length = sz ∧ ∀ k, k < sz → one (cs.getD (f.offset + k) undef) ∧ RRel w (fun b => b < w.heap.size) (cs.getD (f.offset + k) undef) ((cells a).getD k .bot) := by
  subst ht hs
  have hi : i < fs.size := by
    rcases Nat.lt_or_ge i fs.size with h | h
    · exact h
    · rw [Array.getElem?_eq_none h] at hf; cases hf
  have h1 := hh i f hf
  rw [List.getElem?_eq_getElem (by omega)] at h1
  obtain ⟨a, h2, h3⟩ := hr _ _ _ h1
  have hl : ((cs.drop f.offset).take (P.cellsOf f.type)).length = P.cellsOf f.type := by simp; omega
  refine ⟨a, by rw [← h2, hl], fun k hk => ?_⟩
  have := h3 k (by rw [hl]; exact hk)
  have e : ((cs.drop f.offset).take (P.cellsOf f.type)).getD k undef = cs.getD (f.offset + k) undef := by
    simp [List.getD_eq_getElem?_getD, List.getElem?_take, List.getElem?_drop, hk]
  rw [e] at this
  exact this

end
end Go.Vc

/- Pointers into variables; literals of pointers. -/
namespace Go.Vc
open Go

theorem PurTo.field {h : HP} {id k sz : Nat} {row cs : List AV} (he : h id = some (.mix sz [row])) (hl : k + cs.length ≤ sz) (hp : PurL h ((row.drop k).take cs.length) cs) : PurTo h (.adr id 0 k) (.rptr cs) :=
  .adr he (by simp) hl fun j hj => by
    have := hp.2 j (by rw [hp.1]; exact hj)
    simpa [List.getD_eq_getElem?_getD, List.getElem?_take, List.getElem?_drop, hj] using this

inductive PurLL (h : HP) (sz : Nat) : List (List AV) → List (List AV) → Prop
  | nil : PurLL h sz [] []
  | cons {r s rs ss} : s.length = sz → PurL h r s → PurLL h sz rs ss → PurLL h sz (r :: rs) (s :: ss)
theorem PurLL.get {h : HP} {sz : Nat} {rs ss : List (List AV)} (hp : PurLL h sz rs ss) : rs.length = ss.length ∧ ∀ i, i < ss.length → (ss.getD i []).length = sz ∧ PurL h (rs.getD i []) (ss.getD i []) := by
  induction hp with
  | nil => exact ⟨rfl, fun i hi => by simp at hi⟩
  | cons h1 h2 _ ih =>
    refine ⟨by simp [ih.1], fun i hi => ?_⟩
    cases i with
    | zero => exact ⟨h1, h2⟩
    | succ i => simpa using ih.2 i (by simpa using hi)
theorem PurTo.lits {h : HP} {id n sz : Nat} {u : Bool} {es fs : List (List AV)} (he : h id = some (.mix sz es)) (hp : PurLL h sz es fs) (hn : n = fs.length) : PurTo h (.own id 0 n) (.lst u sz fs) := by
  subst hn
  refine .mix he (by rw [hp.get.1]; omega) rfl (fun i hi => (hp.get.2 i hi).1) fun i k hi hk => ?_
  have := hp.get.2 i hi
  rw [Nat.zero_add]
  exact this.2.2 k (by rw [this.2.1, this.1]; exact hk)

end Go.Vc
