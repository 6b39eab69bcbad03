/- A part of the proof: a verified generator of conditions, and what each function of the program does. -/
import Derived.Test.YtkafionfghoggaaO5
import Derived.Laws.BytesString
set_option maxRecDepth 100000
set_option linter.unusedSimpArgs false
set_option linter.unusedVariables false

set_option maxRecDepth 100000
namespace Go.Vc
open Go
def callX (P : Program) (mt : Bool) (all : Array Oper) (f : Nat) (az : List AV) (dst : Option Nat) (os : List Oper) (st : St) (K : St → Prop) : Prop :=
 callA P mt all f az dst os st K ∨ ∃ keep bs res, PurK keep st.hp az bs ∧ FContract P keep f bs res ∧ goOps P mt all os (st.app dst { v := res }) K
def callEX (P : Program) (mt : Bool) (all : Array Oper) (az : List AV) (dst : Option Nat) (os : List Oper) (st : St) (K : St → Prop) : AV → Prop
 | .fn f caps => callX P mt all f (az ++ caps) dst os st K
 | _ => False
def inZ (fz : List Nat) : Option Nat → Bool
 | some d => fz.contains d
 | none => false
def makeSX (P : Program) (et : Option TypeId) (l c : AV) (n : Nat) : Option (Prop × Eff) :=
 match et with
 | some e => makeSz ((elm P e).bind (tyi P)) (tyi P e) l c n
 | none => none
noncomputable def opX (P : Program) (fz : List Nat) (dst : Option Nat) (op : Op) (ev : Operand → AV) (h : HP) (n : Nat) : Option (Prop × Eff) :=
 match op with
 | .box t x => bif inZ fz dst then boxr (ev x) else boxv (ev x) n
 | .call ⟨.builtin .append, ⟨[s, x]⟩, ⟨[t, u]⟩⟩ => match elm P t with
   | some e => if t = u then (bif inZ fz dst then appM (tyi P e) (ev s) (ev x) h n else appendv (tyi P e) (ev s) (ev x) h n) else none
   | none => none
 | .call ⟨.builtin .len, ⟨[x]⟩, ⟨[t]⟩⟩ => bif inZ fz dst then lenm (mty P t) (mcont h (ev x)) else match elm P t with
   | some _ => lenv (ev x)
   | none => none
 | .makeSlice t l c => bif inZ fz dst then makeSX P (elm P t) (ev l) (ev c) n else match elm P t with
   | some e => makeSl (tyi P e) (ev l) (ev c) n
   | none => none
 | .makeFunc (.func f) ⟨[]⟩ caps => some (True, { v := .fn f (caps.toList.map ev) })
 | .makeMap t none => makv (mty P t) n
 | .lookup t x k ok => lookv (mty P t) (mcont h (ev x)) (ev k) ok
 | .mapUpdate t x k y => updv (mty P t) h (ev x) (ev k) (ev y)
 | op => opF P op ev h n
theorem opX_op {P : Program} {mt : Bool} {fz : List Nat} {dst : Option Nat} {op : Op} {ev : Operand → AV} {h : HP} {n : Nat} {c : Prop} {e : Eff} (hx : opX P fz dst op ev h n = some (c, e)) (hc : c) : AOp P mt op ev h n e := by
 unfold opX at hx
 split at hx
 · rename_i t x
   cases hz : inZ fz dst with
   | true => rw [hz] at hx; exact .boxr rfl hx
   | false => rw [hz] at hx; exact .blt hx hc
 · rename_i s x t u
   split at hx
   · rename_i e0 hel
     split at hx
     · rename_i htu
       subst htu
       cases hz : inZ fz dst with
       | true => rw [hz] at hx; exact .appM rfl hel hx hc
       | false =>
         rw [hz] at hx
         refine .blt (c := c) ?_ hc
         simp only [opF, bltF, hel, if_true]
         exact hx
     cases hx
   cases hx
 · rename_i x t
   cases hz : inZ fz dst with
   | true => rw [hz] at hx; exact .mapo hx hc
   | false => rw [hz] at hx; exact .blt hx hc
 · rename_i t l cc
   cases hz : inZ fz dst with
   | true =>
     rw [hz] at hx
     simp only [cond_true] at hx
     unfold makeSX at hx
     split at hx
     · rename_i et hel; exact .mkz rfl hel hx hc
     cases hx
   | false => rw [hz] at hx; exact .blt hx hc
 · simp only [Option.some.injEq, Prod.mk.injEq] at hx
   obtain ⟨_, rfl⟩ := hx
   exact .mkf rfl
 · exact .mapo hx hc
 · exact .mapo hx hc
 · exact .mapo hx hc
 exact .blt hx hc
def runXW (P : Program) (mt : Bool) (fz : List Nat) (all : Array Oper) (os : List Oper) (K R : St → Prop) (dst : Option Nat) (st : St) (op : Op) : Prop :=
 match op with
 | .call ⟨.value x, args, _⟩ => callEX P mt all (args.toList.map st.ev) dst os st K (st.ev x)
 | .store t a x => runSW R (stoA P mt all t (st.ev a) (st.ev x) dst os st K) dst st (storev (tyi P t) (st.ev a) (st.ev x) st.hp)
 | op => runEW R dst st (opX P fz dst op st.ev st.hp st.n)
def guardXW (P : Program) (mt : Bool) (fz : List Nat) (all : Array Oper) (os : List Oper) (K R : St → Prop) (dst : Option Nat) (st : St) (op : Op) (t : Nat) (want : Bool) : AV → Prop
 | .val (.bool b) => (b = want → runXW P mt fz all os K R dst (st.put t (.val (.bool want))) op) ∧ (b = !want → R ((st.put t (.val (.bool !want))).app dst { v := .tup [] }))
 | .tup [] => R (st.app dst { v := .tup [] })
 | _ => False
def guardTXW (P : Program) (mt : Bool) (fz : List Nat) (all : Array Oper) (os : List Oper) (K R : St → Prop) (dst : Option Nat) (st : St) (op : Op) (want : Bool) : Option Nat → Prop
 | some t => guardXW P mt fz all os K R dst st op t want (st.get t)
 | none => False
def runX (P : Program) (mt : Bool) (fz : List Nat) (all : Array Oper) : List Oper → St → (St → Prop) → Prop
 | [], st, K => K st
 | o :: os, st, K => match o.guard with
   | none => runXW P mt fz all os K (fun st' => runX P mt fz all os st' K) o.dst st o.op
   | some (j, want) => guardTXW P mt fz all os K (fun st' => runX P mt fz all os st' K) o.dst st o.op want ((all[j]?).bind (·.dst))
theorem goX_one {P : Program} {mt : Bool} {fz : List Nat} {all : Array Oper} {o : Oper} {os : List Oper} {st : St} {K R : St → Prop} (hw : wantA all o st = some true)
   (ih : ∀ st', R st' → goOps P mt all os st' K) (h : runXW P mt fz all os K R o.dst st o.op) : goOps P mt all (o :: os) st K := by
 refine .inl ⟨hw, ?_⟩
 unfold runXW at h
 split at h
 · rename_i x args ts ho
   unfold callEX at h
   split at h
   · rename_i f caps hx
     rcases h with (⟨bs, res, h1, h2, h3⟩ | ⟨h0, args, ms, res, m, Pt, sets, dels, h1, h2, h3, h4, h5, h6⟩ | ⟨h0, e, h1, h2⟩) | ⟨keep, bs, res, h1, h2, h3⟩
     · exact ⟨_, .call ho rfl hx h1 h2, h3⟩
     · exact ⟨_, .mcall h0 ho rfl hx h1 h2 h3 h4 h5, h6⟩
     · exact ⟨_, .icall h0 ho rfl hx h1, h2⟩
     exact ⟨_, .fcall ho rfl hx h1 h2, h3⟩
   exact h.elim
 · rename_i t a x ho
   unfold runSW at h
   split at h
   · rename_i c e he
     exact ⟨e, .blt (by rw [ho]; exact he) h.1, ih _ h.2⟩
   obtain ⟨ty, id, i, k, b, sz, es, ds, dels, h1, h2, h3, h4, h5⟩ := h
   exact ⟨_, .sto ho h1 h2 h3 h4, h5⟩
 unfold runEW at h
 split at h
 · rename_i c e he
   exact ⟨e, opX_op he h.1, ih _ h.2⟩
 exact h.elim
theorem goX_run {P : Program} {mt : Bool} {fz : List Nat} {all : Array Oper} : ∀ (os : List Oper) (st : St) (K : St → Prop), runX P mt fz all os st K → goOps P mt all os st K := by
 intro os
 induction os with
 | nil => intro st K h; exact h
 | cons o os ih =>
   intro st K h
   unfold runX at h
   split at h
   · rename_i hg
     exact goX_one (by simp [wantA, hg]) (fun st' => ih st' K) h
   rename_i j want hg
   unfold guardTXW at h
   split at h
   · rename_i t ht
     unfold guardXW at h
     split at h
     · rename_i b hb
       have hput : ∀ b', b = b' → st.put t (.val (.bool b')) = st := by rintro _ rfl; exact St.put_get hb (by simp)
       obtain ⟨h1, h2⟩ := h
       by_cases hbw : b = want
       · have h1 := h1 hbw
         rw [hput _ hbw] at h1
         exact goX_one (by simp only [wantA, hg, ht, hb, hbw, beq_self_eq_true]) (fun st' => ih st' K) h1
       have hb' : b = !want := by cases b <;> cases want <;> simp_all
       have h2 := h2 hb'
       rw [hput _ hb'] at h2
       refine .inr ⟨?_, ih _ _ h2⟩
       have : (b == want) = false := by simpa using hbw
       simp only [wantA, hg, ht, hb, this]
     · rename_i htt
       refine .inr ⟨?_, ih _ _ h⟩
       simp only [wantA, hg, ht, htt]
     exact h.elim
   exact h.elim
section
variable {P : Program} {mt : Bool} {fz : List Nat} {all : Array Oper} {f : Nat} {az bs : List AV} {res : AV} {dst : Option Nat} {os : List Oper} {st : St} {K : St → Prop}
theorem callX_intro (hc : Contract P f bs res) (hp : PurL st.hp az bs) (h : runX P mt fz all os (st.app dst (unk st.n res)) K) : callX P mt all f az dst os st K := .inl (.inl ⟨bs, res, hp, hc, goX_run _ _ _ h⟩)
theorem callX_in {e : Eff} (hc : ICon P f az st.hp st.n e) (h : runX P true fz all os (st.app dst e) K) : callX P true all f az dst os st K := .inl (.inr (.inr ⟨rfl, e, hc, goX_run _ _ _ h⟩))
theorem stoX_intro {t : TypeId} {ty : Tyi} {xv b : AV} {id i k sz : Nat} {es : List (List AV)} {ds : List Nat} (dels : List Nat) (h1 : tyi P t = some ty) (h2 : ty.sz = 1)
   (h3 : Sto st.hp st.n id i k xv b sz es ds dels) (h : runX P mt fz all os (st.app dst { v := .bot, set := [(id, .row sz (es.set i ((es.getD i []).set k b)))], del := ds ++ dels }) K) : stoA P mt all t (.adr id i k) xv dst os st K :=
 ⟨ty, id, i, k, b, sz, es, ds, dels, h1, h2, rfl, h3, goX_run _ _ _ h⟩
end
theorem w_runX {P : Program} {F : Fx} {AQ : Exit → St → Prop} {st : St} {id : Nat} {ops : Array Oper} {d : Bool} (fz : List Nat) (hm : P.follows .mixedOrders = true) (hok : (okN F.N ops && (!d || (okReg false ops && okBack ops))) = true)
   (h : ∀ K : St → Prop, (∀ st', AQ .normal st' → K st') → runX P false fz ops ops.toList st K) : Wp P F (.region id ops d) AQ st :=
 w_region hm hok fun K hK => goX_run _ _ _ (h K hK)
theorem w_runXM {P : Program} {F : Fx} {AQ : Exit → St → Prop} {st : St} {id : Nat} {ops : Array Oper} {d : Bool} (fz : List Nat) (hm : P.follows .mixedOrders = true) (hok : (okN F.N ops && (!d || (okReg true ops && okBack ops))) = true)
   (h : ∀ K : St → Prop, (∀ st', AQ .normal st' → K st') → runX P true fz ops ops.toList st K) : Wp P F (.region id ops d) AQ st :=
 w_region hm hok fun K hK => goX_run _ _ _ (h K hK)
def rE (P : Program) (mt : Bool) (fz : List Nat) (all : Array Oper) (os : List Oper) (dst : Option Nat) (st : St) (K : St → Prop) (x : Option (Prop × Eff)) : Prop := runEW (fun st' => runX P mt fz all os st' K) dst st x
def rS (P : Program) (mt : Bool) (fz : List Nat) (all : Array Oper) (os : List Oper) (dst : Option Nat) (st : St) (K : St → Prop) (t : TypeId) (av xv : AV) (x : Option (Prop × Eff)) : Prop := runSW (fun st' => runX P mt fz all os st' K) (stoA P mt all t av xv dst os st K) dst st x
def rO (P : Program) (mt : Bool) (fz : List Nat) (all : Array Oper) (os : List Oper) (dst : Option Nat) (st : St) (K : St → Prop) (op : Op) : Prop := runXW P mt fz all os K (fun st' => runX P mt fz all os st' K) dst st op
section
variable {P : Program} {mt : Bool} {fz : List Nat} {all : Array Oper} {os : List Oper} {dst : Option Nat} {st : St} {K : St → Prop} {op : Op} {ty : TypeId} {pos : String} {af : Array Edge}
@[simp] theorem rE_some {c : Prop} {e : Eff} : rE P mt fz all os dst st K (some (c, e)) = (c ∧ runX P mt fz all os (st.app dst e) K) := rfl
@[simp] theorem callEX_fn {f : Nat} {caps az : List AV} : callEX P mt all az dst os st K (.fn f caps) = callX P mt all f (az ++ caps) dst os st K := rfl
@[simp] theorem rO_call {x : Operand} {args : Array Operand} {ts : Array TypeId} : rO P mt fz all os dst st K (.call ⟨.value x, args, ts⟩) = callEX P mt all (args.toList.map st.ev) dst os st K (st.ev x) := rfl
@[simp] theorem rO_move {x} : rO P mt fz all os dst st K (.move x) = runX P mt fz all os (st.app dst { v := st.ev x }) K := by simp [rO, runXW, runEW, opX, opF]
@[simp] theorem rO_assign {x} : rO P mt fz all os dst st K (.assign x) = runX P mt fz all os (st.app dst { v := st.ev x }) K := by simp [rO, runXW, runEW, opX, opF]
@[simp] theorem rO_pick {c a b} : rO P mt fz all os dst st K (.pick c a b) = rE P mt fz all os dst st K (pick (st.ev c) (st.ev a) (st.ev b)) := rfl
@[simp] theorem rO_alloc {e} : rO P mt fz all os dst st K (.alloc e) = rE P mt fz all os dst st K (Vc.alloc (tyi P e) st.n) := rfl
@[simp] theorem rO_box {t x} : rO P mt fz all os dst st K (.box t x) = rE P mt fz all os dst st K (bif inZ fz dst then boxr (st.ev x) else boxv (st.ev x) st.n) := rfl
@[simp] theorem rO_build {t parts} : rO P mt fz all os dst st K (.build t parts) = rE P mt fz all os dst st K (build (tyi P t) (places P t) (parts.toList.map fun p => (p.1, st.ev p.2))) := rfl
@[simp] theorem rO_load {t a} : rO P mt fz all os dst st K (.load t a) = rE P mt fz all os dst st K (loadv (tyi P t) (st.ev a) st.hp st.n) := rfl
@[simp] theorem rO_store {t a x} : rO P mt fz all os dst st K (.store t a x) = rS P mt fz all os dst st K t (st.ev a) (st.ev x) (storev (tyi P t) (st.ev a) (st.ev x) st.hp) := rfl
@[simp] theorem rS_some {t : TypeId} {av xv : AV} {c : Prop} {e : Eff} : rS P mt fz all os dst st K t av xv (some (c, e)) = (c ∧ runX P mt fz all os (st.app dst e) K) := rfl
@[simp] theorem rS_none {t : TypeId} {av xv : AV} : rS P mt fz all os dst st K t av xv none = stoA P mt all t av xv dst os st K := rfl
@[simp] theorem rO_nilCheck {x} : rO P mt fz all os dst st K (.nilCheck x) = rE P mt fz all os dst st K (nilCheck (st.ev x)) := rfl
@[simp] theorem rO_binOp {o xt x y yt} : rO P mt fz all os dst st K (.binOp o xt x y yt) = rE P mt fz all os dst st K (binopT (eqT P xt) o (st.ev x) (st.ev y)) := rfl
@[simp] theorem rO_unOp {o t x} : rO P mt fz all os dst st K (.unOp o t x) = rE P mt fz all os dst st K (unop o (st.ev x)) := rfl
@[simp] theorem rO_convert {s d x} : rO P mt fz all os dst st K (.convert s d x) = rE P mt fz all os dst st K (convI (intk P s) (intk P d) (st.ev x)) := rfl
@[simp] theorem rO_makeSlice {t l c} : rO P mt fz all os dst st K (.makeSlice t l c) = rE P mt fz all os dst st K (bif inZ fz dst then makeSX P (elm P t) (st.ev l) (st.ev c) st.n else elmE (fun e => makeSl (tyi P e) (st.ev l) (st.ev c) st.n) (elm P t)) := by
 simp only [rO, rE, runXW, opX, opF]; cases elm P t <;> rfl
@[simp] theorem makeSX_some {e : TypeId} {l c : AV} {n : Nat} : makeSX P (some e) l c n = makeSz ((elm P e).bind (tyi P)) (tyi P e) l c n := rfl
attribute [simp] makeSz zc
@[simp] theorem rO_fieldAddr {t x k} : rO P mt fz all os dst st K (.fieldAddr t x k) = rE P mt fz all os dst st K (fieldAddr (fld P t k) (st.ev x)) := rfl
@[simp] theorem rO_field {t x k} : rO P mt fz all os dst st K (.field t x k) = rE P mt fz all os dst st K (fieldv (fld P t k) (st.ev x)) := rfl
@[simp] theorem rO_indexAddr {t x i} : rO P mt fz all os dst st K (.indexAddr t x i) = rE P mt fz all os dst st K (elmE (fun e => idxAddr (tyi P e) (st.ev x) (st.ev i) st.hp) (elm P t)) := by
 simp only [rO, rE, runXW, opX, opF]; cases elm P t <;> rfl
@[simp] theorem rO_extract {x k} : rO P mt fz all os dst st K (.extract x k) = rE P mt fz all os dst st K (extractv (st.ev x) k) := rfl
@[simp] theorem rO_len {x t} : rO P mt fz all os dst st K (.call ⟨.builtin .len, #[x], #[t]⟩) = rE P mt fz all os dst st K (bif inZ fz dst then lenm (mty P t) (mcont st.hp (st.ev x)) else elmE (fun _ => lenv (st.ev x)) (elm P t)) := by
 simp only [rO, rE, runXW, opX]; cases inZ fz dst <;> cases elm P t <;> rfl
@[simp] theorem rO_min {xs ts} : rO P mt fz all os dst st K (.call ⟨.builtin .min, xs, ts⟩) = rE P mt fz all os dst st K (minmax (fun a b => if b < a then b else a) (xs.toList.map st.ev)) := rfl
@[simp] theorem rO_max {xs ts} : rO P mt fz all os dst st K (.call ⟨.builtin .max, xs, ts⟩) = rE P mt fz all os dst st K (minmax (fun a b => if b > a then b else a) (xs.toList.map st.ev)) := rfl
@[simp] theorem rO_makeFunc {f caps} : rO P mt fz all os dst st K (.makeFunc (.func f) #[] caps) = rE P mt fz all os dst st K (some (True, { v := .fn f (caps.toList.map st.ev) })) := rfl
@[simp] theorem rO_makeMap {t} : rO P mt fz all os dst st K (.makeMap t none) = rE P mt fz all os dst st K (makv (mty P t) st.n) := rfl
@[simp] theorem rO_lookup {t x k ok} : rO P mt fz all os dst st K (.lookup t x k ok) = rE P mt fz all os dst st K (lookv (mty P t) (mcont st.hp (st.ev x)) (st.ev k) ok) := rfl
@[simp] theorem rO_mapUpdate {t x k y} : rO P mt fz all os dst st K (.mapUpdate t x k y) = rE P mt fz all os dst st K (updv (mty P t) st.hp (st.ev x) (st.ev k) (st.ev y)) := rfl
@[simp] theorem runX_nil : runX P mt fz all [] st K = K st := rfl
@[simp] theorem runX_go : runX P mt fz all (⟨dst, op, ty, pos, af, none⟩ :: os) st K = rO P mt fz all os dst st K op := rfl
end
section
variable {h : HP} {n : Nat} {sz off m id : Nat} {es : List (List AV)} {kd : MK} {me : List (Value × Value)} {z : Value} {t : Tyi}
def srcME (sz off m : Nat) : Option Ent → Option (Prop × List (List AV))
 | some (.mix sz' es) => if sz' = sz then some (off + m ≤ es.length, (es.drop off).take m) else none
 | _ => none
def baseME (sz id m : Nat) : Option Ent → Option (Prop × List (List AV) × List Nat)
 | some (.mix sz' es) => if sz' = sz then some (m = es.length, es, [id]) else none
 | _ => none
def mcontE : Option Ent → Option (MK × List (Value × Value))
 | some (.mapE kd es) => some (kd, es)
 | _ => none
noncomputable def updE (kd : MK) (id : Nat) (kv v : Value) : Option Ent → Option (Prop × Eff)
 | some (.mapE kd' es) => if kd' = kd ∧ kd.is kv = true then some (es.length < 1099511627776, { v := .bot, set := [(id, .mapE kd (mset kv v es))] }) else none
 | _ => none
theorem srcM_nil : srcM h sz (.val (.slice none 0 0)) = some (True, []) := rfl
theorem srcM_lst {u : Bool} {sz' : Nat} : srcM h sz (.lst u sz' es) = if sz' = sz then some (True, es) else none := rfl
theorem srcM_E : srcM h sz (.own id off m) = srcME sz off m (h id) := rfl
@[simp] theorem srcME_mix {sz' : Nat} : srcME sz off m (some (.mix sz' es)) = if sz' = sz then some (off + m ≤ es.length, (es.drop off).take m) else none := rfl
theorem baseM_nil : baseM h sz (.val (.slice none 0 0)) = some (True, [], []) := rfl
theorem baseM_E : baseM h sz (.own id 0 m) = baseME sz id m (h id) := rfl
@[simp] theorem baseME_mix {sz' : Nat} : baseME sz id m (some (.mix sz' es)) = if sz' = sz then some (m = es.length, es, [id]) else none := rfl
def appME (t : Tyi) (n : Nat) : Option (Prop × List (List AV) × List Nat) → Option (Prop × List (List AV)) → Option (Prop × Eff)
 | some (c1, es, i), some (c2, news) => some ((0 < news.length ∨ i ≠ []) ∧ n ∉ i ∧ c1 ∧ c2 ∧ (es.length + news.length) * t.bytes ≤ 140737488355328 ∧ es.length + news.length ≤ 140737488355328 ∧ 0 < t.sz,
       { v := .own n 0 (es.length + news.length), del := i, new := [(n, .mix t.sz (es ++ news))], cnt := 1 })
 | _, _ => none
theorem appM_E {s x : AV} : appM (some t) s x h n = appME t n (baseM h t.sz s) (srcM h t.sz x) := by
 simp only [appM, appME]
 cases baseM h t.sz s with
 | none => rfl
 | some p => cases srcM h t.sz x <;> rfl
@[simp] theorem appME_some {c1 c2 : Prop} {i : List Nat} {news : List (List AV)} : appME t n (some (c1, es, i)) (some (c2, news)) = some ((0 < news.length ∨ i ≠ []) ∧ n ∉ i ∧ c1 ∧ c2 ∧ (es.length + news.length) * t.bytes ≤ 140737488355328 ∧ es.length + news.length ≤ 140737488355328 ∧ 0 < t.sz,
       { v := .own n 0 (es.length + news.length), del := i, new := [(n, .mix t.sz (es ++ news))], cnt := 1 }) := rfl
theorem mcont_mp : mcont h (.mp id) = mcontE (h id) := rfl
theorem mcont_cmap : mcont h (.cmap kd me) = some (kd, me) := rfl
@[simp] theorem mcontE_map : mcontE (some (.mapE kd me)) = some (kd, me) := rfl
theorem lookv_some {kd' : MK} {kv : Value} {ok : Bool} : lookv (some (kd, z)) (some (kd', me)) (.val kv) ok = if kd' = kd ∧ kd.is kv = true then
     some (True, { v := bif ok then .tup [.val ((mfind kv me).getD z), .val (.bool (mfind kv me).isSome)] else .val ((mfind kv me).getD z) }) else none := rfl
theorem updv_mp {kv v : Value} : updv (some (kd, z)) h (.mp id) (.val kv) (.val v) = updE kd id kv v (h id) := rfl
@[simp] theorem updE_map {kd' : MK} {kv v : Value} : updE kd id kv v (some (.mapE kd' me)) = if kd' = kd ∧ kd.is kv = true then some (me.length < 1099511627776, { v := .bot, set := [(id, .mapE kd (mset kv v me))] }) else none := rfl
theorem makv_some : makv (some (kd, z)) n = some (True, { v := .mp n, new := [(n, .mapE kd [])], cnt := 1 }) := rfl
theorem lenm_some {p : MK × Value} {kd' : MK} : lenm (some p) (some (kd', me)) = some (True, { v := .val (.int .i64 me.length) }) := rfl
end
theorem boxr_if {x : AV} : boxr x = if x.cells.all AV.ro && x.shr then some (True, { v := .rptr x.cells }) else none := rfl
attribute [simp] srcM_nil srcM_lst srcM_E baseM_nil baseM_E appM_E mcont_mp mcont_cmap lookv_some updv_mp makv_some lenm_some boxr_if inZ AV.ro AV.shr MK.is
attribute [simp] rl
end Go.Vc

set_option maxRecDepth 100000
namespace Go.Vc
open Go
theorem wp_wk {P : Program} {F : Fx} {c : Code} {AQ : Exit → St → Prop} {st : St} (h : Wp P F c (fun e st => ∃ st', Wk F st st' ∧ AQ e st') st) : Wp P F c AQ st := by
 intro a w hr
 refine wp_mono (h a w hr) fun e a w he => ?_
 obtain ⟨st1, h1, st2, h2, h3⟩ := he
 exact ⟨st2, h2 a w h1, h3⟩
def iretWQ (F : Fx) (ts : List Nat) (H : List (Nat × Ent)) (n : Nat) (e : Eff) : Exit → St → Prop
 | .normal, st => ∃ st', Wk F st st' ∧ IRet ts H n e st'
 | .ret, st => ∃ st', Wk F st st' ∧ IRet ts H n e st'
 | _, _ => False
theorem icon_introW {P : Program} {f : Nat} {fn : Func} {c : Code} {az : List AV} {ts : List Nat} {H : List (Nat × Ent)} {n : Nat} {e : Eff} (hf : P.funcs[f]? = some fn) (hb : fn.body = some c) (hrt : resT fn.results = some ts)
   (hname : (fn.name == "runtime.NumGoroutine") = false) (hN : az.length ≤ fn.ntmps) (hH : ∀ p ∈ H, p.1 < n) (hfine : e.fine n) (hnew : ∀ id, n ≤ id → id < n + e.cnt → id ∈ e.new.map Prod.fst)
   (h : ∀ F : Fx, F.N = fn.ntmps → F.pins = n → Wp P F c (iretWQ F ts H n e) ⟨slots 0 az, H, n⟩) : ICon P f az (fun id => look id H) n e := by
 refine icon_intro hf hb hrt hname hN hH hfine hnew fun F h1 h2 => wp_wk (Wp.mono ?_ (h F h1 h2))
 intro ex st hq
 cases ex with
 | normal => exact hq
 | ret => exact hq
 | _ => exact hq.elim
theorem iw_r {F : Fx} {ts : List Nat} {H : List (Nat × Ent)} {n : Nat} {e : Eff} {st st' : St} (h : Wk F st st') (h2 : IRet ts H n e st') : iretWQ F ts H n e .ret st := ⟨st', h, h2⟩
theorem iw_n {F : Fx} {ts : List Nat} {H : List (Nat × Ent)} {n : Nat} {e : Eff} {st st' : St} (h : Wk F st st') (h2 : IRet ts H n e st') : iretWQ F ts H n e .normal st := ⟨st', h, h2⟩
def pinsB (n : Nat) (m : List (Nat × Nat)) : Bool := (List.range n).all fun i => look i m == some i
theorem pins_ok {n : Nat} {m : List (Nat × Nat)} (h : pinsB n m = true) : ∀ id, id < n → look id m = some id := by
 intro id hid
 unfold pinsB at h
 have := List.all_eq_true.1 h id (List.mem_range.2 hid)
 simpa using this
theorem Wk.rP {F : Fx} {st st' : St} (n : Nat) (m : List (Nat × Nat)) (hP : F.pins = n) (hpin : pinsB n m = true)
   (h : (m.map Prod.fst).Nodup ∧ (m.map Prod.snd).Nodup ∧ (∀ p ∈ m, p.2 < st'.n) ∧ (∀ p ∈ st'.h, p.1 < st'.n) ∧ (∀ p ∈ st'.s, p.2 = rl m (st.get p.1) ∨ p.2 = .bot) ∧ ∀ p ∈ st'.h, hhOk m st.h p.1 p.2) : Wk F st st' :=
 Wk.rel m h.1 h.2.1 (by rw [hP]; exact pins_ok hpin) h.2.2.1 h.2.2.2.1 h.2.2.2.2.1 h.2.2.2.2.2
theorem fineI {e : Eff} {n : Nat} (h : (∀ p ∈ e.new, n ≤ p.1 ∧ p.1 < n + e.cnt) ∧ (e.new.map Prod.fst).Nodup ∧ (∀ x ∈ e.del, x < n) ∧ (e.set.map Prod.fst).Nodup ∧ ∀ p ∈ e.set, p.1 < n) : e.fine n := ⟨h.1, h.2.1, h.2.2.1, h.2.2.2⟩
def newB (n cnt : Nat) (l : List Nat) : Bool := (List.range cnt).all fun i => l.contains (n + i)
theorem newI {e : Eff} {n : Nat} (h : newB n e.cnt (e.new.map Prod.fst) = true) : ∀ id, n ≤ id → id < n + e.cnt → id ∈ e.new.map Prod.fst := by
 intro id h1 h2
 unfold newB at h
 have := List.all_eq_true.1 h (id - n) (List.mem_range.2 (by omega))
 rw [show n + (id - n) = id by omega] at this
 simpa using this
end Go.Vc
