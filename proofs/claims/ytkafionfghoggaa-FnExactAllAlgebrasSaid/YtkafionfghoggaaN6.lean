/- A part of the proof: a verified generator of conditions, and what each function of the program does. -/
import Derived.Test.YtkafionfghoggaaN5
import Derived.Laws.BytesString
set_option maxRecDepth 100000
set_option linter.unusedSimpArgs false
set_option linter.unusedVariables false

set_option maxRecDepth 100000
namespace Go.Vc
open Go
def callX (P : Program) (mt : Bool) (all : Array Oper) (f : Nat) (az : List AV) (dst : Option Nat) (os : List Oper) (st : St) (K : St → Prop) : Prop :=
 callA P mt all f az dst os st K ∨ ∃ keep bs res, PurK keep st.hp az bs ∧ FContract P keep f bs res ∧ goOps P mt all os (st.app dst { v := res }) K
def callEX (P : Program) (mt : Bool) (all : Array Oper) (az : List AV) (dst : Option Nat) (os : List Oper) (st : St) (K : St → Prop) : AV → Prop
 | .fn f caps => callX P mt all f (az ++ caps) dst os st K
 | _ => False
def inZ (fz : List Nat) : Option Nat → Bool
 | some d => fz.contains d
 | none => false
def makeSX (P : Program) (et : Option TypeId) (l c : AV) (n : Nat) : Option (Prop × Eff) :=
 match et with
 | some e => makeSz ((elm P e).bind (tyi P)) (tyi P e) l c n
 | none => none
noncomputable def opX (P : Program) (fz : List Nat) (dst : Option Nat) (op : Op) (ev : Operand → AV) (h : HP) (n : Nat) : Option (Prop × Eff) :=
 match op with
 | .box t x => bif inZ fz dst then boxr (ev x) else boxv (ev x) n
 | .call ⟨.builtin .append, ⟨[s, x]⟩, ⟨[t, u]⟩⟩ => match elm P t with
   | some e => if t = u then (bif inZ fz dst then appM (tyi P e) (ev s) (ev x) h n else appendv (tyi P e) (ev s) (ev x) h n) else none
   | none => none
 | .call ⟨.builtin .len, ⟨[x]⟩, ⟨[t]⟩⟩ => bif inZ fz dst then lenm (mty P t) (mcont h (ev x)) else match elm P t with
   | some _ => lenv (ev x)
   | none => none
 | .makeSlice t l c => bif inZ fz dst then makeSX P (elm P t) (ev l) (ev c) n else match elm P t with
   | some e => makeSl (tyi P e) (ev l) (ev c) n
   | none => none
 | .makeMap t none => makv (mty P t) n
 | .lookup t x k ok => lookv (mty P t) (mcont h (ev x)) (ev k) ok
 | .mapUpdate t x k y => updv (mty P t) h (ev x) (ev k) (ev y)
 | op => opF P op ev h n
theorem opX_op {P : Program} {mt : Bool} {fz : List Nat} {dst : Option Nat} {op : Op} {ev : Operand → AV} {h : HP} {n : Nat} {c : Prop} {e : Eff} (hx : opX P fz dst op ev h n = some (c, e)) (hc : c) : AOp P mt op ev h n e := by
 unfold opX at hx
 split at hx
 · rename_i t x
   cases hz : inZ fz dst with
   | true => rw [hz] at hx; exact .boxr rfl hx
   | false => rw [hz] at hx; exact .blt hx hc
 · rename_i s x t u
   split at hx
   · rename_i e0 hel
     split at hx
     · rename_i htu
       subst htu
       cases hz : inZ fz dst with
       | true => rw [hz] at hx; exact .appM rfl hel hx hc
       | false =>
         rw [hz] at hx
         refine .blt (c := c) ?_ hc
         simp only [opF, bltF, hel, if_true]
         exact hx
     cases hx
   cases hx
 · rename_i x t
   cases hz : inZ fz dst with
   | true => rw [hz] at hx; exact .mapo hx hc
   | false => rw [hz] at hx; exact .blt hx hc
 · rename_i t l cc
   cases hz : inZ fz dst with
   | true =>
     rw [hz] at hx
     simp only [cond_true] at hx
     unfold makeSX at hx
     split at hx
     · rename_i et hel; exact .mkz rfl hel hx hc
     cases hx
   | false => rw [hz] at hx; exact .blt hx hc
 · exact .mapo hx hc
 · exact .mapo hx hc
 · exact .mapo hx hc
 exact .blt hx hc
def runXW (P : Program) (mt : Bool) (fz : List Nat) (all : Array Oper) (os : List Oper) (K R : St → Prop) (dst : Option Nat) (st : St) (op : Op) : Prop :=
 match op with
 | .call ⟨.value x, args, _⟩ => callEX P mt all (args.toList.map st.ev) dst os st K (st.ev x)
 | .store t a x => runSW R (stoA P mt all t (st.ev a) (st.ev x) dst os st K) dst st (storev (tyi P t) (st.ev a) (st.ev x) st.hp)
 | op => runEW R dst st (opX P fz dst op st.ev st.hp st.n)
def guardXW (P : Program) (mt : Bool) (fz : List Nat) (all : Array Oper) (os : List Oper) (K R : St → Prop) (dst : Option Nat) (st : St) (op : Op) (t : Nat) (want : Bool) : AV → Prop
 | .val (.bool b) => (b = want → runXW P mt fz all os K R dst (st.put t (.val (.bool want))) op) ∧ (b = !want → R ((st.put t (.val (.bool !want))).app dst { v := .tup [] }))
 | .tup [] => R (st.app dst { v := .tup [] })
 | _ => False
def guardTXW (P : Program) (mt : Bool) (fz : List Nat) (all : Array Oper) (os : List Oper) (K R : St → Prop) (dst : Option Nat) (st : St) (op : Op) (want : Bool) : Option Nat → Prop
 | some t => guardXW P mt fz all os K R dst st op t want (st.get t)
 | none => False
def runX (P : Program) (mt : Bool) (fz : List Nat) (all : Array Oper) : List Oper → St → (St → Prop) → Prop
 | [], st, K => K st
 | o :: os, st, K => match o.guard with
   | none => runXW P mt fz all os K (fun st' => runX P mt fz all os st' K) o.dst st o.op
   | some (j, want) => guardTXW P mt fz all os K (fun st' => runX P mt fz all os st' K) o.dst st o.op want ((all[j]?).bind (·.dst))
theorem goX_one {P : Program} {mt : Bool} {fz : List Nat} {all : Array Oper} {o : Oper} {os : List Oper} {st : St} {K R : St → Prop} (hw : wantA all o st = some true)
   (ih : ∀ st', R st' → goOps P mt all os st' K) (h : runXW P mt fz all os K R o.dst st o.op) : goOps P mt all (o :: os) st K := by
 refine .inl ⟨hw, ?_⟩
 unfold runXW at h
 split at h
 · rename_i x args ts ho
   unfold callEX at h
   split at h
   · rename_i f caps hx
     rcases h with (⟨bs, res, h1, h2, h3⟩ | ⟨h0, args, ms, res, m, Pt, sets, dels, h1, h2, h3, h4, h5, h6⟩ | ⟨h0, e, h1, h2⟩) | ⟨keep, bs, res, h1, h2, h3⟩
     · exact ⟨_, .call ho rfl hx h1 h2, h3⟩
     · exact ⟨_, .mcall h0 ho rfl hx h1 h2 h3 h4 h5, h6⟩
     · exact ⟨_, .icall h0 ho rfl hx h1, h2⟩
     exact ⟨_, .fcall ho rfl hx h1 h2, h3⟩
   exact h.elim
 · rename_i t a x ho
   unfold runSW at h
   split at h
   · rename_i c e he
     exact ⟨e, .blt (by rw [ho]; exact he) h.1, ih _ h.2⟩
   obtain ⟨ty, id, i, k, b, sz, es, ds, dels, h1, h2, h3, h4, h5⟩ := h
   exact ⟨_, .sto ho h1 h2 h3 h4, h5⟩
 unfold runEW at h
 split at h
 · rename_i c e he
   exact ⟨e, opX_op he h.1, ih _ h.2⟩
 exact h.elim
theorem goX_run {P : Program} {mt : Bool} {fz : List Nat} {all : Array Oper} : ∀ (os : List Oper) (st : St) (K : St → Prop), runX P mt fz all os st K → goOps P mt all os st K := by
 intro os
 induction os with
 | nil => intro st K h; exact h
 | cons o os ih =>
   intro st K h
   unfold runX at h
   split at h
   · rename_i hg
     exact goX_one (by simp [wantA, hg]) (fun st' => ih st' K) h
   rename_i j want hg
   unfold guardTXW at h
   split at h
   · rename_i t ht
     unfold guardXW at h
     split at h
     · rename_i b hb
       have hput : ∀ b', b = b' → st.put t (.val (.bool b')) = st := by rintro _ rfl; exact St.put_get hb (by simp)
       obtain ⟨h1, h2⟩ := h
       by_cases hbw : b = want
       · have h1 := h1 hbw
         rw [hput _ hbw] at h1
         exact goX_one (by simp only [wantA, hg, ht, hb, hbw, beq_self_eq_true]) (fun st' => ih st' K) h1
       have hb' : b = !want := by cases b <;> cases want <;> simp_all
       have h2 := h2 hb'
       rw [hput _ hb'] at h2
       refine .inr ⟨?_, ih _ _ h2⟩
       have : (b == want) = false := by simpa using hbw
       simp only [wantA, hg, ht, hb, this]
     · rename_i htt
       refine .inr ⟨?_, ih _ _ h⟩
       simp only [wantA, hg, ht, htt]
     exact h.elim
   exact h.elim
section
variable {P : Program} {mt : Bool} {fz : List Nat} {all : Array Oper} {f : Nat} {az bs : List AV} {res : AV} {dst : Option Nat} {os : List Oper} {st : St} {K : St → Prop}
theorem callX_intro (hc : Contract P f bs res) (hp : PurL st.hp az bs) (h : runX P mt fz all os (st.app dst (unk st.n res)) K) : callX P mt all f az dst os st K := .inl (.inl ⟨bs, res, hp, hc, goX_run _ _ _ h⟩)
theorem callX_fro (keep : Bool) (hc : FContract P keep f bs res) (hp : PurK keep st.hp az bs) (h : runX P mt fz all os (st.app dst { v := res }) K) : callX P mt all f az dst os st K := .inr ⟨keep, bs, res, hp, hc, goX_run _ _ _ h⟩
theorem PurK.ofN {h : HP} (hp : PurL (fun _ => none) az bs) : PurK true h az bs := hp
end
theorem w_runX {P : Program} {F : Fx} {AQ : Exit → St → Prop} {st : St} {id : Nat} {ops : Array Oper} {d : Bool} (fz : List Nat) (hm : P.follows .mixedOrders = true) (hok : (okN F.N ops && (!d || (okReg false ops && okBack ops))) = true)
   (h : ∀ K : St → Prop, (∀ st', AQ .normal st' → K st') → runX P false fz ops ops.toList st K) : Wp P F (.region id ops d) AQ st :=
 w_region hm hok fun K hK => goX_run _ _ _ (h K hK)
def rE (P : Program) (mt : Bool) (fz : List Nat) (all : Array Oper) (os : List Oper) (dst : Option Nat) (st : St) (K : St → Prop) (x : Option (Prop × Eff)) : Prop := runEW (fun st' => runX P mt fz all os st' K) dst st x
def rO (P : Program) (mt : Bool) (fz : List Nat) (all : Array Oper) (os : List Oper) (dst : Option Nat) (st : St) (K : St → Prop) (op : Op) : Prop := runXW P mt fz all os K (fun st' => runX P mt fz all os st' K) dst st op
section
variable {P : Program} {mt : Bool} {fz : List Nat} {all : Array Oper} {os : List Oper} {dst : Option Nat} {st : St} {K : St → Prop} {op : Op} {ty : TypeId} {pos : String} {af : Array Edge}
@[simp] theorem rE_some {c : Prop} {e : Eff} : rE P mt fz all os dst st K (some (c, e)) = (c ∧ runX P mt fz all os (st.app dst e) K) := rfl
@[simp] theorem callEX_fn {f : Nat} {caps az : List AV} : callEX P mt all az dst os st K (.fn f caps) = callX P mt all f (az ++ caps) dst os st K := rfl
@[simp] theorem rO_call {x : Operand} {args : Array Operand} {ts : Array TypeId} : rO P mt fz all os dst st K (.call ⟨.value x, args, ts⟩) = callEX P mt all (args.toList.map st.ev) dst os st K (st.ev x) := rfl
@[simp] theorem rO_move {x} : rO P mt fz all os dst st K (.move x) = runX P mt fz all os (st.app dst { v := st.ev x }) K := by simp [rO, runXW, runEW, opX, opF]
@[simp] theorem rO_assign {x} : rO P mt fz all os dst st K (.assign x) = runX P mt fz all os (st.app dst { v := st.ev x }) K := by simp [rO, runXW, runEW, opX, opF]
@[simp] theorem rO_pick {c a b} : rO P mt fz all os dst st K (.pick c a b) = rE P mt fz all os dst st K (pick (st.ev c) (st.ev a) (st.ev b)) := rfl
@[simp] theorem rO_alloc {e} : rO P mt fz all os dst st K (.alloc e) = rE P mt fz all os dst st K (Vc.alloc (tyi P e) st.n) := rfl
@[simp] theorem rO_box {t x} : rO P mt fz all os dst st K (.box t x) = rE P mt fz all os dst st K (bif inZ fz dst then boxr (st.ev x) else boxv (st.ev x) st.n) := rfl
@[simp] theorem rO_build {t parts} : rO P mt fz all os dst st K (.build t parts) = rE P mt fz all os dst st K (build (tyi P t) (places P t) (parts.toList.map fun p => (p.1, st.ev p.2))) := rfl
@[simp] theorem rO_buildSlice {t len parts} : rO P mt fz all os dst st K (.buildSlice t len parts) = rE P mt fz all os dst st K (elmE (fun e => buildSlice (tyi P e) len (parts.toList.map fun p => (p.1, st.ev p.2)) st.n) (elm P t)) := by
 simp only [rO, rE, runXW, opX, opF]; cases elm P t <;> rfl
@[simp] theorem rO_load {t a} : rO P mt fz all os dst st K (.load t a) = rE P mt fz all os dst st K (loadv (tyi P t) (st.ev a) st.hp st.n) := rfl
@[simp] theorem rO_nilCheck {x} : rO P mt fz all os dst st K (.nilCheck x) = rE P mt fz all os dst st K (nilCheck (st.ev x)) := rfl
@[simp] theorem rO_binOp {o xt x y yt} : rO P mt fz all os dst st K (.binOp o xt x y yt) = rE P mt fz all os dst st K (binopT (eqT P xt) o (st.ev x) (st.ev y)) := rfl
@[simp] theorem rO_unOp {o t x} : rO P mt fz all os dst st K (.unOp o t x) = rE P mt fz all os dst st K (unop o (st.ev x)) := rfl
@[simp] theorem rO_convert {s d x} : rO P mt fz all os dst st K (.convert s d x) = rE P mt fz all os dst st K (convI (intk P s) (intk P d) (st.ev x)) := rfl
@[simp] theorem makeSX_some {e : TypeId} {l c : AV} {n : Nat} : makeSX P (some e) l c n = makeSz ((elm P e).bind (tyi P)) (tyi P e) l c n := rfl
attribute [simp] makeSz zc
@[simp] theorem rO_fieldAddr {t x k} : rO P mt fz all os dst st K (.fieldAddr t x k) = rE P mt fz all os dst st K (fieldAddr (fld P t k) (st.ev x)) := rfl
@[simp] theorem rO_field {t x k} : rO P mt fz all os dst st K (.field t x k) = rE P mt fz all os dst st K (fieldv (fld P t k) (st.ev x)) := rfl
@[simp] theorem rO_indexAddr {t x i} : rO P mt fz all os dst st K (.indexAddr t x i) = rE P mt fz all os dst st K (elmE (fun e => idxAddr (tyi P e) (st.ev x) (st.ev i) st.hp) (elm P t)) := by
 simp only [rO, rE, runXW, opX, opF]; cases elm P t <;> rfl
@[simp] theorem rO_extract {x k} : rO P mt fz all os dst st K (.extract x k) = rE P mt fz all os dst st K (extractv (st.ev x) k) := rfl
@[simp] theorem rO_len {x t} : rO P mt fz all os dst st K (.call ⟨.builtin .len, #[x], #[t]⟩) = rE P mt fz all os dst st K (bif inZ fz dst then lenm (mty P t) (mcont st.hp (st.ev x)) else elmE (fun _ => lenv (st.ev x)) (elm P t)) := by
 simp only [rO, rE, runXW, opX]; cases inZ fz dst <;> cases elm P t <;> rfl
@[simp] theorem rO_append {x y t u} : rO P mt fz all os dst st K (.call ⟨.builtin .append, #[x, y], #[t, u]⟩) = rE P mt fz all os dst st K (elmE (fun e => if t = u then (bif inZ fz dst then appM (tyi P e) (st.ev x) (st.ev y) st.hp st.n else appendv (tyi P e) (st.ev x) (st.ev y) st.hp st.n) else none) (elm P t)) := by
 simp only [rO, rE, runXW, opX]; cases elm P t <;> rfl
@[simp] theorem rO_min {xs ts} : rO P mt fz all os dst st K (.call ⟨.builtin .min, xs, ts⟩) = rE P mt fz all os dst st K (minmax (fun a b => if b < a then b else a) (xs.toList.map st.ev)) := rfl
@[simp] theorem rO_max {xs ts} : rO P mt fz all os dst st K (.call ⟨.builtin .max, xs, ts⟩) = rE P mt fz all os dst st K (minmax (fun a b => if b > a then b else a) (xs.toList.map st.ev)) := rfl
@[simp] theorem rO_makeMap {t} : rO P mt fz all os dst st K (.makeMap t none) = rE P mt fz all os dst st K (makv (mty P t) st.n) := rfl
@[simp] theorem rO_lookup {t x k ok} : rO P mt fz all os dst st K (.lookup t x k ok) = rE P mt fz all os dst st K (lookv (mty P t) (mcont st.hp (st.ev x)) (st.ev k) ok) := rfl
@[simp] theorem rO_mapUpdate {t x k y} : rO P mt fz all os dst st K (.mapUpdate t x k y) = rE P mt fz all os dst st K (updv (mty P t) st.hp (st.ev x) (st.ev k) (st.ev y)) := rfl
@[simp] theorem runX_nil : runX P mt fz all [] st K = K st := rfl
@[simp] theorem runX_go : runX P mt fz all (⟨dst, op, ty, pos, af, none⟩ :: os) st K = rO P mt fz all os dst st K op := rfl
end
section
variable {h : HP} {n : Nat} {sz off m id : Nat} {es : List (List AV)} {kd : MK} {me : List (Value × Value)} {z : Value} {t : Tyi}
def srcME (sz off m : Nat) : Option Ent → Option (Prop × List (List AV))
 | some (.mix sz' es) => if sz' = sz then some (off + m ≤ es.length, (es.drop off).take m) else none
 | _ => none
def baseME (sz id m : Nat) : Option Ent → Option (Prop × List (List AV) × List Nat)
 | some (.mix sz' es) => if sz' = sz then some (m = es.length, es, [id]) else none
 | _ => none
def mcontE : Option Ent → Option (MK × List (Value × Value))
 | some (.mapE kd es) => some (kd, es)
 | _ => none
noncomputable def updE (kd : MK) (id : Nat) (kv v : Value) : Option Ent → Option (Prop × Eff)
 | some (.mapE kd' es) => if kd' = kd ∧ kd.is kv = true then some (es.length < 1099511627776, { v := .bot, set := [(id, .mapE kd (mset kv v es))] }) else none
 | _ => none
theorem srcM_nil : srcM h sz (.val (.slice none 0 0)) = some (True, []) := rfl
theorem srcM_lst {u : Bool} {sz' : Nat} : srcM h sz (.lst u sz' es) = if sz' = sz then some (True, es) else none := rfl
theorem srcM_E : srcM h sz (.own id off m) = srcME sz off m (h id) := rfl
@[simp] theorem srcME_mix {sz' : Nat} : srcME sz off m (some (.mix sz' es)) = if sz' = sz then some (off + m ≤ es.length, (es.drop off).take m) else none := rfl
theorem baseM_nil : baseM h sz (.val (.slice none 0 0)) = some (True, [], []) := rfl
theorem baseM_E : baseM h sz (.own id 0 m) = baseME sz id m (h id) := rfl
@[simp] theorem baseME_mix {sz' : Nat} : baseME sz id m (some (.mix sz' es)) = if sz' = sz then some (m = es.length, es, [id]) else none := rfl
def appME (t : Tyi) (n : Nat) : Option (Prop × List (List AV) × List Nat) → Option (Prop × List (List AV)) → Option (Prop × Eff)
 | some (c1, es, i), some (c2, news) => some ((0 < news.length ∨ i ≠ []) ∧ n ∉ i ∧ c1 ∧ c2 ∧ (es.length + news.length) * t.bytes ≤ 140737488355328 ∧ es.length + news.length ≤ 140737488355328 ∧ 0 < t.sz,
       { v := .own n 0 (es.length + news.length), del := i, new := [(n, .mix t.sz (es ++ news))], cnt := 1 })
 | _, _ => none
theorem appM_E {s x : AV} : appM (some t) s x h n = appME t n (baseM h t.sz s) (srcM h t.sz x) := by
 simp only [appM, appME]
 cases baseM h t.sz s with
 | none => rfl
 | some p => cases srcM h t.sz x <;> rfl
@[simp] theorem appME_some {c1 c2 : Prop} {i : List Nat} {news : List (List AV)} : appME t n (some (c1, es, i)) (some (c2, news)) = some ((0 < news.length ∨ i ≠ []) ∧ n ∉ i ∧ c1 ∧ c2 ∧ (es.length + news.length) * t.bytes ≤ 140737488355328 ∧ es.length + news.length ≤ 140737488355328 ∧ 0 < t.sz,
       { v := .own n 0 (es.length + news.length), del := i, new := [(n, .mix t.sz (es ++ news))], cnt := 1 }) := rfl
theorem mcont_mp : mcont h (.mp id) = mcontE (h id) := rfl
theorem mcont_cmap : mcont h (.cmap kd me) = some (kd, me) := rfl
@[simp] theorem mcontE_map : mcontE (some (.mapE kd me)) = some (kd, me) := rfl
theorem lookv_some {kd' : MK} {kv : Value} {ok : Bool} : lookv (some (kd, z)) (some (kd', me)) (.val kv) ok = if kd' = kd ∧ kd.is kv = true then
     some (True, { v := bif ok then .tup [.val ((mfind kv me).getD z), .val (.bool (mfind kv me).isSome)] else .val ((mfind kv me).getD z) }) else none := rfl
theorem updv_mp {kv v : Value} : updv (some (kd, z)) h (.mp id) (.val kv) (.val v) = updE kd id kv v (h id) := rfl
@[simp] theorem updE_map {kd' : MK} {kv v : Value} : updE kd id kv v (some (.mapE kd' me)) = if kd' = kd ∧ kd.is kv = true then some (me.length < 1099511627776, { v := .bot, set := [(id, .mapE kd (mset kv v me))] }) else none := rfl
theorem makv_some : makv (some (kd, z)) n = some (True, { v := .mp n, new := [(n, .mapE kd [])], cnt := 1 }) := rfl
theorem lenm_some {p : MK × Value} {kd' : MK} : lenm (some p) (some (kd', me)) = some (True, { v := .val (.int .i64 me.length) }) := rfl
end
theorem boxr_if {x : AV} : boxr x = if x.cells.all AV.ro && x.shr then some (True, { v := .rptr x.cells }) else none := rfl
attribute [simp] srcM_nil srcM_lst srcM_E baseM_nil baseM_E appM_E mcont_mp mcont_cmap lookv_some updv_mp makv_some lenm_some boxr_if inZ AV.ro AV.shr MK.is
attribute [simp] rl
structure RetF (keep : Bool) (ts : List Nat) (st : St) (rs : List AV) : Prop where
 len : rs.length = ts.length
 pur : ∀ k, k < ts.length → PurTo st.hp (st.get (ts.getD k 0)) (rs.getD k .bot)
 own : keep = false → ∀ k, k < ts.length → (match st.get (ts.getD k 0) with | .val _ => True | .mp _ => True | _ => False)
def retFQ (keep : Bool) (ts : List Nat) (rs : List AV) : Exit → St → Prop
 | .normal, st => RetF keep ts st rs
 | .ret, st => RetF keep ts st rs
 | _, _ => False
theorem fcontract_intro {P : Program} (keep : Bool) {f : Nat} {fn : Func} {c : Code} {args : List AV} {ts : List Nat} {rs : List AV} {res : AV} (hf : P.funcs[f]? = some fn) (hb : fn.body = some c) (hrt : resT fn.results = some ts) (hrs : res = oneOrA rs)
   (hname : (fn.name == "runtime.NumGoroutine") = false) (hN : args.length ≤ fn.ntmps) (h : ∀ F : Fx, F.N = fn.ntmps → F.pins = 0 → Wp P F c (retFQ keep ts rs) ⟨slots 0 args, [], 0⟩) : FContract P keep f args res := by
 subst hrs
 refine ⟨⟨fn, hf, hname, by rw [hb]; rfl⟩, fun w R vals hR hsz hx => ?_⟩
 refine calls_of_wp hf hb ?_
 let C : Ctx := ⟨w, fun _ => False, fun _ => none, 0⟩
 have hrel : Rel C R fn.ntmps { tmps := vals ++ Array.replicate (fn.ntmps - vals.size) undef, defers := [] } w ⟨slots 0 args, [], 0⟩ := by
   refine ⟨by simp; omega, rfl, (fun id x h => by cases h), fun _ => none, noρ, ⟨fun b hb => ⟨hR b hb, rfl⟩, (fun b L hb => by cases hb), rfl, rfl, rfl, Nat.le_refl _, fun b _ _ => rfl⟩, ⟨(fun id sz es bk _ hb => by cases hb), (fun id sz es bk _ hb => by cases hb), (fun id c i k sz bk _ hb => by cases hb), (fun id kd es bk _ hb => by cases hb)⟩, fun t => ?_, (fun id k hk => by cases hk), (fun id hid => by cases hid), Nat.le_refl _⟩
   simp only [St.get, look_slots]
   by_cases ht : t < args.length
   · rw [if_pos (by omega)]
     simp only [Nat.sub_zero, Option.getD_some]
     have := hx t ht
     have h2 : (vals ++ Array.replicate (fn.ntmps - vals.size) undef).getD t undef = vals.getD t undef := by
       simp [Array.getElem?_append, show t < vals.size by omega]
     rw [h2]; exact this
   rw [if_neg (by omega)]; exact .bot
 refine Code.wp_mono (fun e a w' hq => ?_) (h ⟨C, R, fn.ntmps, 0, rfl⟩ rfl rfl _ w (.of hrel))
 obtain ⟨st, ⟨R', hX, hr⟩, hq⟩ := hq
 have fin : RetF keep ts st rs → a.defers = [] ∧ ∃ v, (results fn a.tmps).run P w' = .ok v w' ∧ ∃ v' R1, Ending.returned v = .returned v' ∧ RowKit.Below w.heap.size w w' ∧ (∀ b, R1 b → b < w'.heap.size ∧ ((keep = true ∧ R b) ∨ w.heap.size ≤ b)) ∧ XRel w' R1 noρ v' (oneOrA rs) := by
   intro hA
   obtain ⟨_, hdef, _, o, ρ, W, H, hxx, _⟩ := hr
   let R1 : Nat → Prop := if keep then RAll ⟨R', o, ρ⟩ else fun b => ∃ L, o b = some L
   have hown : ∀ b L, o b = some L → b < w'.heap.size ∧ w.heap.size ≤ b := fun b L hb => by
     obtain ⟨q1, q2⟩ := W.o b L hb
     exact ⟨q1, q2.resolve_right id⟩
   have hR1 : ∀ b, R1 b → b < w'.heap.size ∧ ((keep = true ∧ R b) ∨ w.heap.size ≤ b) := fun b hb => by
     cases keep with
     | true =>
       rcases (show RAll ⟨R', o, ρ⟩ b from hb) with hb | ⟨L, hb⟩
       · exact ⟨(W.R b hb).1, (hX.2 b hb).imp (fun h => ⟨rfl, h⟩) id⟩
       exact ⟨(hown b L hb).1, .inr (hown b L hb).2⟩
     | false =>
       obtain ⟨L, hb⟩ := hb
       exact ⟨(hown b L hb).1, .inr (hown b L hb).2⟩
   have hcell : ∀ k, k < ts.length → XRel w' R1 noρ (a.tmps.getD (ts.getD k 0) undef) (rs.getD k .bot) := by
     intro k hk
     have h1 := hA.pur k hk
     have h2 := hxx (ts.getD k 0)
     cases hkp : keep with
     | true => subst hkp; exact (pur_rel H h1 h2).1
     | false =>
       subst hkp
       have h3 := hA.own rfl k hk
       generalize st.get (ts.getD k 0) = av at h1 h2 h3
       generalize rs.getD k .bot = rv at h1 ⊢
       generalize a.tmps.getD (ts.getD k 0) undef = vv at h2 ⊢
       cases av with
       | val v =>
         cases h1 with
         | val => obtain ⟨rfl, hs⟩ := h2.val_eq; exact .r (.val hs)
         | nil => obtain ⟨rfl, hs⟩ := h2.val_eq; exact .r (.nil (by decide))
       | mp id =>
         cases h1 with
         | mp he =>
           obtain ⟨b, rfl, hb⟩ := h2.mp_eq
           obtain ⟨b', q1, q2, q3, q4⟩ := H.map _ _ _ _ he hb
           simp only [Bk.mk.injEq, Option.some.injEq, and_true] at q1
           subst q1
           exact .r (.cmap ⟨_, q2⟩ q3 q4)
       | _ => exact h3.elim
   refine ⟨hdef, _, run_results hrt _, _, R1, rfl, ⟨W.os, W.tape, W.output, W.size, fun b hb => W.keep b hb id⟩, hR1, ?_⟩
   have hl := hA.len
   match ts, rs, hl, hcell with
   | [], [], _, _ => exact .tup rfl fun k hk => by simp at hk
   | [t], [r], _, hcell => exact hcell 0 (by simp)
   | t :: u :: ts, r :: s :: rs, hl, hcell =>
     simp only [List.map_cons, oneOr, oneOrA]
     refine .tup (by simp at hl; simp; omega) fun k hk => ?_
     have hk' : k < (t :: u :: ts).length := by simp at hl hk; simp; omega
     have := hcell k hk'
     have h1 : ((a.tmps.getD t undef :: a.tmps.getD u undef :: ts.map fun t => a.tmps.getD t undef).toArray).getD k undef = a.tmps.getD ((t :: u :: ts).getD k 0) undef := by
       have e1 : (a.tmps.getD t undef :: a.tmps.getD u undef :: ts.map fun t => a.tmps.getD t undef) = (t :: u :: ts).map fun t => a.tmps.getD t undef := rfl
       rw [e1]
       have hk2 : k < (List.map (fun t => a.tmps.getD t undef) (t :: u :: ts)).toArray.size := by simpa using hk'
       rw [Array.getD_eq_getD_getElem?, Array.getElem?_eq_getElem hk2, Option.getD_some]
       simp only [List.getElem_toArray, List.getElem_map]
       rw [List.getD_eq_getElem?_getD, List.getElem?_eq_getElem hk', Option.getD_some]
     rw [h1]; exact this
 cases e with
 | normal => exact fin hq
 | ret => exact fin hq
 | _ => exact hq.elim
theorem RetF.nil {keep : Bool} {st : St} : RetF keep [] st [] := ⟨rfl, fun k hk => by simp at hk, fun _ k hk => by simp at hk⟩
theorem RetF.cons {keep : Bool} {t : Nat} {ts : List Nat} {st : St} {r : AV} {rs : List AV} (hp : PurTo st.hp (st.get t) r) (ho : keep = false → (match st.get t with | .val _ => True | .mp _ => True | _ => False)) (h : RetF keep ts st rs) : RetF keep (t :: ts) st (r :: rs) := by
 refine ⟨by simp [h.len], fun k hk => ?_, fun hkp k hk => ?_⟩
 · cases k with
   | zero => exact hp
   | succ k => simpa using h.pur k (by simpa using hk)
 cases k with
 | zero => exact ho hkp
 | succ k => simpa using h.own hkp k (by simpa using hk)
end Go.Vc

set_option maxRecDepth 100000
namespace Go.Vc
open Go
def roRows (sz : Nat) (es : List (List AV)) : Prop := ∀ e ∈ es, e.length = sz ∧ ∀ c ∈ e, AV.ro c = true
theorem roPur {h : HP} {c : AV} (hc : c.ro = true) : PurTo h c c := by
 cases c with
 | val => exact .val
 | lst => exact .lst
 | rptr => exact .rptr
 | cmap => exact .cmap
 | _ => cases hc
theorem PurTo.smix {h : HP} {id n sz : Nat} {u : Bool} {es : List (List AV)} (he : h id = some (.mix sz es)) (hn : n = es.length) (hr : roRows sz es) : PurTo h (.own id 0 n) (.lst u sz es) := by
 subst hn
 refine .mix he (by omega) rfl (fun i hi => ?_) fun i k hi hk => ?_
 · have hm : es.getD i [] ∈ es := by simp [List.getD_eq_getElem?_getD, List.getElem?_eq_getElem hi]
   exact (hr _ hm).1
 have hm : es.getD i [] ∈ es := by simp [List.getD_eq_getElem?_getD, List.getElem?_eq_getElem hi]
 have hk' : k < (es.getD i []).length := by rw [(hr _ hm).1]; exact hk
 rw [Nat.zero_add]
 refine roPur ((hr _ hm).2 _ ?_)
 generalize es.getD i [] = q at hk'
 simp [List.getD_eq_getElem?_getD, List.getElem?_eq_getElem hk']
theorem roRows_map {α : Type} {c : α → List AV} {sz : Nat} {xs : List α} (h : ∀ x, (c x).length = sz ∧ ∀ d ∈ c x, AV.ro d = true) : roRows sz (xs.map c) := by
 intro e he
 obtain ⟨x, _, rfl⟩ := List.mem_map.1 he
 exact h x
theorem RetF.two {t : Nat} {ts : List Nat} {st : St} {r : AV} {rs : List AV} (hp : PurTo st.hp (st.get t) r) (h : RetF true ts st rs) : RetF true (t :: ts) st (r :: rs) := .cons hp (fun h => by cases h) h
end Go.Vc
