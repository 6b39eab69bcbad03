/- A part of the proof: a verified generator of conditions, and what each function of the program does. -/
import Derived.Test.YtbdkkdmlhmpffaaC2
import Derived.Conc.Own5
import Derived.Conc.CompanyDraw
import Derived.Orders
import Derived.Scope
set_option maxRecDepth 100000
set_option maxHeartbeats 4000000
set_option linter.unusedSimpArgs false
set_option linter.unusedVariables false
set_option linter.unusedSectionVars false
set_option linter.unnecessarySimpa false

namespace Go.Vc
open Go Go.Conc
structure Rly (v v₁:World):Prop where
 size:v.heap.size≤v₁.heap.size
 old:∀ b,b<v.heap.size→v₁.heap[b]? = v.heap[b]?
 new:∀ b,v.heap.size≤b→b<v₁.heap.size→Blk v₁ b
 tape:v₁.tape=v.tape
 drawn:v.drawn≤v₁.drawn
 os:v₁.os=v.os
 output:v₁.output=v.output
theorem Rly.refl (v:World):Rly v v:=⟨Nat.le_refl _,fun _ _=>rfl,fun b h1 h2=>by omega,rfl,Nat.le_refl _,rfl,rfl⟩
def SimStep (P:Program) (main:Bool) (g:Goroutine) (v:World) (g':Goroutine) (v':World):Prop :=
 ∀ w,Under v w→∃ w' es,stepG P main g w = .go g' w' es∧Under v' w'∧Kept v v' w w'∧∀ e∈es,EvS v v'.heap.size e
theorem SimStep.ctl {P:Program} {main:Bool} {g g':Goroutine} {v:World} (h:∀ w,stepG P main g w = .go g' w #[]):SimStep P main g v g' v :=
 fun w U=>⟨w,#[],h w,U,.refl _ _,fun e he=>by simp at he⟩
class Kd (P:Program) where
 main:Bool
 adm:(Goroutine→World→Prop)→Prop
 rly:∀ {T},adm T→∀ {g v v₁},T g v→Rly v v₁→T g v₁
 step:∀ {T},adm T→∀ {g v},g.status = .running→(∀ v₁,Rly v v₁→∃ g' v',SimStep P main g v₁ g' v'∧T g' v')→T g v
section
variable {P:Program} [Kd P] {T:Goroutine→World→Prop}
theorem Kd.ctl (hT:Kd.adm P T) {g g':Goroutine} {v:World} (hg:g.status = .running) (h:∀ w,stepG P (Kd.main P) g w = .go g' w #[]) (hn:T g' v):T g v :=
 Kd.step hT hg fun v₁ hr=>⟨g',v₁,.ctl h,Kd.rly hT hn hr⟩
def AfterT (T:Goroutine→World→Prop) (b:Frame) (k:List Item) (cs:List Frame):Exit→Act→World→Prop
 | .normal,a,w=>T (G (b.at a k) cs) w
 | .exit id,a,w=>∃ k',exitTo id k=some k'∧T (G (b.at a k') cs) w
 | .ret,a,w=>∀ todo,T (G { b.at a todo with mode:=.returning } cs) w
 | _,_,_=>False
theorem AfterT.push {b:Frame} {x:Item} {k:List Item} {cs:List Frame} {e:Exit} {a:Act} {w:World} (hx:x.plain=true) (he:e ≠ .normal) (h:AfterT T b k cs e a w):AfterT T b (x :: k) cs e a w:=by
 cases e with
 | normal=>exact absurd rfl he
 | exit id=>obtain ⟨k',hk,hg⟩:=h;exact ⟨k',by cases x<;>simp_all [exitTo,Item.plain],hg⟩
 | goto l=>exact h
 | ret=>exact h
 | panic ch=>exact h
 | outgrown=>exact h
end
def _root_.Go.Code.wpT (P:Program) [Kd P] (c:Code) (Q:Exit→Act→World→Prop) (a:Act) (w:World):Prop :=
 ∀ (b:Frame) (k:List Item) (cs:List Frame) (T:Goroutine→World→Prop),Kd.adm P T→b.kind ≠ .early→(∀ e a' w',Q e a' w'→AfterT T b k cs e a' w')→T (G (b.at a (.code c :: k)) cs) w
def OpsT (P:Program) [Kd P] (ops:Array Oper) (todo:List Nat) (Q:Exit→Act→World→Prop) (a:Act) (w:World):Prop :=
 ∀ (b:Frame) (k:List Item) (cs:List Frame) (T:Goroutine→World→Prop),Kd.adm P T→b.kind ≠ .early→(∀ e a' w',Q e a' w'→AfterT T b k cs e a' w')→T (G (b.at a (.inRegion ops todo :: k)) cs) w
def Callz (P:Program) [Kd P] (f:FuncId) (args:Array Value) (w:World) (R:Ending→World→Prop):Prop :=
 ∀ (cs:List Frame) (T:Goroutine→World→Prop),Kd.adm P T→(∀ v w' fr,R (.returned v) w'→fr.fn=f→fr.leaving P w' (.returned v)→T (G fr cs) w')→T (G (Frame.enter P f args .normal) cs) w
section
variable {P:Program} [Kd P] {Q:Exit→Act→World→Prop} {a:Act} {w:World}
theorem Callz.mono {f:FuncId} {args:Array Value} {R R':Ending→World→Prop} (h:Callz P f args w R) (hr:∀ e w',R e w'→R' e w'):Callz P f args w R' :=
 fun cs T hT k=>h cs T hT fun v w' fr q=>k v w' fr (hr _ _ q)
theorem Q6v {c:Code} {Q':Exit→Act→World→Prop} (h:c.wpT P Q a w) (hq:∀ e a w,Q e a w→Q' e a w):c.wpT P Q' a w :=
 fun b k cs T hT hk hc=>h b k cs T hT hk fun e a' w' q=>hc e a' w' (hq _ _ _ q)
theorem Q49 {c:Code} {Q':Exit→Act→World→Prop} (hq:∀ e a w,Q e a w→Q' e a w) (h:c.wpT P Q a w):c.wpT P Q' a w:=Q6v h hq
theorem wp_skip (h:Q .normal a w):Code.skip.wpT P Q a w:=fun b k cs T hT _ hc=>Kd.ctl hT rfl (fun _=>stepG_skip) (hc _ _ _ h)
theorem wp_ret (h:Q .ret a w):Code.ret.wpT P Q a w:=fun b k cs T hT _ hc=>Kd.ctl hT rfl (fun _=>stepG_ret') (hc _ _ _ h _)
theorem wp_seq {x y:Code} (h:x.wpT P (Exit.then (y.wpT P Q) Q) a w):(Code.seq x y).wpT P Q a w:=by
 intro b k cs T hT hk hc;refine Kd.ctl hT rfl (fun _=>stepG_seq) (h b (.code y :: k) cs T hT hk fun e a' w' q=>?_);cases e with
 | normal=>exact q b k cs T hT hk hc
 | exit id=>exact (hc _ _ _ q).push rfl (by simp)
 | ret=>exact (hc _ _ _ q).push (x:=.code y) rfl (by simp)
 | goto l=>exact hc _ _ _ q
 | panic ch=>exact hc _ _ _ q
 | outgrown=>exact hc _ _ _ q
theorem wp_cond {c:Operand} {x y:Code} {t:Bool} (hc:a.eval c = .bool t) (h:(if t then x else y).wpT P Q a w):(Code.cond c x y).wpT P Q a w :=
 fun b k cs T hT hk hq=>Kd.ctl hT rfl (fun _=>stepG_cond hc) (h b k cs T hT hk hq)
theorem Q7E {c:Operand} {x y:Code} {t:Bool} (hc:a.eval c = .bool t) (ht:t=true→x.wpT P Q a w) (hf:t=false→y.wpT P Q a w):(Code.cond c x y).wpT P Q a w :=
 wp_cond hc (by cases t with|true=>exact ht rfl|false=>exact hf rfl)
theorem wp_block {id:Nat} {c:Code} (h:c.wpT P (Exit.inBlock id Q) a w):(Code.block id c).wpT P Q a w:=by
 intro b k cs T hT hk hc;refine Kd.ctl hT rfl (fun _=>stepG_block) (h b (.inBlock id :: k) cs T hT hk fun e a' w' q=>?_);cases e with
 | normal=>exact Kd.ctl hT rfl (fun _=>stepG_inBlock) (hc _ _ _ q)
 | exit id' =>
  by_cases hid:id'=id
  ·simp only [Exit.inBlock,hid,if_true] at q;exact ⟨k,by simp [exitTo,hid],hc _ _ _ q⟩
  simp only [Exit.inBlock,hid,if_false] at q;obtain ⟨k',hk',hg⟩:=hc _ _ _ q;have hne:(id == id')=false:=by simp;exact fun h=>hid h.symm
  exact ⟨k',by simp [exitTo,hne,hk'],hg⟩
 | ret=>exact hc _ _ _ q
 | goto l=>exact hc _ _ _ q
 | panic ch=>exact hc _ _ _ q
 | outgrown=>exact hc _ _ _ q
theorem wp_exit {id:Nat} (h:Q (.exit id) a w):(Code.exit id).wpT P Q a w:=fun b k cs T hT _ hc=>by
 obtain ⟨k',hk',hg⟩:=hc _ _ _ h;exact Kd.ctl hT rfl (fun _=>stepG_exit hk') hg
def _root_.Go.Oper.uponU (P:Program) [Kd P] (o:Oper) (a:Act) (w:World) (next:Act→World→Prop):Result Next→Prop
 | .ok (.value v) w'=>next (a.put o.dst v) w'
 | .ok .skip w'=>next (a.put o.dst undef) w'
 | .ok (.enter f args) w'=>w'=w∧Callz P f args w' fun
   | .returned v,w''=>next (a.put o.dst v) w''
   | _,_=>False
 | _=>False
def _root_.Go.Oper.wpU (P:Program) [Kd P] (o:Oper) (a:Act) (w:World) (next:Act→World→Prop):Prop:=o.uponU P a w next ((execOp a.eval o).run P w)
theorem Oper.uponU_enter {o:Oper} {K:Act→World→Prop} (f:FuncId) (args:Array Value):o.uponU P a w K (.ok (.enter f args) w)=(w=w∧Callz P f args w fun
  | .returned v,w''=>K (a.put o.dst v) w''
  | _,_=>False):=rfl
theorem wpU_mono {o:Oper} {K K':Act→World→Prop} (h:∀ a w,K a w→K' a w) (hh:o.wpU P a w K):o.wpU P a w K':=by
 unfold Oper.wpU at *;generalize (execOp a.eval o).run P w=r at *;cases r with
 | ok n w' =>
  cases n<;>simp only [Oper.uponU] at hh ⊢<;>first|exact h _ _ hh|exact ⟨hh.1,hh.2.mono (fun e w'' he=>by cases e<;>first|exact h _ _ he|exact he)⟩
 | halt x w'=>simp only [Oper.uponU] at hh
def wpOp (P:Program) [Kd P] (ops:Array Oper) (i:Nat) (K:Act→World→Prop) (a:Act) (w:World):Prop :=
 match ops[i]? with
 | none=>False
 | some o=>if Region.wanted o (yielded ops a.tmps) then TameAt P (execOp a.eval o) w∧o.wpU P a w K else K (a.put o.dst undef) w
theorem wpOp_mono {ops:Array Oper} {i:Nat} {K K':Act→World→Prop} (h:∀ a w,K a w→K' a w) (hh:wpOp P ops i K a w):wpOp P ops i K' a w:=by
 unfold wpOp at *;split
 ·simp_all
 rename_i o ho;simp only [ho] at hh;split
 ·rename_i hw;simp only [hw,if_true] at hh;exact ⟨hh.1,wpU_mono h hh.2⟩
 rename_i hw;simp only [hw] at hh;exact h _ _ hh
omit [Kd P] in
theorem Rly.farLoad {v v₁ w:World} (r:Rly v v₁) (U:Under v₁ w) {a:Addr} {x:Value × List Addr}:v.farLoad P a false ≠ .ok x:=by
 unfold World.farLoad;cases h:v.heap[a.block]? with
 | none=>simp
 | some o =>
  have hlt:=(Array.getElem?_eq_some_iff.1 h).1;cases o<;>simp<;>exact fun _=>U.noview ((r.old _ hlt).trans h)
theorem Rly.cell {v v₁:World} (r:Rly v v₁) {a:Addr} {x:Value} (h:v.cell? a=some x):v₁.cell? a=some x:=by
 unfold World.cell? at h ⊢;cases hv:v.heap[a.block]? with
 | none=>simp [hv] at h
 | some o =>
  have hlt:=(Array.getElem?_eq_some_iff.1 hv).1;rw [r.old _ hlt];exact h
inductive Loads {α:Type}:Sem α→Prop
 | pure (a:α):Loads (.pure a)
 | load {a k}:(∀ v,Loads (k v))→Loads (.load .plain a k)
 | program {k}:(∀ p,Loads (k p))→Loads (.program k)
 | halt (h:Halt):Loads (.halt h)
theorem Loads.tame {α:Type} {x:Sem α} (h:Loads x):Tame x:=by
 induction h with
 | pure a=>exact .pure a
 | load _ ih=>exact .load ih
 | program _ ih=>exact .program ih
 | halt h=>exact .halt h
theorem Loads.bind {α β:Type} {x:Sem α} {f:α→Sem β} (h:Loads x) (hf:∀ a,Loads (f a)):Loads (x >>= f):=by
 show Loads (x.bind f)
 induction h with
 | pure a=>exact hf a
 | load _ ih=>exact .load ih
 | program _ ih=>exact .program ih
 | halt h=>exact .halt h
omit [Kd P] in
theorem Loads.run {α:Type} {x:Sem α} (h:Loads x) {v v₁ w v':World} {a:α} (r:Rly v v₁) (U:Under v₁ w) (hr:x.run P v = .ok a v'):v'=v∧x.run P v₁ = .ok a v₁:=by
 induction h with
 | pure b=>cases hr;exact ⟨rfl,rfl⟩
 | @load b k _ ih =>
  simp only [Sem.run] at hr ⊢;cases hc:v.cell? b with
  | none =>
   rw [hc] at hr;cases hf:v.farLoad P b (Mode.plain == .atomic) with
   | ok x=>exact absurd hf (r.farLoad U)
   | error e=>rw [hf] at hr;cases hr
  | some y=>rw [hc] at hr;rw [r.cell hc];exact ih y hr
 | program _ ih=>exact ih P hr
 | halt h=>cases hr
theorem Tame.bind {α β:Type} {x:Sem α} {f:α→Sem β} (h:Tame x) (hf:∀ a,Tame (f a)):Tame (x >>= f):=by
 show Tame (x.bind f)
 induction h with
 | pure a=>exact hf a
 | load _ ih=>exact .load ih
 | store _ ih=>exact .store ih
 | new ho _ ih=>exact .new ho ih
 | getObj _ ih=>exact .getObj ih
 | setObj ho _ ih=>exact .setObj ho ih
 | choose _ ih=>exact .choose ih
 | program _ ih=>exact .program ih
 | mark _ ih=>exact .mark ih
 | halt h=>exact .halt h
 | @doomed x hd =>
  refine .doomed fun P w a w' h=>?_;have:=Sem.run_bind P w x f;have h2:(x >>= f).run P w = .ok a w':=h;rw [this] at h2;cases hx:x.run P w with
  | ok b u=>exact hd _ _ _ _ hx
  | halt q u=>rw [hx] at h2;cases h2
theorem Q1U (a:Addr):∀ (n i:Nat) (acc:Array Value),Loads (loadCellsFrom a i n acc)
 | 0,i,acc=>.pure acc
 | n+1,i,acc=>Loads.bind (x:=load (a.add i)) (.load fun v=>.pure v) fun v=>Q1U a n (i+1) (acc.push v)
theorem Q4g (t:TypeId):Loads (typeInfo t):=.program fun p=>by
 show Loads (match p.info? t with | some i => pure i | none => stuck "no such type")
 split
 ·exact .pure _
 exact .halt _
theorem Q1S (t:TypeId):Loads (underlying t):=.program fun p=>by
 show Loads (match p.underlying t with | some d => pure d | none => stuck "no such type")
 split
 ·exact .pure _
 exact .halt _
theorem Q5m (t:TypeId):Loads (sizeOf t):=(Q4g t).bind fun i=>.pure _
theorem Q63 (t:TypeId):Loads (isAgg t):=(Q1S t).bind fun d=>by split<;>exact .pure _
theorem Q4H (t:TypeId) (a:Addr):Loads (loadVar t a):=(Q63 t).bind fun b=>by
 split
 ·exact (Q5m t).bind fun n=>(Q1U a n 0 #[]).bind fun cs=>.pure _
 exact .load fun v=>.pure v
end
theorem Loads.world {α:Type} {P:Program} {x:Sem α} (h:Loads x) {w w':World} {a:α} (hr:x.run P w = .ok a w'):w'=w:=by
 induction h with
 | pure b=>cases hr;rfl
 | @load b k _ ih =>
  simp only [Sem.run] at hr;split at hr
  ·exact ih _ hr
  split at hr
  ·exact ih _ hr
  cases hr
 | program _ ih=>exact ih P hr
 | halt h=>cases hr
theorem Q6S {α β:Type} {f:α→Sem β} (h:∀ a,Loads (f a)):∀ l:List α,Loads (l.mapM f)
 | []=>.pure _
 | a :: l=>by
  rw [List.mapM_cons];exact (h a).bind fun b=>(Q6S h l).bind fun bs=>.pure _
theorem Q5l (x:Value):Loads (asAddr x):=by
 unfold asAddr;split
 ·exact .pure _
 ·exact .program fun p=>.halt _
 exact .halt _
theorem Q3i (fn:Func) (tmps:Array Value):Loads (results fn tmps):=by
 let f:ResultVar→Sem Value:=fun
  | .tmp t=>pure (tmps.getD t undef)
  | .cell a t=>do loadVar t (← asAddr (tmps.getD a undef))
 have e:results fn tmps=(do let vs ← fn.results.mapM f;pure (if h:vs.size=1 then vs[0] else .tuple vs)):=by
  unfold results
  congr 1
 have hf:∀ r,Loads (f r):=by
  intro r;cases r with
  | tmp t=>exact .pure _
  | cell a t=>exact (Q5l _).bind fun x=>Q4H t x
 have hl:fn.results=fn.results.toList.toArray:=by simp
 rw [e,hl,List.mapM_toArray];simp only [map_eq_pure_bind];exact ((Q6S hf _).bind fun l=>.pure _).bind fun vs=>.pure _
section
variable {P:Program} [Kd P] {Q:Exit→Act→World→Prop} {a:Act} {w:World} {ops:Array Oper}
omit [Kd P] in
theorem sim_leave {main:Bool} {fr c:Frame} {cs:List Frame} {v v₁:World} {x:Value} (h:fr.leaving P v (.returned x)) (r:Rly v v₁):SimStep P main (G fr (c :: cs)) v₁ (G (c.finish x) cs) v₁:=by
 obtain ⟨hm,hd,hk,fn,hf,hr⟩:=h;have hL:=Q3i fn fr.tmps;intro w U;obtain ⟨_,h1⟩:=hL.run r U hr;obtain ⟨w',h2,h3,h4,h5⟩:=hL.tame.sim U h1;obtain rfl:=hL.world h2;refine ⟨w',seen P fr.fn ((results fn fr.tmps).events P w' #[]),?_,U,.refl _ _,fun e he=>h5 e (mem_seen he)⟩;simp [G,stepG,unwind,doReturn,hm,hd,hk,hf,h2,GStep.after]
def bodyPostT (P:Program) (fn:Func) (R:Ending→World→Prop):Exit→Act→World→Prop
 | .normal,a,w|.ret,a,w=>a.defers=[]∧∃ v,(results fn a.tmps).run P w = .ok v w∧R (.returned v) w
 | _,_,_=>False
theorem Q26 {f:FuncId} {fn:Func} {c:Code} {args:Array Value} {R:Ending→World→Prop} (hf:P.funcs[f]? = some fn) (hb:fn.body=some c)
  (h:c.wpT P (bodyPostT P fn R) { tmps:=args++Array.replicate (fn.ntmps - args.size) undef,defers:=[] } w):Callz P f args w R:=by
 intro cs T hT k;rw [enter_at _ hf hb];refine h (Go.Conc.base f) [] cs T hT (by simp [Go.Conc.base]) fun e a' w' q=>?_;have fin:∀ todo,(a'.defers=[]∧∃ v,(results fn a'.tmps).run P w' = .ok v w'∧R (.returned v) w')→T (G { (Go.Conc.base f).at a' todo with mode:=.returning } cs) w':=by
  rintro todo ⟨hd,v,hr,hR⟩
  exact k v w' _ hR rfl ⟨rfl,hd,rfl,fn,hf,hr⟩
 cases e with
 | normal=>exact Kd.ctl hT rfl (fun _=>stepG_end) (fin [] q)
 | ret=>exact fun todo=>fin todo q
 | exit id=>exact q.elim
 | goto l=>exact q.elim
 | panic ch=>exact q.elim
 | outgrown=>exact q.elim
theorem Q8b {i:Nat} {rest:List Nat} (h:∀ w₁,Rly w w₁→wpOp P ops i (fun a' w'=>OpsT P ops rest Q a' w') a w₁):OpsT P ops (i :: rest) Q a w:=by
 intro b k cs T hT hk hc;refine Kd.step hT rfl fun w₁ hr=>?_;have h1:=h w₁ hr;unfold wpOp at h1;cases ho:ops[i]? with
 | none=>simp [ho] at h1
 | some o =>
  simp only [ho] at h1
  by_cases hw:Region.wanted o (yielded ops a.tmps)=true
  case neg =>
   rw [if_neg hw] at h1;exact ⟨_,w₁,.ctl fun w=>stepG_unwanted ho (by simpa using hw),h1 b k cs T hT hk hc⟩
  rw [if_pos hw] at h1;obtain ⟨ht,h2⟩:=h1;unfold Oper.wpU at h2;cases hrun:(execOp a.eval o).run P w₁ with
  | halt x w'=>rw [hrun] at h2;exact h2.elim
  | ok n w' =>
   rw [hrun] at h2;cases n with
   | value v =>
    refine ⟨_,w',fun u U=>?_,h2 b k cs T hT hk hc⟩;obtain ⟨u',q1,q2,q3,q4⟩:=ht.sim U hrun;exact ⟨u',_,stepG_value ho hw hk q1,q2,q3,fun e he=>q4 e (mem_listed he)⟩
   | skip =>
    refine ⟨_,w',fun u U=>?_,h2 b k cs T hT hk hc⟩;obtain ⟨u',q1,q2,q3,q4⟩:=ht.sim U hrun;exact ⟨u',_,stepG_none ho hw hk q1,q2,q3,fun e he=>q4 e (mem_listed he)⟩
   | enter f args =>
    obtain ⟨rfl,h3⟩:=h2;refine ⟨_,w',fun u U=>?_,h3 (b.at a (.inRegion ops (i :: rest) :: k) :: cs) T hT fun v w₂ fr hR hfr hl=>?_⟩
    ·obtain ⟨u',q1,q2,q3,q4⟩:=ht.sim U hrun;exact ⟨u',_,stepG_enter ho hw hk q1,q2,q3,fun e he=>q4 e (mem_listed he)⟩
    refine Kd.step hT rfl fun w₃ hr3=>⟨_,w₃,sim_leave hl hr3,?_⟩;have hfin:(b.at a (.inRegion ops (i :: rest) :: k)).finish v=b.at (a.put o.dst v) (.inRegion ops rest :: k):=(by rw [Frame.finish_at,ho];rfl);rw [hfin];exact Kd.rly hT (hR b k cs T hT hk hc) hr3
   | _=>exact h2.elim
theorem Q7r (h:Q .normal a w):OpsT P ops [] Q a w:=fun b k cs T hT hk hc=>Kd.ctl hT rfl (fun _=>stepG_region_end) (hc _ _ _ h)
theorem wp_region {id:Nat} (h:OpsT P ops (List.range ops.size) Q a w):(Code.region id ops false).wpT P Q a w :=
 fun b k cs T hT hk hc=>Kd.ctl hT rfl (fun _=>stepG_region) (h b k cs T hT hk hc)
def wpAny (P:Program) [Kd P] (md:Region.Mode) (ops:Array Oper) (Q:Exit→Act→World→Prop):Nat→Array Bool→Act→World→Prop
 | 0,listed,a,w=>Region.ready md ops listed=[]∧Q .normal a w
 | fuel+1,listed,a,w=>(Region.ready md ops listed=[]→Q .normal a w) ∧
  ∀ i∈Region.ready md ops listed,∀ w₁,Rly w w₁→wpOp P ops i (fun a' w'=>wpAny P md ops Q fuel (listed.setIfInBounds i true) a' w') a w₁
theorem Q9r {md:Region.Mode}:∀ (fuel t:Nat) (listed:Array Bool) (a:Act) (w:World),wpAny P md ops Q fuel listed a w→OpsT P ops (Region.linearise.go md ops fuel t listed []) Q a w:=by
 intro fuel
 induction fuel with
 | zero=>intro t listed a w h;simpa [Region.linearise.go] using Q7r h.2
 | succ fuel ih =>
  intro t listed a w h;obtain ⟨h₀,h₁⟩:=h;simp only [Region.linearise.go]
  change OpsT P ops (match (Region.ready md ops listed)[t % (Region.ready md ops listed).length]? with
   | some i=>Region.linearise.go md ops fuel (t / (Region.ready md ops listed).length) (listed.setIfInBounds i true) [i]
   | none=>[].reverse) Q a w
  cases hi:(Region.ready md ops listed)[t % (Region.ready md ops listed).length]? with
  | none =>
   have hnil:Region.ready md ops listed=[]:=by
    cases hr:Region.ready md ops listed with
    | nil=>rfl
    | cons x xs =>
     rw [hr] at hi;have hlt:t % (x :: xs).length<(x :: xs).length:=Nat.mod_lt _ (by simp);simp at hi;simp at hlt;omega
   simpa using Q7r (h₀ hnil)
  | some i =>
   simp only [];rw [linearise_go_acc,List.reverse_singleton,List.singleton_append];exact Q8b fun w₁ hr=>wpOp_mono (fun a w=>ih _ _ a w) (h₁ i (List.mem_of_getElem? hi) w₁ hr)
theorem Under.drew' {v w:World} (U:Under v w):Under v.drew w.drew:=⟨U.size,U.blk,U.tape,congrArg (· + 1) U.drawn,U.os,U.output⟩
theorem Q7F {id:Nat} (hm:P.follows .mixedOrders=true) (h:∀ w₁,Rly w w₁→wpAny P .any ops Q ops.size (Array.replicate ops.size false) a w₁.drew):(Code.region id ops true).wpT P Q a w:=by
 intro b k cs T hT hk hc;refine Kd.step hT rfl fun w₁ hr=>⟨G (b.at a (.inRegion ops (Region.linearise .any ops (w₁.tape w₁.drawn (.order b.fn id))) :: k)) cs,w₁.drew,fun u U=>⟨u.drew,#[],?_,U.drew',⟨Nat.le_refl _,fun _ _=>⟨rfl,rfl⟩,fun _ h=>h,rfl,rfl,rfl,Nat.le_succ _⟩,fun e he=>by simp at he⟩,Q9r ops.size (w₁.tape w₁.drawn (.order b.fn id)) _ a _ (h w₁ hr) b k cs T hT hk hc⟩;rw [stepG_region_draw];simp only [Region.schedule,hm,Bool.true_or,if_true,U.tape,U.drawn];rw [← U.drawn,← U.tape];rfl
end
theorem Tame.ite {α:Type} {c:Prop} [Decidable c] {x y:Sem α} (h1:c→Tame x) (h2:¬ c→Tame y):Tame (if c then x else y):=by
 split
 ·rename_i h;exact h1 h
 rename_i h;exact h2 h
theorem Tame.p {α:Type} (a:α):Tame (Pure.pure a:Sem α):=.pure a
theorem Tame.map {α β:Type} {x:Sem α} (f:α→β) (h:Tame x):Tame (f <$> x):=h.bind fun a=>.pure (f a)
theorem Qf {α:Type} (s:String):Tame (stuck s:Sem α):=.halt _
theorem Q12 {α:Type} (u:Unsupported):Tame (unsupported u:Sem α):=.halt _
theorem QU {α:Type} (v:Value):Tame (goPanic v:Sem α):=.halt _
theorem QJ (t:TypeId):Tame (typeInfo t):=(Q4g t).tame
theorem Qi (t:TypeId):Tame (underlying t):=(Q1S t).tame
theorem QK (t:TypeId):Tame (sizeOf t):=(Q5m t).tame
theorem Qbb (t:TypeId):Tame (isAgg t):=(Q63 t).tame
theorem QF (t:TypeId):Tame (zeroValue t):=(QJ t).bind fun i=>by split<;>first|exact .p _|exact Q12 _
theorem Q4l (a:Addr) (n:Nat):Tame (loadCells a n):=(Q1U a n 0 #[]).tame
theorem Q8n (t:TypeId) (a:Addr):Tame (loadVar t a):=(Q4H t a).tame
theorem QO (a:Addr):∀ (vs:List Value) (i:Nat),Tame (storeCells a vs i)
 | [],i=>.pure _
 | v :: vs,i=>Tame.bind (x:=store (a.add i) v) (.store (.pure _)) fun _=>QO a vs (i+1)
theorem Q7C (t:TypeId) (a:Addr) (v:Value):Tame (storeVar t a v):=by
 unfold storeVar;repeat' (first|exact .p _|exact Qf _|exact Q12 _|exact QU _|exact Qi _|exact QK _|exact QJ _|exact QF _|exact QO _ _ _|refine Tame.map _ ?_|refine Tame.bind ?_ fun _=>?_|split|(dsimp only;done)|dsimp only)
theorem Q4s {o:Obj} (h:∀ a t,o ≠ .view a t):Tame (newObj o):=.new h fun _=>.pure _
theorem Q1D (e:TypeId) (cs:Array Value):Tame (newRow e cs):=(Q4s (fun _ _ h=>by cases h)).bind fun r=>.p _
theorem Q3w (t:TypeId) (v:Value):Tame (newVar t v):=Q1D t _
theorem Q6l (t:TypeId):Tame (elemOf t):=(Qi t).bind fun d=>by split<;>first|exact .p _|exact Qf _
theorem Q3U (t:TypeId) (cs:Array Value) (o:Nat):Tame (part t cs o):=(Qbb t).bind fun b=>by
 refine .ite (fun _=>(QK t).bind fun n=>.p _) fun _=>?_;split<;>first|exact .p _|exact Qf _
theorem Qw {α:Type} (e:RuntimeError):Tame (runtimePanic e:Sem α):=.program fun p=>by
 cases e with
 | bounds=>exact QU _
 | error=>exact QU _
 | plain=>exact QU _
 | nilDeref=>exact QU _
 | typeAssertion i c a m=>exact (Q6l _).bind fun t=>(Q3w _ _).bind fun r=>QU _
 | panicNil=>exact (Q6l _).bind fun t=>(Q3w _ _).bind fun r=>QU _
 | unhashable=>exact QU _
theorem Q1f (q:Question):Tame (choose q):=.choose fun n=>.pure n
theorem Q19 {α:Type} (k:IntKind) (x y:Int) (c:BoundsCode):Tame (boundsPanic k x y c:Sem α):=by
 unfold boundsPanic;repeat' (first|exact .p _|exact Qf _|exact Q12 _|exact QU _|exact Qi _|exact QK _|exact QJ _|exact QF _|exact Q1D _ _|exact Qw _|exact Q1f _|exact QO _ _ _|refine Tame.map _ ?_|refine Tame.bind ?_ fun _=>?_|split|(dsimp only;done)|dsimp only)
theorem Q1W (n:Nat):Tame (askRoom n):=.ite (fun _=>.mark (.pure _)) fun _=>.p _
theorem Q1C (v:Value):Tame (asIntOf v):=by unfold asIntOf;split<;>first|exact .p _|exact Q12 _|exact Qf _
theorem Q2e (v:Value):Tame (asInt v):=(Q1C v).bind fun _=>.p _
theorem Q4q (v:Value):Tame (asBool v):=by unfold asBool;split<;>first|exact .p _|exact Qf _
theorem Q2E (v:Value):Tame (asAgg v):=by unfold asAgg;split<;>first|exact .p _|exact Qf _
theorem Q2P (v:Value):Tame (asAddr v):=(Q5l v).tame
theorem Q11 (v:Value):Tame (Instr.sureAddr v):=by unfold Instr.sureAddr;split<;>first|exact .p _|exact Qf _
theorem Qb7 (e:TypeId):Tame (Instr.alloc e true (.tuple #[])):=(QF e).bind fun z=>(Q3w e z).bind fun a=>.p _
theorem Qai (e:TypeId) (v:Value):Tame (Instr.box e v):=(Q3w e v).bind fun a=>.p _
theorem Q4U {α β:Type} {f:α→Sem β} (h:∀ a,Tame (f a)):∀ l:List α,Tame (l.mapM f)
 | []=>.p _
 | a :: l=>by
  rw [List.mapM_cons];exact (h a).bind fun b=>(Q4U h l).bind fun bs=>.p _
theorem Q6E {α β:Type} {f:α→Sem β} (h:∀ a,Tame (f a)) (l:Array α):Tame (l.mapM f):=by
 have hl:l=l.toList.toArray:=by simp
 rw [hl,List.mapM_toArray];exact Tame.map _ (Q4U h _)
theorem Qb9 (t:TypeId) (ps:Array (Nat × Value)):Tame (Instr.build t ps):=(QF t).bind fun z=>(Qi t).bind fun d=>by
 split
 ·refine (Q6E (fun f=>(QK _).bind fun n=>.p _) _).bind fun pl=>?_;split<;>first|exact .p _|exact Qf _
 ·refine (QK _).bind fun n=>?_;split<;>first|exact .p _|exact Qf _
 exact Qf _
theorem Q6k (t:TypeId) (len:Nat) (ps:Array (Nat × Value)):Tame (Instr.buildSlice t len ps):=by
 unfold Instr.buildSlice;repeat' (first|exact .p _|exact Qf _|exact Q12 _|exact QU _|exact Qi _|exact QK _|exact QJ _|exact QF _|exact Q2e _|exact Q1C _|exact Q2P _|exact Q2E _|exact Q11 _|exact Q1D _ _|exact Qw _|exact Q1f _|exact Q19 _ _ _ _|exact Q1W _|exact QO _ _ _|refine Tame.map _ ?_|refine Tame.bind ?_ fun _=>?_|split|(dsimp only;done)|dsimp only)
theorem Q9e (t:TypeId) (v:Value):Tame (Instr.loadAt t v):=(Q11 v).bind fun a=>Q8n t a
theorem Q3V (t:TypeId) (v x:Value):Tame (Instr.storeAt t v x):=(Q11 v).bind fun a=>Q7C t a x
theorem Q4m (t:TypeId) (l c:Value):Tame (Instr.makeSlice t l c):=by
 unfold Instr.makeSlice;repeat' (first|exact .p _|exact Qf _|exact Q12 _|exact QU _|exact Qi _|exact QK _|exact QJ _|exact QF _|exact Q2e _|exact Q1C _|exact Q2P _|exact Q2E _|exact Q11 _|exact Q1D _ _|exact Qw _|exact Q1f _|exact Q19 _ _ _ _|exact Q1W _|exact QO _ _ _|refine Tame.map _ ?_|refine Tame.bind ?_ fun _=>?_|split|(dsimp only;done)|dsimp only)
theorem Q2Q (x:Value) (y:Nat) (c:BoundsCode):Tame (Instr.sliceBound x y c):=(Q1C x).bind fun p=>.ite (fun _=>.p _) fun _=>Q19 _ _ _ _
theorem Q2t (b:Bool) (l c:Nat) (lo hi mx:Option Value):Tame (Instr.sliceBounds b l c lo hi mx):=by
 unfold Instr.sliceBounds;repeat' (first|exact .p _|exact Qf _|exact Q12 _|exact QU _|exact Qi _|exact QK _|exact QJ _|exact QF _|exact Q2e _|exact Q1C _|exact Q2P _|exact Q2E _|exact Q11 _|exact Q1D _ _|exact Qw _|exact Q1f _|exact Q19 _ _ _ _|exact Q1W _|exact QO _ _ _|exact Q2Q _ _ _|refine Tame.map _ ?_|refine Tame.bind ?_ fun _=>?_|split|(dsimp only;done)|dsimp only)
theorem Q71 (t:TypeId) (x:Value) (lo hi mx:Option Value):Tame (Instr.slice t x lo hi mx):=by
 unfold Instr.slice;repeat' (first|exact .p _|exact Qf _|exact Q12 _|exact QU _|exact Qi _|exact QK _|exact QJ _|exact QF _|exact Q2e _|exact Q1C _|exact Q2P _|exact Q2E _|exact Q11 _|exact Q1D _ _|exact Qw _|exact Q1f _|exact Q19 _ _ _ _|exact Q1W _|exact QO _ _ _|exact Q2Q _ _ _|exact Q2t _ _ _ _ _ _|refine Tame.map _ ?_|refine Tame.bind ?_ fun _=>?_|split|(dsimp only;done)|dsimp only)
theorem Q5u (t:TypeId) (x:Value) (lo hi mx:Option Value):Tame (Instr.sliceAt t x lo hi mx):=(Qi t).bind fun d=>by
 split
 ·exact (Q11 _).bind fun a=>(Q2t _ _ _ _ _ _).bind fun _=>(QK _).bind fun _=>.p _
 exact Q71 _ _ _ _ _
theorem Q8m (t:TypeId) (x i:Value):Tame (Instr.indexAt t x i):=by
 unfold Instr.indexAt;repeat' (first|exact .p _|exact Qf _|exact Q12 _|exact QU _|exact Qi _|exact QK _|exact QJ _|exact QF _|exact Q2e _|exact Q1C _|exact Q2P _|exact Q2E _|exact Q11 _|exact Q1D _ _|exact Qw _|exact Q1f _|exact Q19 _ _ _ _|exact Q1W _|exact QO _ _ _|exact Q2Q _ _ _|exact Q2t _ _ _ _ _ _|exact Q71 _ _ _ _ _|refine Tame.map _ ?_|refine Tame.bind ?_ fun _=>?_|split|(dsimp only;done)|dsimp only)
theorem Qba (t:TypeId) (x:Value) (k:Nat):Tame (Instr.field t x k):=(Qi t).bind fun d=>by
 split
 ·split
  ·exact (Q2E x).bind fun cs=>Q3U _ _ _
  exact Qf _
 exact Qf _
theorem Q8l (x:Value) (k:Nat):Tame (Instr.extract x k):=by
 unfold Instr.extract;split
 ·split<;>first|exact .p _|exact Qf _
 exact Qf _
theorem Q8o (t:TypeId) (r:Option Value):Tame (Instr.makeMap t r):=by
 unfold Instr.makeMap;cases r with
 | none=>exact (Q4s (fun _ _ h=>by cases h)).bind fun r=>.p _
 | some h =>
  refine (Qi t).bind fun d=>?_;split
  ·exact (Q2e h).bind fun _=>(Q4s (fun _ _ h=>by cases h)).bind fun r=>.p _
  exact Qf _
theorem Qaj (ts:Array TypeId) (t:TypeId) (xs:Array Value):Tame (Builtin.len_ ts t xs):=by
 unfold Builtin.len_;split
 ·refine (Qi _).bind fun d=>?_;split
  ·exact .p _
  ·exact .p _
  ·refine (Qi _).bind fun d=>?_;split<;>first|exact .p _|exact Qf _
  ·exact .p _
  ·exact .p _
  ·exact .p _
  ·exact Tame.bind (x:=getObj _) (.getObj fun o=>.pure _) fun o=>by split<;>first|exact .p _|exact Qf _
  ·exact Tame.bind (x:=getObj _) (.getObj fun o=>.pure _) fun o=>by split<;>first|exact .p _|exact Qf _
  exact Qf _
 exact Qf _
theorem Q4T (op:BinOp) (k:IntKind) (x y:Int):Tame (Op.intArith op k x y):=by unfold Op.intArith;split<;>first|exact .p _|exact Qf _
theorem Q9d (op:BinOp) (k:IntKind) (x y:Int):Tame (Op.intDiv op k x y):=by
 unfold Op.intDiv;refine .ite (fun _=>Qw _) fun _=>?_;split<;>first|exact .p _|exact Qf _
theorem Q5t (op:BinOp) (k:IntKind) (x y:Int):Tame (Op.intBits op k x y):=by unfold Op.intBits;simp only;split<;>first|exact .p _|exact Qf _
theorem Q9c (op:BinOp) (x y:Int):Tame (Op.intCmp op x y):=by unfold Op.intCmp;split<;>first|exact .p _|exact Qf _
theorem Qbe (op:UnOp) (x:Value):Tame (Op.unary op x):=by
 unfold Op.unary;split<;>first|exact Q4T _ _ _ _|exact Q5t _ _ _ _|exact .p _|exact Q12 _|exact Qf _
def IL (v:Value):Prop:=(∃ k a,v = .int k a)∨((∃ b,v = .bool b)∨∃ s,v = .string s)∨∃ cs:Array Value,v = .agg cs∧∀ c∈cs,∃ k a,c = .int k a
theorem Q3T {α β:Type} {f:α→β→Sem (ForInStep β)} (h:∀ a b,Tame (f a b)):∀ (l:List α) (b:β),Tame (forIn l b f)
 | [],b=>by rw [List.forIn_nil];exact .p _
 | a :: l,b=>by
  rw [List.forIn_cons];refine (h a b).bind fun s=>?_;cases s with
  | done b=>exact .p _
  | yield b=>exact Q3T h l b
theorem Q4S {α β:Type} {f:α→β→Sem (ForInStep β)} (h:∀ a b,Tame (f a b)) (l:Array α) (b:β):Tame (forIn l b f):=by
 rw [← Array.forIn_toList];exact Q3T h _ _
theorem Q7B {β:Type} {f:Nat→β→Sem (ForInStep β)} (h:∀ a b,Tame (f a b)) (n:Nat) (b:β):Tame (forIn [0:n] b f):=by
 rw [Std.Legacy.Range.forIn_eq_forIn_range'];exact Q3T h _ _
theorem part_IL {P:Program} {t:TypeId} {cs:Array Value} {o:Nat} (h:∀ c∈cs,∃ k a,c = .int k a) {w w':World} {v:Value} (hr:(part t cs o).run P w = .ok v w'):IL v:=by
 unfold part at hr;rw [Sem.run_bind] at hr;cases h1:(isAgg t).run P w with
 | halt q u=>rw [h1] at hr;cases hr
 | ok b u =>
  rw [h1] at hr;replace hr : (if b then (do let n ← sizeOf t; Pure.pure (Value.agg (cs.extract o (o + n)))) else match cs[o]? with | some v => Pure.pure v | none => stuck "part: no such cell" : Sem Value).run P u = .ok v w' := hr
  split at hr
  ·rw [Sem.run_bind] at hr;cases h2:(sizeOf t).run P u with
   | halt q u=>rw [h2] at hr;cases hr
   | ok n u2 =>
    rw [h2] at hr;cases hr;exact .inr (.inr ⟨_,rfl,fun c hc=>by
     obtain ⟨i,hi,rfl⟩:=Array.getElem_of_mem hc;rw [Array.getElem_extract];exact h _ (Array.getElem_mem _)⟩)
  split at hr
  ·rename_i x hx;cases hr;obtain ⟨k,a,rfl⟩:=h _ (Array.mem_of_getElem? hx);exact .inl ⟨k,a,rfl⟩
  cases hr
theorem Q31 {P:Program} {α β:Type} {f:α→β→Sem (ForInStep β)} (h:∀ a b w,TameAt P (f a b) w):∀ (l:List α) (b:β) (w:World),TameAt P (forIn l b f) w
 | [],b,w=>by rw [List.forIn_nil];exact .pure
 | a :: l,b,w=>by
  rw [List.forIn_cons];refine (h a b w).bind fun s w' _=>?_;cases s with
  | done b=>exact .pure
  | yield b=>exact Q31 h l b w'
theorem Q6h {P:Program} {α β:Type} {f:α→β→Sem (ForInStep β)} (h:∀ a b w,TameAt P (f a b) w) (l:Array α) (b:β) (w:World):TameAt P (forIn l b f) w:=by
 rw [← Array.forIn_toList];exact Q31 h _ _ _
theorem Q6i {P:Program} {β:Type} {f:Nat→β→Sem (ForInStep β)} (h:∀ a b w,TameAt P (f a b) w) (n:Nat) (b:β) (w:World):TameAt P (forIn [0:n] b f) w:=by
 rw [Std.Legacy.Range.forIn_eq_forIn_range'];exact Q31 h _ _ _
theorem Q30 {P:Program}:∀ (d:Nat) (t:TypeId) (x y:Value) (w:World),IL x→IL y→TameAt P (Op.equalIn d t x y) w
 | 0,t,x,y,w,_,_=>(Q12 _).at w
 | d+1,t,x,y,w,hx,hy=>by
  unfold Op.equalIn;refine ((Qi t).at w).bind fun de w1 _=>?_;have hparts:∀ (f:TypeId) (xs ys:Array Value) (o:Nat) (K:Bool→Sem (ForInStep (Option Bool × PUnit))) (w:World),(∀ c∈xs,∃ k a,c = .int k a)→(∀ c∈ys,∃ k a,c = .int k a)→(∀ b w,TameAt P (K b) w) →
    TameAt P (do let a ← part f xs o;let b ← part f ys o;let r ← Op.equalIn d f a b;K r) w:=by
   intro f xs ys o K w h1 h2 hK;refine ((Q3U f xs o).at w).bind fun a w1 ha=>((Q3U f ys o).at w1).bind fun b w2 hb=>(Q30 d f a b w2 (part_IL h1 ha) (part_IL h2 hb)).bind fun r w3 _=>hK r w3
  rcases hx with ⟨k,a,rfl⟩|(⟨b,rfl⟩|⟨s,rfl⟩)|⟨xs,rfl,hxs⟩<;>rcases hy with ⟨k',a',rfl⟩|(⟨b',rfl⟩|⟨s',rfl⟩)|⟨ys,rfl,hys⟩<;>cases de<;>dsimp only <;>
   first|exact (Qf _).at _|exact .pure|exact ((Tame.ite (fun _=>.p _) fun _=>Qf _)).at _|skip
  ·refine ((QK _).at _).bind fun n w2 _=>(Q6i (fun i s w=>hparts _ _ _ _ _ w hxs hys fun b w=>?_) _ _ w2).bind fun s w3 _=>?_
   ·split<;>exact .pure
   split<;>exact .pure
  refine .program ?_;show TameAt P (if P.stoodInHeld t=true then _ else _) _;split
  ·exact .doomed fun a w' h=>by cases h
  refine (Q6h (fun f s w=>?_) _ _ _).bind fun s w3 _=>?_
  ·split
   ·exact hparts _ _ _ _ _ w hxs hys fun b w=>by split<;>exact .pure
   exact .pure
  split<;>exact .pure
theorem Q6A {P:Program} (t:TypeId) (x y:Value) (w:World) (hg:P.eqGuardType P.depth t=false) (o:BinOp) (a b:Operand) (hx:IL x) (hy:IL y):TameAt P (eqGuard o t a b x y) w:=by
 cases o<;>first|exact .pure|skip
 all_goals
  unfold eqGuard;rcases hx with ⟨k,i,rfl⟩|(⟨i,rfl⟩|⟨s,rfl⟩)|⟨xs,rfl,hxs⟩<;>rcases hy with ⟨k',i',rfl⟩|(⟨i',rfl⟩|⟨s',rfl⟩)|⟨ys,rfl,hys⟩<;>first|exact .pure|skip
  refine .program (.program ?_);show TameAt P (if (!P.eqGuardType P.depth t)=true then _ else _) _;rw [hg];exact .pure
theorem Q6F (op:BinOp) (t:TypeId) (k k':IntKind) (a b:Int) (h1:op ≠ .shl) (h2:op ≠ .shr):Tame (binOp op t (.int k a) (.int k' b)):=by
 cases op<;>first|exact absurd rfl h1|exact absurd rfl h2|exact Tame.ite (fun _=>Qf _) fun _=>Q4T _ _ _ _|exact Tame.ite (fun _=>Qf _) fun _=>Q9d _ _ _ _|exact Tame.ite (fun _=>Qf _) fun _=>Q5t _ _ _ _|exact Tame.ite (fun _=>Qf _) fun _=>Q9c _ _ _
theorem Q4V (op:BinOp) (x y:ByteArray):Tame (Op.stringOp op x y):=by
 unfold Op.stringOp;cases op<;>dsimp only<;>first|exact .p _|exact Qf _|exact .ite (fun _=>Q12 _) fun _=>.p _
theorem Q48 {P:Program} (t:TypeId) (x y:Value) (w:World) (hx:(∃ b,x = .bool b)∨∃ cs:Array Value,x = .agg cs∧∀ c∈cs,∃ k a,c = .int k a) (hy:IL y):TameAt P (binOp .eql t x y) w∧TameAt P (binOp .neq t x y) w:=by
 have h:=Q30 (P:=P) Op.maxDepth t x y w (hx.elim (fun h=>.inr (.inl (.inl h))) fun h=>.inr (.inr h)) hy;rcases hx with ⟨i,rfl⟩|⟨xs,rfl,hxs⟩
 all_goals rcases hy with ⟨k',i',rfl⟩|(⟨i',rfl⟩|⟨s',rfl⟩)|⟨ys,rfl,hys⟩<;>exact ⟨h.bind fun _ _ _=>.pure,h.bind fun _ _ _=>.pure⟩
def Doom {α:Type} (x:Sem α):Prop:=∀ P w a w',x.run P w ≠ .ok a w'
theorem Doom.bind {α β:Type} (x:Sem α) {f:α→Sem β} (h:∀ a,Doom (f a)):Doom (x >>= f):=by
 intro P w a w' hr;rw [Sem.run_bind] at hr;cases hx:x.run P w with
 | ok b u=>rw [hx] at hr;exact h b P u a w' hr
 | halt q u=>rw [hx] at hr;cases hr
theorem Doom.halt {α:Type} (h:Halt):Doom (.halt h:Sem α):=fun P w a w' hr=>by cases hr
theorem Qbc (x:Value):Tame (Builtin.lenOf x):=by
 unfold Builtin.lenOf;split<;>first|exact .p _|exact Qf _
theorem Q6m (s n:Nat) (x:Value):Tame (Builtin.firstCells s n x):=by
 unfold Builtin.firstCells;split<;>first|exact .p _|exact Qf _|exact Q4l _ _
theorem Qbd (s l n:Nat) (b:Option Addr) (x:Value) (u:Unsupported):Tame (Builtin.mayShare s l n b x >>= fun q=>if (!q)=true then (mark .noRoom >>= fun _=>(unsupported u:Sem Unit)) else unsupported u):=by
 refine .doomed (Doom.bind _ fun q=>?_);split
 ·exact Doom.bind _ fun _=>Doom.halt _
 exact Doom.halt _
set_option maxHeartbeats 8000000 in
theorem Q6j (ts:Array TypeId) (t:TypeId) (xs:Array Value):Tame (Builtin.append_ ts t xs):=by
 unfold Builtin.append_;dsimp only;repeat' (first|exact .p _|exact Qf _|exact Q12 _|exact QU _|exact Qi _|exact QK _|exact QJ _|exact QF _|exact Q2e _|exact Q1D _ _|exact Qw _|exact Q1f _|exact Q1W _|exact QO _ _ _|exact Qbc _|exact Q6m _ _ _|exact Qbd _ _ _ _ _ _|refine Tame.map _ ?_|refine Tame.bind ?_ fun _=>?_|with_reducible refine Tame.ite (fun _=>?_) (fun _=>?_)|split|(dsimp only;done)|dsimp only)
theorem Q5v (t:TypeId):Tame (typeStr t):=(QJ t).bind fun i=>by
 dsimp only;split
 ·exact Q12 _
 exact .p _
theorem Q1q (em:Bool):∀ (n:Nat) (t:TypeId) (v:Value),Tame (Instr.checkKey em n t v)
 | 0,t,v=>Q12 _
 | n+1,t,v=>by
  unfold Instr.checkKey;refine (Qi t).bind fun d=>?_;split
  ·refine (QJ _).bind fun i=>?_;dsimp only;split
   ·split
    ·exact (Qw _).bind fun _=>(Q5v _).bind fun s=>(Qw _).bind fun _=>Q1q em n _ _
    exact (Q5v _).bind fun s=>(Qw _).bind fun _=>Q1q em n _ _
   exact Q1q em n _ _
  ·refine Tame.bind (Q7B (fun i s=>(QK _).bind fun k=>(Q3U _ _ _).bind fun p=>(Q1q em n _ _).bind fun _=>.p _) _ _) fun _=>.p _
  ·refine Tame.bind (Q4S (fun f s=>?_) _ _) fun _=>.p _;split
   ·exact (Q3U _ _ _).bind fun p=>(Q1q em n _ _).bind fun _=>.p _
   exact .p _
  ·exact .p _
  ·exact Qf _
  ·exact Qf _
  ·exact Qf _
  exact .p _
theorem Q3b {P:Program} (t:TypeId) (k:Value) (hk:IL k):∀ (es:List MapEntry) (i:Nat) (w:World),(∀ e∈es,IL e.key)→TameAt P (Instr.findAsking t k es i) w
 | [],i,w,_=>.pure
 | e :: es,i,w,h=>by
  unfold Instr.findAsking;refine (Q30 _ t k e.key w hk (h e (by simp))).bind fun b w' _=>?_;split
  ·exact .pure
  exact Q3b t k hk es (i+1) w' fun y hy=>h y (by simp [hy])
theorem Q4j {P:Program} (t:TypeId) (k:Value) (hk:IL k) (es:List MapEntry) (w:World) (h:∀ e∈es,IL e.key):TameAt P (Instr.findKey t k es) w:=by
 unfold Instr.findKey;refine ((Qi t).at w).bind fun d w' _=>?_;split
 ·exact .pure
 exact Q3b t k hk es 0 w' h
theorem Q5c (a b:Value):Tame (Instr.keyThatStays a b):=.ite (fun _=>.p _) fun _=>(Q1f _).bind fun n=>by split<;>exact .p _
theorem Q7A {P:Program} (t:TypeId) (x k:Value) (ok:Bool) (w:World) (hk:IL k) (hm:∀ r ents clk,x = .map (some r)→w.heap[r]? = some (.map ents clk)→∀ e∈ents,IL e.key):TameAt P (Instr.lookup t x k ok) w:=by
 unfold Instr.lookup;refine ((Qi t).at w).bind fun d w1 h1=>?_;obtain rfl:=(Q1S t).world h1;split
 ·rename_i key elem;have tail:∀ (es:Array MapEntry) (w:World),(∀ e∈es,IL e.key)→TameAt P (do
    Instr.checkKey es.isEmpty 10000 key k
    let r ← Instr.findKey key k es.toList
    let (v,b) ← match r with
     | some (_,v)=>Pure.pure (v,true)
     | none=>do Pure.pure (← zeroValue elem,false)
    Pure.pure (if ok then .tuple #[v,.bool b] else v):Sem Value) w:=by
   intro es w hes;refine ((Q1q _ _ _ _).at w).bind fun _ w2 _=>(Q4j key k hk es.toList w2 (fun e he=>hes e (by simpa using he))).bind fun r w3 _=>?_;refine Tame.at ?_ w3;dsimp only;split
   ·exact (Tame.p _).bind fun q=>.p _
   exact (QF _).bind fun z=>(Tame.p _).bind fun q=>.p _
  dsimp only;split
  ·exact TameAt.bind (x:=Pure.pure #[]) .pure fun es w' h=>by cases h;exact tail #[] w1 (by simp)
  ·rename_i r;cases hr:w1.heap[r]? with
   | none=>exact .doomed fun a w' h=>by simp [getObj,Sem.run,hr] at h
   | some o =>
    refine .getObj hr ?_;cases o with
    | map ents clk=>exact tail ents w1 (hm r ents clk rfl hr)
    | _=>exact .doomed fun a w' h=>by cases h
  exact .doomed fun a w' h=>by cases h
 exact (Qf _).at _
theorem Q5B {P:Program} (t:TypeId) (x k y:Value) (w:World) (hk:IL k) (hm:∀ r ents clk,x = .map (some r)→w.heap[r]? = some (.map ents clk)→∀ e∈ents,IL e.key):TameAt P (Instr.mapUpdate t x k y) w:=by
 unfold Instr.mapUpdate;refine ((Qi t).at w).bind fun d w1 h1=>?_;obtain rfl:=(Q1S t).world h1;split
 ·split
  ·exact (Qw _).at _
  ·rename_i r;cases hr:w1.heap[r]? with
   | none=>exact .doomed fun a w' h=>by simp [getObj,Sem.run,hr] at h
   | some o =>
    refine .getObj hr ?_;cases o with
    | map ents clk =>
     refine ((Q1q _ _ _ _).at _).bind fun _ w2 _=>(Q4j _ k hk ents.toList w2 (fun e he=>hm r ents clk rfl hr e (by simpa using he))).bind fun q w3 _=>?_;refine Tame.at ?_ w3;split
     ·exact (Q5c _ _).bind fun _=>.setObj (fun _ _ h=>by cases h) (.pure _)
     exact .setObj (fun _ _ h=>by cases h) (.pure _)
    | _=>exact .doomed fun a w' h=>by cases h
  exact (Qf _).at _
 exact (Qf _).at _
end Go.Vc
