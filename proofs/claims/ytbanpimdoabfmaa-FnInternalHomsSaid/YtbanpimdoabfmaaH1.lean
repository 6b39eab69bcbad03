/- A part of the proof. -/
import Derived.Test.YtbanpimdoabfmaaH0
import Derived.Orders
import Derived.Scope
import Derived.Laws.World
set_option maxRecDepth 100000
set_option maxHeartbeats 4000000
set_option linter.unusedSimpArgs false
set_option linter.unusedVariables false
set_option linter.unusedSectionVars false
set_option linter.unnecessarySimpa false

open Option.some renaming injEq→qA
open List renaming getD_eq_getElem?_getD→qB
open Prod.mk renaming injEq→qC
open List renaming length_append→qD
open Prod renaming fst→qE
open Nat renaming le_refl→qF
open Bool renaming and_eq_true→qG
open List renaming length_cons→qH
open List renaming getElem?_eq_getElem→qI
open Go.Op renaming operands→qJ
open Nat renaming le_trans→qK
open Nat renaming add_assoc→qL
open Nat renaming mul_le_mul_right→qM
open Nat renaming lt_of_lt_of_le→qN
open List renaming getElem?_append_left→qO
open List renaming map_cons→qP
open List renaming eq_nil_of_length_eq_zero→qQ
open List renaming getElem?_take→qR
open List renaming getElem?_append_right→qS
open Nat renaming add_mul→qT
open Nat renaming zero_add→qU
open List renaming getD_cons_zero→qV
open List renaming all_eq_true→qW
open List renaming getElem?_drop→qX
open Option renaming map_some→qY
open Nat renaming add_comm→qZ
open Nat renaming le_of_eq→zA
open List renaming mem_append→zB
open Nat renaming add_zero→zC
open List renaming length_take→zD
open List renaming nodup_cons→zE
open List renaming cons_append→zF
open List.cons renaming injEq→zG
open Bool renaming not_eq_true'→zH
open Array renaming eq_empty_of_size_eq_zero→zI
namespace Go.Vc
open Go
def Rly(v v₁:World):Prop:=v₁=v
@[reducible] def _root_.Go.Code.wpT(P:Program)(c:Code)(Q:Exit→Act→World→Prop)(a:Act)(w:World):Prop:=c.wp P Q a w
@[reducible] def OpsT(P:Program)(ops:Array Oper)(todo:List Nat)(Q:Exit→Act→World→Prop)(a:Act)(w:World):Prop:=wpOps P ops Q todo a w
@[reducible] def Callz(P:Program)(f:FuncId)(args:Array Value)(w:World)(R:Ending→World→Prop):Prop:=Calls P f args w R
section
variable {P:Program}{Q:Exit→Act→World→Prop}{a:Act}{w:World}{ops:Array Oper}
theorem Callz.mono{f:FuncId}{args:Array Value}{R R':Ending→World→Prop}(h:Callz P f args w R)(hr:∀e w',R e w'→R' e w'):Callz P f args w R':=Calls.mono h hr
theorem Q3T{c:Code}{Q':Exit→Act→World→Prop}(hq:∀e a w,Q e a w→Q' e a w)(h:c.wpT P Q a w):c.wpT P Q' a w:=Go.wp_mono h hq
def _root_.Go.Oper.uponU(P:Program)(o:Oper)(a:Act)(w:World)(next:Act→World→Prop):Result Next→Prop
 | .ok (.value v) w'=>next (a.put o.dst v) w'
 | .ok .skip w'=>next (a.put o.dst undef) w'
 | .ok (.enter f args) w'=>w'=w∧Callz P f args w' fun
   | .returned v,w''=>next (a.put o.dst v) w''
   |_,_=>False
 |_=>False
def _root_.Go.Oper.wpU(P:Program)(o:Oper)(a:Act)(w:World)(next:Act→World→Prop):Prop:=o.uponU P a w next ((execOp a.eval o).run P w)
theorem Oper.uponU_enter{o:Oper}{K:Act→World→Prop}(f:FuncId)(args:Array Value):o.uponU P a w K (.ok (.enter f args) w)=(w=w∧Callz P f args w fun
  | .returned v,w''=>K (a.put o.dst v) w''
  |_,_=>False):=rfl
theorem wpU_wp{o:Oper}{K:Act→World→Prop}(h:o.wpU P a w K):o.wp P a w K Q:=by
 unfold Oper.wpU at h;unfold Oper.wp;generalize (execOp a.eval o).run P w=r at*;cases r with
 |ok n w'=>
  cases n<;>simp only[Oper.uponU]at h<;>first|exact h|exact h.2.mono (λe w'' he=>by cases e<;>first|exact he|exact he.elim)
 |halt x w'=>simp only[Oper.uponU]at h
def wpOp(P:Program)(ops:Array Oper)(i:Nat)(K:Act→World→Prop)(a:Act)(w:World):Prop:=
 match ops[i]? with
 |none=>False
 |some o=>if Region.wanted o (yielded ops a.tmps)then o.wpU P a w K else K (a.put o.dst undef) w
theorem Q9p{i:Nat}{K:Act→World→Prop}(h:Go.Vc.wpOp P ops i K a w):Go.wpOp P ops Q i K a w:=by
 unfold Go.Vc.wpOp at h;unfold Go.wpOp;cases ho:ops[i]? with
 |none=>rw[ho]at h;exact h.elim
 |some o=>
  rw[ho]at h;simp only at h⊢;split
  ·rename_i hw;rw[if_pos hw]at h;exact .inl (wpU_wp h)
  rename_i hw;rw[if_neg hw]at h;exact h
theorem opsT_cons{i:Nat}{rest:List Nat}(h:∀w₁,Rly w w₁→Go.Vc.wpOp P ops i (λa' w'=>OpsT P ops rest Q a' w') a w₁):OpsT P ops (i::rest) Q a w:=by
 show wpOps P ops Q (i::rest) a w;rw[wpOps_cons];exact Q9p (h w rfl)
theorem opsT_nil(h:Q .normal a w):OpsT P ops [] Q a w:=by simpa[OpsT,wpOps]using h
theorem calls_of_wp{f:FuncId}{fn:Func}{c:Code}{args:Array Value}{R:Ending→World→Prop}(hf:P.funcs[f]? =some fn)(hb:fn.body=some c)(h:c.wpT P (bodyPost P fn R) {tmps:=args++Array.replicate (fn.ntmps - args.size) undef,defers:=[]} w):Callz P f args w R:=Go.calls_of_wp hf hb h
def wpAny(P:Program)(md:Region.Mode)(ops:Array Oper)(Q:Exit→Act→World→Prop):Nat→Array Bool→Act→World→Prop
 |0,listed,a,w=>Region.ready md ops listed=[]∧Q .normal a w
 |fuel+1,listed,a,w=>(Region.ready md ops listed=[]→Q .normal a w)∧
  ∀i∈Region.ready md ops listed,∀w₁,Rly w w₁→Go.Vc.wpOp P ops i (λa' w'=>wpAny P md ops Q fuel (listed.setIfInBounds i true) a' w') a w₁
theorem Q88{md:Region.Mode}:∀(fuel:Nat) (listed:Array Bool) (a:Act) (w:World),Go.Vc.wpAny P md ops Q fuel listed a w→Go.wpAny P md ops Q fuel listed a w
 |0,_,_,_,h=>h
 |fuel+1,_,_,_,h=>⟨h.1,λi hi=>Go.wpOp_mono (λa w=>Q88 fuel _ a w) (Q9p (h.2 i hi _ rfl))⟩
theorem wp_region_any{id:Nat}(hm:P.follows .mixedOrders=true)(h:∀w₁,Rly w w₁→Go.Vc.wpAny P .any ops Q ops.size (Array.replicate ops.size false) a w₁.drew):(Code.region id ops true).wpT P Q a w:=
 Go.wp_region_any hm (Q88 _ _ _ _ (h w rfl))
end
def happ(e:Eff)(h:HP):HP:=λid=>
 match look id e.set with
 |some x=>some x
 |none=>if id∈e.del then none else h id
theorem QH{e:Eff}{h:HP}(h1:e.set=[])(h2:e.del=[]):happ e h=h:=by
 funext id;simp[happ,h1,h2,look]
def StepR(P:Program)(C:Ctx)(o:Oper)(a:Act)(w:World)(g:Gh)(h:HP)(n:Nat)(e:Eff):Prop:=
 ∀(K:Act→World→Prop) (Q:Exit→Act→World→Prop),
  (∀v w' o' ρ',WF C w' ⟨g.R,o',ρ'⟩→HRel w' ⟨g.R,o',ρ'⟩ (happ e h)→(∀id k,g.ρ id=some k→ρ' id=some k)→
   (∀id k,ρ' id=some k→g.ρ id=some k∨(n≤id∧id<n+e.cnt))→XRel w' g.R ρ' v e.v→(∀b,g.R b→w'.heap[b]? =w.heap[b]?)→K (a.put o.dst v) w')→o.wpU P a w K
def RX(R R':Nat→Prop)(n:Nat):Prop:=(∀b,R b→R' b)∧∀b,R' b→R b∨n≤b
theorem RX.refl{R:Nat→Prop}{n:Nat}:RX R R n:=⟨λ_ h=>h,λ_ h=>.inl h⟩
theorem RX.trans{R R' R'':Nat→Prop}{n m:Nat}(h1:RX R R' n)(h2:RX R' R'' m)(hn:n≤m):RX R R'' n:=
 ⟨λb hb=>h2.1 b (h1.1 b hb),λb hb=>by
  rcases h2.2 b hb with h|h
  ·exact h1.2 b h
  exact .inr (qK hn h)⟩
def Step(P:Program)(C:Ctx)(o:Oper)(a:Act)(w:World)(g:Gh)(h:HP)(n:Nat)(e:Eff):Prop:=
 ∀(K:Act→World→Prop) (Q:Exit→Act→World→Prop),
  (∀v w' R' o' ρ',RX g.R R' C.w0.heap.size→WF C w' ⟨R',o',ρ'⟩→HRel w' ⟨R',o',ρ'⟩ (happ e h)→(∀id k,g.ρ id=some k→ρ' id=some k)→
   (∀id k,ρ' id=some k→g.ρ id=some k∨(n≤id∧id<n+e.cnt))→XRel w' R' ρ' v e.v→(∀b,g.R b→w'.heap[b]? =w.heap[b]?)→K (a.put o.dst v) w')→o.wpU P a w K
theorem StepR.step{P:Program}{C:Ctx}{o:Oper}{a:Act}{w:World}{g:Gh}{h:HP}{n:Nat}{e:Eff}(hs:StepR P C o a w g h n e):Step P C o a w g h n e:=
 λK Q k=>hs K Q λv w' o' ρ'=>k v w' g.R o' ρ' .refl
theorem Q2a{P:Program}{o:Oper}{a:Act}{w w':World}{v:Value}{K:Act→World→Prop}(h:(execOp a.eval o).run P w= .ok (.value v) w')(k:K (a.put o.dst v) w'):o.wpU P a w K:=by
 unfold Oper.wpU;rw[h];exact k
theorem Q3C{P:Program}{o:Oper}{a:Act}{w w':World}{K:Act→World→Prop}(h:(execOp a.eval o).run P w= .ok .skip w')(k:K (a.put o.dst undef) w'):o.wpU P a w K:=by
 unfold Oper.wpU;rw[h];exact k
theorem Qn{P:Program}{C:Ctx}{o:Oper}{a:Act}{w:World}{g:Gh}{h:HP}{n:Nat}{e:Eff}{v:Value}(W:WF C w g)(H:HRel w g h)(h1:e.set=[])(h2:e.del=[])(hrun:(execOp a.eval o).run P w= .ok (.value v) w)(hv:XRel w g.R g.ρ v e.v):StepR P C o a w g h n e:=by
 intro K Q k;refine Q2a hrun (k v w g.o g.ρ W ?_ (λ_ _ h=>h) (λ_ _ h=>.inl h) hv (λ_ _=>rfl));rw[QH h1 h2];exact H
section
variable {P:Program}{C:Ctx}{a:Act}{w:World}{g:Gh}{h:HP}{n:Nat}{e:Eff}{c:Prop}{ev:Operand→AV}
theorem XRel.val_eq{R:Nat→Prop}{ρ:Nat→Option Bk}{v u:Value}(h:XRel w R ρ v (.val u)):v=u∧sc u:=by
 cases h with
 |r h=>cases h with|val h=>exact⟨rfl,h⟩
theorem XRel.adr_eq{R:Nat→Prop}{ρ:Nat→Option Bk}{v:Value}{id i k:Nat}(h:XRel w R ρ v (.adr id i k)):∃b sz cap,ρ id=some ⟨some b,sz,cap⟩∧v= .pointer (some ⟨b,i*sz+k,none⟩):=by
 cases h with
 |r h=>cases h
 |adr h=>exact⟨_,_,_,h,rfl⟩
theorem XRel.rptr_eq{R:Nat→Prop}{ρ:Nat→Option Bk}{v:Value}{cs:List AV}(h:XRel w R ρ v (.rptr cs)):∃b x cur el fr,∃us:Nat→Value,v= .pointer (some ⟨b,x,none⟩)∧R b∧w.heap[b]? =some (.cells cur el fr)∧
  (∀k,k<cs.length→cur[x+k]? =some (us k))∧(∀k,k<cs.length→one (us k))∧(∀k,k<cs.length→RRel w R (us k) (cs.getD k .bot)):=by
 cases h with
 |r h=>cases h with|rptr us h1 h2 h3 h4 h5=>exact⟨_,_,_,_,_,us,rfl,h1,h2,h3,h4,h5⟩
theorem XRel.lst_eq{R:Nat→Prop}{ρ:Nat→Option Bk}{v:Value}{u:Bool}{sz:Nat}{es:List (List AV)}(h:XRel w R ρ v (.lst u sz es)):RRel w R v (.lst u sz es):=by
 cases h with
 |r h=>exact h
theorem RRel.lst_hdr{R:Nat→Prop}{v:Value}{u:Bool}{sz:Nat}{es:List (List AV)}(h:RRel w R v (.lst u sz es)):∃a cap,v= .slice a es.length cap∧es.length≤cap∧cap≤maxLen:=by
 cases h with
 |nil h=>exact⟨_,_,rfl,Nat.zero_le _,h⟩
 |lst us h1 h2 h3 h4=>exact⟨_,_,rfl,h3,h4⟩
theorem XRel.own_eq{R:Nat→Prop}{ρ:Nat→Option Bk}{v:Value}{id off m:Nat}(h:XRel w R ρ v (.own id off m)):
  (∃sz cap,ρ id=some ⟨none,sz,cap⟩∧v= .slice none 0 0∧off=0∧m=0)∨
  (∃b sz cap cc x,ρ id=some ⟨some b,sz,cap⟩∧v= .slice (some ⟨b,x,none⟩) m cc∧off+cc≤cap∧m≤cc∧(cc≠0→x=off*sz)∧(off=0→x=0)∧cap≤maxLen):=by
 cases h with
 |r h=>cases h
 |own0 h=>exact .inl ⟨_,_,h,rfl,rfl,rfl⟩
 |own h h1 h2 h3 h4 h5=>exact .inr ⟨_,_,_,_,_,h,rfl,h1,h2,h3,h4,h5⟩
theorem XRel.agg_eq{R:Nat→Prop}{ρ:Nat→Option Bk}{v:Value}{az:List AV}(h:XRel w R ρ v (.agg az)):∃cs:Array Value,v= .agg cs∧cs.size=az.length∧(∀k,k<az.length→Vc.one (cs.getD k undef))∧(∀k,k<az.length→XRel w R ρ (cs.getD k undef) (az.getD k .bot)):=by
 cases h with
 |r h=>cases h
 |agg h1 h2 h3=>exact⟨_,rfl,h1,h2,h3⟩
theorem XRel.tup_eq{R:Nat→Prop}{ρ:Nat→Option Bk}{v:Value}{az:List AV}(h:XRel w R ρ v (.tup az)):∃cs:Array Value,v= .tuple cs∧cs.size=az.length∧(∀k,k<az.length→XRel w R ρ (cs.getD k undef) (az.getD k .bot)):=by
 cases h with
 |r h=>cases h
 |tup h1 h3=>exact⟨_,rfl,h1,h3⟩
theorem XRel.ifs_eq{R:Nat→Prop}{ρ:Nat→Option Bk}{v:Value}{t sz:Nat}{es:List (List AV)}(h:XRel w R ρ v (.ifs t sz es)):∃u,v= .iface t u∧RRel w R u (.lst true sz es):=by
 cases h with
 |r h=>cases h with|ifs h=>exact⟨_,rfl,h⟩
theorem XRel.ifc_eq{R:Nat→Prop}{ρ:Nat→Option Bk}{v:Value}{t:Nat}{az:List AV}(h:XRel w R ρ v (.ifc t az)):∃cs:Array Value,v= .iface t (.agg cs)∧cs.size=az.length∧(∀k,k<az.length→Vc.one (cs.getD k undef))∧(∀k,k<az.length→XRel w R ρ (cs.getD k undef) (az.getD k .bot)):=by
 cases h with
 |r h=>cases h with|ifc h1 h2=>exact⟨_,rfl,h1,λk hk=>(h2 k hk).one,λk hk=>.r (h2 k hk)⟩
 |ifc h1 h2 h3=>exact⟨_,rfl,h1,h2,h3⟩
theorem XRel.bnd_eq{R:Nat→Prop}{ρ:Nat→Option Bk}{v:Value}{f:Nat}{az:List AV}(h:XRel w R ρ v (.bnd f az)):∃cs:Array Value,v= .func (.func f) cs #[]∧cs.size=az.length∧(∀k,k<az.length→XRel w R ρ (cs.getD k undef) (az.getD k .bot)):=by
 cases h with
 |r h=>cases h with|bnd h1 h2=>exact⟨_,rfl,h1,λk hk=>.r (h2 k hk)⟩
 |bnd h1 h3=>exact⟨_,rfl,h1,h3⟩
theorem XRel.fn_eq{R:Nat→Prop}{ρ:Nat→Option Bk}{v:Value}{f:Nat}{az:List AV}(h:XRel w R ρ v (.fn f az)):∃cs:Array Value,v= .func (.func f) #[] cs∧cs.size=az.length∧(∀k,k<az.length→XRel w R ρ (cs.getD k undef) (az.getD k .bot)):=by
 cases h with
 |r h=>cases h with|fn h1 h2=>exact⟨_,rfl,h1,λk hk=>.r (h2 k hk)⟩
 |fn h1 h3=>exact⟨_,rfl,h1,h3⟩
theorem Q8P(k:IntKind)(n:Int):k.min≤k.wrap n∧k.wrap n≤k.max:=by
 cases k<;>simp[IntKind.wrap,IntKind.min,IntKind.max,IntKind.signed,IntKind.bits]<;>omega
theorem XRel.int{R:Nat→Prop}{ρ:Nat→Option Bk}{k:IntKind}{n:Int}(h:k.min≤n∧n≤k.max):XRel w R ρ (.int k n) (.val (.int k n)):=.r (.val h)
theorem XRel.bool{R:Nat→Prop}{ρ:Nat→Option Bk}{b:Bool}:XRel w R ρ (.bool b) (.val (.bool b)):=.r (.val trivial)
variable (hev:∀ x,XRel w g.R g.ρ (a.eval x) (ev x))(W:WF C w g)(H:HRel w g h)
include hev W H
theorem Q7Y{o:Oper}{x:Operand}(ho:o.op= .move x∨o.op= .assign x)(he:some (c,e)=some (True,{v:=ev x})):StepR P C o a w g h n e:=by
 simp only[qA,qC]at he;obtain⟨rfl,rfl⟩:=he;refine Qn W H rfl rfl (v:=a.eval x) ?_ (hev x);rcases ho with ho|ho<;>simp[execOp,ho]
theorem step_pick{o:Oper}{x y z:Operand}(ho:o.op= .pick x y z)(he:pick (ev x) (ev y) (ev z)=some (c,e)):StepR P C o a w g h n e:=by
 unfold pick at he;split at he
 ·rename_i t ht;simp only[qA,qC]at he;obtain⟨rfl,rfl⟩:=he;have hx:=hev x;rw[ht]at hx;obtain⟨hx,_⟩:=hx.val_eq;refine Qn W H rfl rfl (v:=bif t then a.eval y else a.eval z) ?_ ?_
  ·cases t<;>simp[execOp,ho,hx,asBool]
  cases t
  ·exact hev z
  exact hev y
 simp at he
theorem Q7d{o:Oper}{x:Operand}(ho:o.op= .nilCheck x)(he:nilCheck (ev x)=some (c,e)):StepR P C o a w g h n e:=by
 have hx:=hev x;unfold nilCheck at he;split at he<;>simp only[qA,qC,reduceCtorEq]at he
 ·rename_i heq;obtain⟨rfl,rfl⟩:=he;rw[heq]at hx;refine Qn W H rfl rfl (v:=a.eval x) ?_ hx;obtain⟨b,sz,cap,_,hv⟩:=hx.adr_eq;simp[execOp,ho,hv]
 ·rename_i heq;obtain⟨rfl,rfl⟩:=he;rw[heq]at hx;refine Qn W H rfl rfl (v:=a.eval x) ?_ hx;obtain⟨b,x,cur,el,fr,us,hv,_⟩:=hx.rptr_eq;simp[execOp,ho,hv]
 rename_i heq;obtain⟨rfl,rfl⟩:=he;rw[heq]at hx;refine Qn W H rfl rfl (v:=a.eval x) ?_ hx;obtain⟨cs,hv,_⟩:=hx.fn_eq;simp[execOp,ho,hv]
omit hev W H in
theorem shr_in{k:IntKind}{x:Int}(n d:Nat)(h:k.min≤x∧x≤k.max):k.min≤x.fdiv (2 ^ (min n d))∧x.fdiv (2 ^ (min n d))≤k.max:=by
 have h0:k.min≤0∧0≤k.max:=by cases k<;>simp[IntKind.min,IntKind.max,IntKind.signed,IntKind.bits]
 have hd:(0:Int)<2 ^ (min n d):=Int.pow_pos (by omega);generalize (2:Int) ^ (min n d)=y at hd;rw[Int.fdiv_eq_ediv_of_nonneg _ (by omega)];rcases Int.le_total 0 x with hx|hx
 ·have h1:=Int.ediv_nonneg hx (show 0≤y by omega);have h2:=Int.ediv_le_self y hx;omega
 have h1:x≤x / y:=by
  rw[Int.le_ediv_iff_mul_le hd];have:x*y≤x*1:=Int.mul_le_mul_of_nonpos_left hx (by omega);omega
 have h2:x / y≤0:=by
  have:=Int.ediv_le_ediv hd hx;simpa using this
 omega
omit hev W H in
theorem tmod_in(k:IntKind)(x y:Int)(h:k.min≤x∧x≤k.max):k.min≤x.tmod y∧x.tmod y≤k.max:=by
 have h0:k.min≤0∧0≤k.max:=by cases k<;>simp[IntKind.min,IntKind.max,IntKind.signed,IntKind.bits]
 have h1:=Int.natAbs_tmod x y;have h2:x.natAbs % y.natAbs≤x.natAbs:=Nat.mod_le _ _;rcases Int.le_total 0 x with hx|hx
 ·have:=Int.tmod_nonneg y hx;omega
 have h3:(-x).tmod y= -(x.tmod y):=Int.neg_tmod x y;have:=Int.tmod_nonneg y (show 0≤-x by omega);omega
theorem Q9Q{o:Oper}{op:BinOp}{xt yt:TypeId}{x y:Operand}(ho:o.op= .binOp op xt x y yt)(he:binop op (ev x) (ev y)=some (c,e))(hc:c):StepR P C o a w g h n e:=by
 have hx:=hev x;have hy:=hev y;unfold binop at he;split at he
 ·rename_i k i k' j hi hj;rw[hi]at hx;rw[hj]at hy;obtain⟨hx,hx2⟩:=hx.val_eq;obtain⟨hy,hy2⟩:=hy.val_eq;split at he
  ·rename_i hop;subst hop;simp only[qA,qC]at he;obtain⟨rfl,rfl⟩:=he;have hj0:¬(j<0):=(by omega);refine Qn W H rfl rfl ?_ (XRel.int (shr_in _ _ hx2));simp[execOp,ho,hx,hy,eqGuard,binOp,Op.shift,hj0,shrI]
  split at he
  ·simp at he
  rename_i hop hk;have hk:k=k':=by simpa using hk
  subst hk;split at he<;>simp only[qA,qC,reduceCtorEq]at he<;>obtain⟨rfl,rfl⟩:=he<;>
   first
    |(refine Qn W H rfl rfl ?_ (XRel.int (Q8P _ _));simp[execOp,ho,hx,hy,eqGuard,binOp,Op.intArith,Op.intDiv,Op.intBits,andI,hc];done)
    |(refine Qn W H rfl rfl ?_ XRel.bool;simp[execOp,ho,hx,hy,eqGuard,binOp,Op.intCmp];done)
    |(refine Qn W H rfl rfl ?_ (XRel.int (tmod_in _ _ _ hx2));simp[execOp,ho,hx,hy,eqGuard,binOp,Op.intDiv,hc];done)
 simp at he
theorem step_unop{o:Oper}{op:UnOp}{xt:TypeId}{x:Operand}(ho:o.op= .unOp op xt x)(he:unop op (ev x)=some (c,e)):StepR P C o a w g h n e:=by
 have hx:=hev x;unfold unop at he;split at he<;>simp only[qA,qC,reduceCtorEq]at he<;>obtain⟨rfl,rfl⟩:=he
 ·rename_i b heq;rw[heq]at hx;refine Qn W H rfl rfl ?_ XRel.bool;simp[execOp,ho,hx.val_eq.1,Op.unary]
 rename_i k i heq;rw[heq]at hx;refine Qn W H rfl rfl ?_ (XRel.int (Q8P _ _));simp[execOp,ho,hx.val_eq.1,Op.unary,Op.intArith]
omit hev W H in
theorem Q7H{t:TypeId}{k:IntKind}(h:intk P t=some k):P.underlying t=some (.int k):=by
 unfold intk at h;split at h
 ·simp_all
 simp at h
theorem step_conv{o:Oper}{src dst:TypeId}{x:Operand}(ho:o.op= .convert src dst x)(he:Q6P (intk P src) (intk P dst) (ev x)=some (c,e)):StepR P C o a w g h n e:=by
 have hx:=hev x;unfold Q6P at he;split at he
 ·rename_i ks k k' i hs hd heq;simp only[qA,qC]at he;obtain⟨rfl,rfl⟩:=he;rw[heq]at hx;refine Qn W H rfl rfl ?_ (XRel.int (Q8P _ _));simp[execOp,ho,hx.val_eq.1,convert,run_underlying (Q7H hs),run_underlying (Q7H hd),Conv.intToInt]
 simp at he
theorem Q7X{o:Oper}{x:Operand}{k:Nat}(ho:o.op= .extract x k)(he:Q3F (ev x) k=some (c,e))(hc:c):StepR P C o a w g h n e:=by
 have hx:=hev x;unfold Q3F at he;split at he
 ·rename_i vs heq;simp only[qA,qC]at he;obtain⟨rfl,rfl⟩:=he;rw[heq]at hx;obtain⟨cs,hv,hl,hr⟩:=hx.tup_eq;refine Qn W H rfl rfl (v:=cs.getD k undef) ?_ (hr k hc);have hk:k<cs.size:=by omega
  simp[execOp,ho,hv,Instr.extract,hk]
 simp at he
omit hev W H in
theorem Q2T{t e:TypeId}(h:elm P t=some e):P.underlying t=some (.slice e):=by
 unfold elm at h;split at h
 ·simp_all
 simp at h
theorem step_len{o:Oper}{x:Operand}{t et:TypeId}(ho:o.op= .call {callee:=.builtin .len,args:=#[x],argTypes:=#[t]})(ht:elm P t=some et)(he:lenv (ev x)=some (c,e)):StepR P C o a w g h n e:=by
 have hx:=hev x;have hu:=Q2T ht;unfold lenv at he;have key:∀(ad:Option Addr) (m cc:Nat),a.eval x= .slice ad m cc→m≤maxLen→e={v:=.val (.int .i64 m)}→StepR P C o a w g h n e:=by
  intro ad m cc hv hm hee;subst hee;refine Qn W H rfl rfl (v:=.int .i64 m) ?_ (XRel.int ?_)
  ·simp[execOp,ho,resolve,invoke,builtin,hv,Builtin.len_,run_underlying hu,goInt]
  unfold maxLen at hm;simp[IntKind.min,IntKind.max,IntKind.signed,IntKind.bits];omega
 split at he<;>simp only[qA,qC,reduceCtorEq]at he
 ·rename_i id off m heq;rw[heq]at hx;rcases hx.own_eq with⟨sz,cap,_,hv,_,rfl⟩|⟨b,sz,cap,cc,x,_,hv,h1,h2,_,_,h5⟩
  ·exact key _ _ _ hv (by decide) he.2.symm
  exact key _ _ _ hv (by omega) he.2.symm
 ·rename_i u sz es heq;rw[heq]at hx;obtain⟨ad,cap,hv,h1,h2⟩:=hx.lst_eq.lst_hdr;exact key _ _ _ hv (by omega) he.2.symm
 rename_i heq;rw[heq]at hx;exact key _ _ _ hx.val_eq.1 (by decide) he.2.symm
end
theorem cont_mono(h:HP):∀(d id:Nat) (x:Nat×List (List AV)),cont h d id=some x→cont h (d+1) id=some x:=by
 intro d
 induction d with
 |zero=>intro id x hx;simp[cont]at hx
 |succ d ih=>
  intro id x hx;unfold cont at hx⊢;cases he:h id with
  |none=>simp[he]at hx
  |some e=>
   cases e with
   |mix=>simpa[he]using hx
   |row=>simpa[he]using hx
   |mapE=>simp[he]at hx
   |ali c i k s=>
    simp only[he]at hx⊢;split at hx
    ·simp at hx
    rename_i hm;rw[if_neg hm];cases hc:cont h d c with
    |none=>simp[hc]at hx
    |some p=>rw[ih c p hc];rw[hc]at hx;exact hx
theorem cont_le(h:HP){d d' id:Nat}{x:Nat×List (List AV)}(hd:d≤d')(hx:cont h d id=some x):cont h d' id=some x:=by
 induction hd with
 |refl=>exact hx
 |step _ ih=>exact cont_mono h _ _ _ ih
theorem cont_fun(h:HP){d d' id:Nat}{x y:Nat×List (List AV)}(hx:cont h d id=some x)(hy:cont h d' id=some y):x=y:=by
 rcases Nat.le_total d d' with hd|hd
 ·have:=cont_le h hd hx;rw[hy]at this;simpa using this.symm
 have:=cont_le h hd hy;rw[hx]at this;simpa using this
theorem Q1V{P:Program}{t:TypeId}{ty:Tyi}(h:tyi P t=some ty):∃i d z,P.info? t=some i∧P.underlying t=some d∧i.zero=some z∧ty=⟨Q5f d,i.size,i.bytes,z.cells.toList⟩∧
  (∀v∈z.cells.toList,sc v)∧z.cells.size=i.size∧(Q5f d=false→i.size=1):=by
 unfold tyi at h;split at h
 ·rename_i i d hi hd;split at h
  ·rename_i z hz;split at h
   ·rename_i hall;simp only[qG,qW,beq_iff_eq,Bool.or_eq_true]at hall;refine⟨i,d,z,hi,hd,hz,by simpa using h.symm,λv hv=>Q6F (hall.1.1 v hv),hall.1.2,λhf=>?_⟩;rcases hall.2 with h2|h2
    ·rw[hf]at h2;exact absurd h2 (by simp)
    exact h2
   simp at h
  simp at h
 simp at h
theorem Q6T{P:Program}{t:TypeId}{k:Nat}{r:Nat×Nat×Bool}(h:fld P t k=some r):∃fs f i d,P.underlying t=some (.struct fs)∧fs[k]? =some f∧P.info? f.type=some i∧P.underlying f.type=some d∧i.size≠0∧r=(f.offset,i.size,Q5f d):=by
 unfold fld at h;split at h
 ·rename_i fs hfs;split at h
  ·rename_i f hf;split at h
   ·rename_i i d hi hd;split at h
    ·simp at h
    rename_i hz;exact⟨fs,f,i,d,hfs,hf,hi,hd,hz,by simpa using h.symm⟩
   simp at h
  simp at h
 simp at h
theorem Q2g(b x n:Nat):(⟨b,x,none⟩:Addr).add n=⟨b,x+n,none⟩:=by
 unfold Addr.add;split<;>simp_all
theorem Q3s{P:Program}{w:World}{t:TypeId}{d:TypeDesc}(h:P.underlying t=some d):(isAgg t).run P w= .ok (Q5f d) w:=by
 unfold isAgg;simp only[Sem.run_bind,run_underlying h,Result.andThen_ok];cases d<;>rfl
section
variable {P:Program}{C:Ctx}{a:Act}{w:World}{g:Gh}{h:HP}{n:Nat}{e:Eff}{c:Prop}{ev:Operand→AV}
theorem Q8a(H:HRel w g h){d id sz:Nat}{es:List (List AV)}{bk:Bk}(hc:cont h d id=some (sz,es))(hb:g.ρ id=some bk):bk.sz=sz:=by
 cases hm:Qm (h id)with
 |false=>exact(Q2A H d id sz es bk hc hm hb).1
 |true=>
  cases d with
  |zero=>simp[cont]at hc
  |succ d=>
   unfold cont at hc;cases he:h id with
   |none=>simp[he,Qm]at hm
   |some e=>
    cases e with
    |mix s es2=>
     simp only[he,qA,qC]at hc;rcases(H.mix id s es2 bk he hb).ex0 with⟨_,cp0,hbk⟩|⟨b,cur,el,us,cpm,hbk,_⟩
     ·rw[hbk];exact hc.1
     rw[hbk];exact hc.1
    |row=>simp[he,Qm]at hm
    |ali=>simp[he,Qm]at hm
    |mapE=>simp[he,Qm]at hm
variable (hev:∀ x,XRel w g.R g.ρ (a.eval x) (ev x))(W:WF C w g)(H:HRel w g h)
include hev W H
theorem Q6k{o:Oper}{t:TypeId}{x:Operand}{k:Nat}(ho:o.op= .fieldAddr t x k)(he:fieldAddr (fld P t k) (ev x)=some (c,e)):StepR P C o a w g h n e:=by
 have hx:=hev x;unfold fieldAddr at he;split at he<;>simp only[qA,qC,reduceCtorEq]at he
 ·rename_i off sz ag id i k0 hf heq;obtain⟨_,rfl⟩:=he;rw[heq]at hx;obtain⟨fs,f,inf,d,h1,h2,h3,h4,h5,h6⟩:=Q6T hf;simp only[qC]at h6;obtain⟨b,bsz,cap,hb,hv⟩:=hx.adr_eq;refine Qn W H rfl rfl (v:=.pointer (some ⟨b,i*bsz+(k0+off),none⟩)) ?_ (.adr hb);simp[execOp,ho,hv,Instr.fieldAt,run_underlying h1,h2,Instr.sureAddr,fieldPlace,sizeOf,typeInfo,h3,h5,Q2g,h6.1,qL]
 rename_i off sz ag cs hf heq;obtain⟨_,rfl⟩:=he;rw[heq]at hx;obtain⟨fs,f,inf,d,h1,h2,h3,h4,h5,h6⟩:=Q6T hf;simp only[qC]at h6;obtain⟨b,x0,cur,el,fr,us,hv,hR,hh,hc,h1c,hr⟩:=hx.rptr_eq;refine Qn W H rfl rfl (v:=.pointer (some ⟨b,x0+off,none⟩)) ?_ (.r (.rptr (λk=>us (off+k)) hR hh ?_ ?_ ?_))
 ·simp[execOp,ho,hv,Instr.fieldAt,run_underlying h1,h2,Instr.sureAddr,fieldPlace,sizeOf,typeInfo,h3,h5,Q2g,h6.1]
 ·intro k hk;have:=hc (off+k) (by simp at hk;omega);rwa[←qL]at this
 ·intro k hk;exact h1c (off+k) (by simp at hk;omega)
 intro k hk;have:=hr (off+k) (by simp at hk;omega);simpa[qB,qX]using this
theorem Q9U{o:Oper}{t:TypeId}{x:Operand}{k:Nat}(ho:o.op= .field t x k)(he:Q5P (fld P t k) (ev x)=some (c,e))(hc:c):StepR P C o a w g h n e:=by
 have hx:=hev x;unfold Q5P at he;split at he<;>simp only[qA,qC,reduceCtorEq]at he;rename_i off sz ag cs hf heq;obtain⟨rfl,rfl⟩:=he;rw[heq]at hx;obtain⟨fs,f,inf,d,h1,h2,h3,h4,h5,h6⟩:=Q6T hf;simp only[qC]at h6;obtain⟨vs,hv,hl,h1c,hr⟩:=hx.agg_eq;cases ag with
 |true=>
  refine Qn W H rfl rfl (v:=.agg (vs.extract off (off+sz))) ?_ ?_
  ·simp[execOp,ho,hv,Instr.field,run_underlying h1,h2,asAgg,part,Q3s h4,←h6.2.2,sizeOf,typeInfo,h3,h6.1,h6.2.1]
  simp only[cond_true];refine .agg ?_ ?_ ?_
  ·simp[hl];omega
  ·intro j hj;have hj':j<sz∧off+j<cs.length:=(by simp at hj;omega);have:=h1c (off+j) hj'.2;simpa[Array.getElem?_extract,show j<min (off+sz) vs.size - off by omega,show off+j<vs.size by omega]using this
  intro j hj;have hj':j<sz∧off+j<cs.length:=by simp at hj;omega
  have:=hr (off+j) hj'.2;simpa[Array.getElem?_extract,hj'.1,show j<min (off+sz) vs.size - off by omega,show off+j<vs.size by omega,qB,qR,qX]using this
 |false=>
  have hin:off<vs.size:=by omega
  refine Qn W H rfl rfl (v:=vs.getD off undef) ?_ (hr off (by omega));simp[execOp,ho,hv,Instr.field,run_underlying h1,h2,asAgg,part,Q3s h4,←h6.2.2,h6.1.symm,hin]
theorem step_idx{o:Oper}{t et:TypeId}{x i:Operand}(ho:o.op= .indexAddr t x i)(ht:elm P t=some et)(he:QY (tyi P et) (ev x) (ev i) h=some (c,e))(hc:c):StepR P C o a w g h n e:=by
 have hx:=hev x;have hi:=hev i;have hu:=Q2T ht;unfold QY at he;split at he
 ·rename_i ty id off m k j hty heq heqi;rw[heq]at hx;rw[heqi]at hi;obtain⟨inf,d,z,h1,h2,h3,h4,_⟩:=Q1V hty;split at he
  ·rename_i sz es hcont;split at he
   ·rename_i hsz;simp only[qA,qC]at he;obtain⟨rfl,rfl⟩:=he;rcases hx.own_eq with⟨_,_,_,_,_,rfl⟩|⟨b,bsz,cap,cc,x0,hb,hv,h5,h6,h7,h8,h9⟩
    ·omega
    have hbs:=Q8a H hcont hb;simp only at hbs;have hx0:x0=off*bsz:=h7 (by omega);refine Qn W H rfl rfl (v:=.pointer (some ⟨b,(off+j.toNat)*bsz+0,none⟩)) ?_ (.adr hb);have hsz2:inf.size=bsz:=(by rw[h4]at hsz;simp at hsz;omega);simp[execOp,ho,hv,hi.val_eq.1,Instr.indexAt,run_underlying hu,asIntOf,hc,sizeOf,typeInfo,h1,Q2g,hx0,hsz2,qT]
   simp at he
  simp at he
 ·rename_i ty u sz es k j hty heq heqi;rw[heq]at hx;rw[heqi]at hi;obtain⟨inf,d,z,h1,h2,h3,h4,_⟩:=Q1V hty;split at he
  ·rename_i hsz;simp only[qA,qC]at he;obtain⟨rfl,rfl⟩:=he;have hx:=hx.lst_eq;have hjn:j.toNat<es.length:=(by omega);generalize hvv:a.eval x=v at hx;cases hx with
   |nil=>simp at hc;omega
   |@lst _ _ _ b x0 cap cur el fr us hR hh h5 h6 h7 h8 h9 h10=>
    have hlen:=h7 j.toNat hjn;have hsz2:inf.size=sz:=(by rw[h4]at hsz;exact hsz.symm);refine Qn W H rfl rfl (v:=.pointer (some ⟨b,x0+j.toNat*sz,none⟩)) ?_ (.r (.rptr (us j.toNat) hR hh ?_ ?_ ?_))
    ·simp[execOp,ho,hvv,hi.val_eq.1,Instr.indexAt,run_underlying hu,asIntOf,hc,sizeOf,typeInfo,h1,Q2g,hsz2]
    ·intro k hk;exact h8 _ k hjn (by omega)
    ·intro k hk;exact h9 _ k hjn (by omega)
    intro k hk;exact h10 _ k hjn (by omega)
  simp at he
 simp at he
omit hev W H in
theorem Q3r{x:Value}{k:IntKind}{j:Int}{y:Nat}{cd:BoundsCode}(hx:x= .int k j)(h0:0≤j)(h1:j≤y):(Instr.sliceBound x y cd).run P w= .ok j.toNat w:=by
 subst hx;simp[Instr.sliceBound,asIntOf,h0,h1]
theorem Q3e{o:Oper}{t et:TypeId}{x:Operand}{lo hi:Option Operand}{ty:Tyi}(l r:Int)(ho:o.op= .slice t x lo hi none)(ht:elm P t=some et)(hty:tyi P et=some ty)(hbd:∀(m cap:Nat),(0≤l∧l≤r∧r≤(m:Int))→m≤cap→slen (ev x)=m→(Instr.sliceBounds true m cap (lo.map a.eval) (hi.map a.eval) none).run P w= .ok (l.toNat,r.toNat,cap) w)(he:Q1E ty h (ev x) l r=some (c,e))(hc:c):StepR P C o a w g h n e:=by
 have hx:=hev x;have hu:=Q2T ht;obtain⟨inf,d,z,h1,h2,h3,h4,_⟩:=Q1V hty;have hrun:∀(ad:Option Addr) (m cap:Nat),a.eval x= .slice ad m cap→(0≤l∧l≤r∧r≤(m:Int))→m≤cap→slen (ev x)=m→
   (execOp a.eval o).run P w= .ok (.value (.slice (if cap=l.toNat then ad else ad.map (·.add (l.toNat*inf.size))) (r.toNat - l.toNat) (cap - l.toNat))) w:=by
  intro ad m cap hv hlr hm hs;simp[execOp,ho,hv,Instr.sliceAt,run_underlying hu,Instr.slice,hbd m cap hlr hm hs,sizeOf,typeInfo,h1]
 unfold Q1E at he;split at he
 ·rename_i id off m heq;rw[heq]at hx;split at he
  ·rename_i sz es hcont;split at he
   ·rename_i hsz;simp only[qA,qC]at he;obtain⟨rfl,rfl⟩:=he;have hsl:slen (ev x)=(m:Int):=(by rw[heq];rfl);rcases hx.own_eq with⟨s0,c0,hb,hv,rfl,rfl⟩|⟨b,bsz,cap,cc,x0,hb,hv,h5,h6,h7,h8,h9⟩
    ·have hl0:l=0:=(by omega);have hr0:r=0:=(by omega);subst hl0;subst hr0;refine Qn W H rfl rfl (hrun _ _ _ hv hc (qF _) hsl) ?_;simpa using XRel.own0 hb
    have hbs:=Q8a H hcont hb;simp only at hbs;have hsz2:inf.size=bsz:=(by rw[h4]at hsz;simp at hsz;omega);have hrl:(r - l).toNat=r.toNat - l.toNat:=(by omega);refine Qn W H rfl rfl (hrun _ _ _ hv hc h6 hsl) ?_;simp only[hrl]
    by_cases hcl:cc=l.toNat
    ·rw[if_pos hcl];refine .own hb (by omega) (by omega) (λhne=>by omega) (λh0=>h8 (by omega)) h9
    rw[if_neg hcl];simp only[qY,Q2g];refine .own hb (by omega) (by omega) (λ_=>?_) (λh0=>?_) h9
    ·rw[h7 (by omega),hsz2,qT]
    rw[h8 (by omega),show l.toNat=0 by omega];simp
   simp at he
  simp at he
 ·rename_i u sz es heq;rw[heq]at hx;split at he
  ·rename_i hsz;simp only[qA,qC]at he;obtain⟨rfl,rfl⟩:=he;have hx:=hx.lst_eq;have hsl:slen (ev x)=(es.length:Int):=(by rw[heq];rfl);have hsz2:inf.size=sz:=(by rw[h4]at hsz;exact hsz.symm);have hrl:(r - l).toNat=r.toNat - l.toNat:=(by omega);have hlen:((es.drop l.toNat).take (r - l).toNat).length=r.toNat - l.toNat:=(by simp;omega);generalize hvv:a.eval x=v at hx;cases hx with
   |@nil ad cap _ _ hcap=>
    simp at hc;refine Qn W H rfl rfl (hrun _ _ _ hvv (by simpa using hc) (Nat.zero_le _) hsl) ?_;have:r.toNat - l.toNat=0:=(by omega);rw[this];simp only[List.drop_nil,List.take_nil];exact .r (.nil (by omega))
   |@lst _ _ _ b x0 cap cur el fr us hR hh h5 h6 h7 h8 h9 h10=>
    refine Qn W H rfl rfl (hrun _ _ _ hvv hc h5 hsl) (.r ?_)
    by_cases hcl:cap=l.toNat
    ·have:r.toNat - l.toNat=0:=(by omega);have hnil:(es.drop l.toNat).take (r - l).toNat=[]:=qQ (by omega);rw[this,hnil];exact .nil (by omega)
    rw[if_neg hcl];simp only[qY,Q2g,hsz2];have hget:∀i,i<r.toNat - l.toNat→((es.drop l.toNat).take (r - l).toNat).getD i []=es.getD (l.toNat+i) []:=by
     intro i hi;simp[qB,qX,show i<(r - l).toNat by omega]
    rw[←hlen];refine .lst (x:=x0+l.toNat*sz) (λi k=>us (l.toNat+i) k) hR hh (by omega) (by omega) ?_ ?_ ?_ ?_
    ·intro i hi;rw[hget i (by omega)];exact h7 _ (by omega)
    ·intro i k hi hk;have:=h8 (l.toNat+i) k (by omega) hk
     rwa[qT,←qL]at this
    ·intro i k hi hk;exact h9 _ _ (by omega) hk
    intro i k hi hk;rw[hget i (by omega)];exact h10 _ _ (by omega) hk
  simp at he
 simp at he
theorem Q8I{o:Oper}{t et:TypeId}{x y z:Operand}(ho:o.op= .slice t x none (some y) (some z))(ht:elm P t=some et)(he:Q3P (tyi P et) h (ev x) (ev y) (ev z)=some (c,e))(hc:c):StepR P C o a w g h n e:=by
 have hu:=Q2T ht;unfold Q3P at he;split at he
 ·rename_i ty id m k r k' r' hty hx0 hy hz;obtain⟨inf,d,zz,h1,h2,h3,h4,_⟩:=Q1V hty;split at he
  ·rename_i sz es hcont;split at he
   ·rename_i hsz;simp only[qA,qC]at he;obtain⟨rfl,rfl⟩:=he;obtain⟨hrr,h0,hr⟩:=hc;subst hrr;have hyv:a.eval y= .int k r:=(by have:=hev y;rw[hy]at this;exact this.val_eq.1);have hzv:a.eval z= .int k' r:=(by have:=hev z;rw[hz]at this;exact this.val_eq.1);obtain⟨q,rfl⟩:∃q:Nat,r=q:=⟨r.toNat,by omega⟩;have hx:=hev x;rw[hx0]at hx;have q1:(Instr.sliceBound (a.eval y) q .slice3B).run P w= .ok q w:=by
     have:=Q3r (P:=P) (w:=w) (cd:=.slice3B) hyv (show(0:Int)≤q by omega) (show(q:Int)≤(q:Nat) by omega);simpa using this
    have q0:∀c:Nat,q≤c→(Instr.sliceBound (a.eval z) c .slice3Acap).run P w= .ok q w:=λc hc=>by
     have:=Q3r (P:=P) (w:=w) (cd:=.slice3Acap) hzv (show(0:Int)≤q by omega) (show(q:Int)≤(c:Nat) by omega);simpa using this
    rcases hx.own_eq with⟨s0,c0,hb,hv,_,rfl⟩|⟨b,bsz,cap,cc,x0,hb,hv,h5,h6,h7,h8,h9⟩
    ·have hq:q=0:=(by omega);subst hq;refine Qn W H rfl rfl (v:=.slice none 0 0) ?_ ?_
     ·simp[execOp,ho,hv,Instr.sliceAt,run_underlying hu,Instr.slice,Instr.sliceBounds,q0 0 (qF _),q1,sizeOf,typeInfo,h1]
     simpa using XRel.own0 hb
    have hx00:=h8 rfl;subst hx00;refine Qn W H rfl rfl (v:=.slice (some ⟨b,0,none⟩) q q) ?_ ?_
    ·simp[execOp,ho,hv,Instr.sliceAt,run_underlying hu,Instr.slice,Instr.sliceBounds,q0 cc (by omega),q1,sizeOf,typeInfo,h1,Q2g]
    simp only[Int.toNat_natCast];exact .own hb (by omega) (qF _) (by simp) (by simp) h9
   simp at he
  simp at he
 simp at he
theorem Q9X{o:Oper}{t et:TypeId}{x:Operand}{lo hi:Option Operand}(ho:o.op= .slice t x lo hi none)(ht:elm P t=some et)(he:Q46 (tyi P et) h (ev x) (lo.map ev) (hi.map ev)=some (c,e))(hc:c):StepR P C o a w g h n e:=by
 have hint:∀y k j,ev y= .val (.int k j)→a.eval y= .int k j:=λy k j hy=>by have:=hev y;rw[hy]at this;exact this.val_eq.1
 unfold Q46 at he;split at he
 ·rename_i ty k l k' r hty hlo hhi;refine Q3e hev W H l r ho ht hty (λm cap hlr hm _=>?_) he hc;cases lo with
  |none=>simp at hlo
  |some y=>cases hi with
   |none=>simp at hhi
   |some z=>
    simp only[qY,qA]at hlo hhi;simp[Instr.sliceBounds,Q3r (hint _ _ _ hhi) (show 0≤r by omega) (show r≤cap by omega),Q3r (hint _ _ _ hlo) hlr.1 (show l≤(r.toNat:Nat) by omega)]
 ·rename_i ty k' r hty hlo hhi;refine Q3e hev W H 0 r ho ht hty (λm cap hlr hm _=>?_) he hc;cases lo with
  |some y=>simp at hlo
  |none=>cases hi with
   |none=>simp at hhi
   |some z=>
    simp only[qY,qA]at hhi;simp[Instr.sliceBounds,Q3r (hint _ _ _ hhi) (show 0≤r by omega) (show r≤cap by omega)]
 ·rename_i ty k l hty hlo hhi;refine Q3e hev W H l (slen (ev x)) ho ht hty (λm cap hlr hm hs=>?_) he hc;cases hi with
  |some z=>simp at hhi
  |none=>cases lo with
   |none=>simp at hlo
   |some y=>
    simp only[qY,qA]at hlo;simp[Instr.sliceBounds,hs,Q3r (hint _ _ _ hlo) hlr.1 (show l≤(m:Nat) by omega)]
 ·rename_i ty hty hlo hhi;refine Q3e hev W H 0 (slen (ev x)) ho ht hty (λm cap hlr hm hs=>?_) he hc;cases hi with
  |some z=>simp at hhi
  |none=>cases lo with
   |some z=>simp at hlo
   |none=>simp[Instr.sliceBounds,hs]
 simp at he
end
theorem Q1m(w:World)(o:Obj){b:Nat}(h:b<w.heap.size):(w.alloc o).heap[b]? =w.heap[b]?:=by
 show(w.heap.push o)[b]? =_;rw[Array.getElem?_push,if_neg (by omega)]
theorem Q2h(w:World)(o:Obj):(w.alloc o).heap[w.heap.size]? =some o:=by
 show(w.heap.push o)[w.heap.size]? =_;simp
def upd{α:Type}(f:Nat→Option α)(k:Nat)(v:α):Nat→Option α:=λi=>if i=k then some v else f i
section
variable {P:Program}{C:Ctx}{a:Act}{w:World}{g:Gh}{h:HP}{n:Nat}{e:Eff}{c:Prop}{ev:Operand→AV}
theorem WF.alloc(W:WF C w g)(ob:Obj)(L:List Nat)(ρ':Nat→Option Bk):WF C (w.alloc ob) ⟨g.R,upd g.o w.heap.size L,ρ'⟩:=by
 refine⟨λb hb=>?_,λb M hb=>?_,W.os,W.tape,W.output,?_,λb hb hw=>?_⟩
 ·have:=W.R b hb;refine⟨by simp;omega,?_⟩;show upd g.o w.heap.size L b=none;simp only[upd];rw[if_neg (by omega)];exact this.2
 ·have hb':upd g.o w.heap.size L b=some M:=hb;simp only[upd]at hb';split at hb'
  ·rename_i hbb;subst hbb;exact⟨by simp,.inl W.size⟩
  have:=W.o b M hb';exact⟨by simp;omega,this.2⟩
 ·simp;have:=W.size;omega
 rw[Q1m _ _ (by have:=W.size;omega)];exact W.keep b hb hw
theorem WF.drew(W:WF C w g):WF C w.drew g:=⟨W.R,W.o,W.os,⟨W.tape.1,Nat.le_succ_of_le W.tape.2⟩,W.output,W.size,W.keep⟩
theorem HRel.heap_eq{w':World}(H:HRel w g h)(hh:w'.heap=w.heap):HRel w' g h:=by
 have:=H.mono (w':=w') (o':=g.o) (ρ':=g.ρ) (λb _=>by rw[hh]) (λb L hb=>⟨hb,by rw[hh]⟩) (λ_ _ h=>h)
  (λid sz es bk _ h1 h2=>by rw[h1]at h2;cases h2) (λid sz es bk _ h1 h2=>by rw[h1]at h2;cases h2) (λid c i k sz bk _ h1 h2=>by rw[h1]at h2;cases h2)
 exact this
theorem HRel.alloc(W:WF C w g)(H:HRel w g h){cur:Array Value}{el:TypeId}{ent:Ent}{bk:Bk}(hn:h n=some ent)(hρ:g.ρ n=none)(hent:(∃sz es,ent= .mix sz es∧MixRel (w.alloc (.cells cur el)) ⟨g.R,upd g.o w.heap.size [n],upd g.ρ n bk⟩ n bk sz es)∨
   (∃sz es v,ent= .row sz es∧TRel (w.alloc (.cells cur el)) g.R (upd g.o w.heap.size [n]) [n] v (.lst true sz es)∧Hdr v bk sz)):
  HRel (w.alloc (.cells cur el)) ⟨g.R,upd g.o w.heap.size [n],upd g.ρ n bk⟩ h:=by
 refine H.mono (λb hb=>Q1m _ _ (W.R b hb).1) (λb L hb=>⟨?_,Q1m _ _ (W.o b L hb).1⟩) (λid k hk=>?_) ?_ ?_ ?_ ?_
 ·simp only[upd];rw[if_neg (by have:=(W.o b L hb).1;omega)];exact hb
 ·simp only[upd];rw[if_neg (by rintro rfl;rw[hρ]at hk;cases hk)];exact hk
 all_goals
  intro id;intros;rename_i h1 h2 h3;simp only[upd]at h3;split at h3
  ·rename_i hid;subst hid;cases h3;rw[hn]at h1;simp only[qA]at h1;subst h1;rcases hent with⟨sz,es,hee,hm⟩|⟨sz,es,v,hee,hm⟩
   ·first
     |(simp only[Ent.mix.injEq]at hee;obtain⟨rfl,rfl⟩:=hee;exact hm)
     |(simp at hee;done)
   first
    |(simp only[Ent.row.injEq]at hee;obtain⟨rfl,rfl⟩:=hee;exact⟨v,hm⟩)
    |(simp at hee;done)
  rw[h2]at h3;cases h3
theorem Q4R{o:Oper}{v:Value}{w1:World}{cur:Array Value}{el:TypeId}{ent:Ent}{bk:Bk}(W:WF C w g)(H:HRel w g h)(hw1:w1=w∨w1=w.drew)(h1:e.set=[])(h2:e.del=[])(h3:e.new=[(n,ent)])(h4:e.cnt=1)(hnew:∀p∈e.new,h p.1=some p.2)(hfr:∀id,n≤id→id<n+e.cnt→g.ρ id=none)(hrun:(execOp a.eval o).run P w= .ok (.value v) (w1.alloc (.cells cur el)))(hent:(∃sz es,ent= .mix sz es∧MixRel (w1.alloc (.cells cur el)) ⟨g.R,upd g.o w1.heap.size [n],upd g.ρ n bk⟩ n bk sz es)∨
   (∃sz es v,ent= .row sz es∧TRel (w1.alloc (.cells cur el)) g.R (upd g.o w1.heap.size [n]) [n] v (.lst true sz es)∧Hdr v bk sz))(hv:XRel (w1.alloc (.cells cur el)) g.R (upd g.ρ n bk) v e.v):StepR P C o a w g h n e:=by
 intro K Q k;have hn:=hnew (n,ent) (by rw[h3];simp);have hρ:=hfr n (qF _) (by omega);have W1:WF C w1 g:=by
  rcases hw1 with rfl|rfl
  ·exact W
  exact W.drew
 have H1:HRel w1 g h:=by
  rcases hw1 with rfl|rfl
  ·exact H
  exact H.heap_eq rfl
 have hsz:w1.heap.size=w.heap.size:=by rcases hw1 with rfl|rfl<;>rfl
 refine Q2a hrun (k v _ (upd g.o w1.heap.size [n]) (upd g.ρ n bk) (W1.alloc _ _ _) ?_ ?_ ?_ hv ?_)
 ·rw[QH h1 h2];exact HRel.alloc W1 H1 hn hρ hent
 ·intro id k hk;simp only[upd];rw[if_neg (by rintro rfl;rw[hρ]at hk;cases hk)];exact hk
 ·intro id k hk;simp only[upd]at hk;split at hk
  ·rename_i hid;subst hid;exact .inr ⟨qF _,by omega⟩
  exact .inl hk
 intro b hb;rw[Q1m _ _ (W1.R b hb).1];rcases hw1 with rfl|rfl<;>rfl
theorem mix_one{w':World}{g':Gh}{id b:Nat}{cs:List Value}{az:List AV}{el:TypeId}(ho:g'.o b=some [id])(hh:w'.heap[b]? =some (.cells cs.toArray el (0,0)))(hl:cs.length=az.length)(h1:∀k,k<az.length→one (cs.getD k undef))(hx:∀k,k<az.length→XRel w' g'.R g'.ρ (cs.getD k undef) (az.getD k .bot)):
  MixRel w' g' id ⟨some b,az.length,1⟩ az.length [az]:=by
 refine .mk' ⟨b,cs.toArray,el,λ_ k=>cs.getD k undef,1,rfl,ho,hh,by simp[hl],qF _,by decide,?_,?_,?_,?_⟩
 ·intro i hi;simp at hi;subst hi;rfl
 ·intro i k hi hk;simp at hi;subst hi;simp[qI (show k<cs.length by omega)]
 ·intro i k hi hk;exact h1 k hk
 intro i k hi hk;simp at hi;subst hi;exact hx k hk
theorem Q3a(vs:List Value)(k:Nat)(hk:k<vs.length):(vs.map AV.val).getD k .bot= .val (vs.getD k undef):=by
 simp[qB,List.getElem?_map,qI hk]
theorem Q2U{vs:List Value}{k:Nat}(hk:k<vs.length):vs.getD k undef∈vs:=by
 simp[qB,qI hk]
variable (hev:∀ x,XRel w g.R g.ρ (a.eval x) (ev x))(W:WF C w g)(H:HRel w g h)(hnew:∀ p∈e.new,h p.1=some p.2)(hfr:∀ id,n≤id→id<n+e.cnt→g.ρ id=none)
include hev W H hnew hfr
omit hev in
theorem Q9P{o:Oper}{t:TypeId}(ho:o.op= .alloc t)(he:alloc (tyi P t) n=some (c,e)):StepR P C o a w g h n e:=by
 unfold alloc at he;split at he<;>simp only[qA,qC,reduceCtorEq]at he;rename_i ty hty;obtain⟨_,rfl⟩:=he;obtain⟨inf,d,z,h1,h2,h3,h4,hsc,h5,_⟩:=Q1V hty;subst h4;have hl:z.cells.toList.length=inf.size:=by simpa using h5
 refine Q4R (v:=.pointer (some ⟨w.heap.size,0,none⟩)) (cur:=z.cells) (el:=t) (bk:=⟨some w.heap.size,inf.size,1⟩) W H (.inl rfl) rfl rfl rfl rfl hnew hfr ?_ (.inl ⟨inf.size,_,rfl,?_⟩) ?_
 ·simp[execOp,ho,Instr.alloc,zeroValue,typeInfo,h1,h3,newVar,newRow]
 ·have:=mix_one (w':=w.alloc (.cells z.cells t)) (g':=⟨g.R,upd g.o w.heap.size [n],upd g.ρ n ⟨some w.heap.size,inf.size,1⟩⟩) (id:=n) (b:=w.heap.size) (cs:=z.cells.toList) (az:=z.cells.toList.map .val) (el:=t)
   (by simp[upd]) (by rw[Q2h]) (by simp) (λk hk=>Q45 (hsc _ (Q2U (by simpa using hk)))) (λk hk=>by
    rw[Q3a _ _ (by simpa using hk)];exact .r (.val (hsc _ (Q2U (by simpa using hk)))))
  rw[show(z.cells.toList.map AV.val).length=inf.size by simpa using hl]at this;exact this
 have:XRel (w.alloc (.cells z.cells t)) g.R (upd g.ρ n ⟨some w.heap.size,inf.size,1⟩) (.pointer (some ⟨w.heap.size,0*inf.size+0,none⟩)) (.adr n 0 0):=.adr (cap:=1) (by simp[upd]);simpa using this
theorem step_box{o:Oper}{t:TypeId}{x:Operand}(ho:o.op= .box t x)(he:boxv (ev x) n=some (c,e)):StepR P C o a w g h n e:=by
 have hx:=hev x;have hrun:(execOp a.eval o).run P w= .ok (.value (.pointer (some ⟨w.heap.size,0,none⟩))) (w.alloc (.cells (a.eval x).cells t)):=by
  simp[execOp,ho,Instr.box,newVar,newRow]
 have key:∀(cs:Array Value) (az:List AV),(a.eval x).cells=cs→cs.size=az.length→(∀k,k<az.length→one (cs.getD k undef))→(∀k,k<az.length→XRel w g.R g.ρ (cs.getD k undef) (az.getD k .bot))→
   e={v:=.adr n 0 0,new:=[(n,.mix az.length [az])],cnt:=1}→StepR P C o a w g h n e:=by
  intro cs az hcs hl h1 h2 hee;have hmono:∀v av,XRel w g.R g.ρ v av→XRel (w.alloc (.cells cs t)) g.R (upd g.ρ n ⟨some w.heap.size,az.length,1⟩) v av:=λv av hv=>
   hv.mono (λb hb=>⟨hb,Q1m _ _ (W.R b hb).1⟩) (λid k hk=>by
    simp only[upd];rw[if_neg (by rintro rfl;rw[hfr _ (qF _) (by subst hee;simp)]at hk;cases hk)];exact hk)
  rw[hcs]at hrun;subst hee;refine Q4R (cur:=cs) (el:=t) (bk:=⟨some w.heap.size,az.length,1⟩) W H (.inl rfl) rfl rfl rfl rfl hnew hfr hrun (.inl ⟨az.length,_,rfl,?_⟩) ?_
  ·exact mix_one (cs:=cs.toList) (el:=t) (by simp[upd]) (by rw[Q2h]) (by simpa using hl) (λk hk=>by simpa using h1 k hk) (λk hk=>by simpa using hmono _ _ (h2 k hk))
  have:XRel (w.alloc (.cells cs t)) g.R (upd g.ρ n ⟨some w.heap.size,az.length,1⟩) (.pointer (some ⟨w.heap.size,0*az.length+0,none⟩)) (.adr n 0 0):=.adr (cap:=1) (by simp[upd]);simpa using this
 have single:∀av,ev x=av→one (a.eval x)→e={v:=.adr n 0 0,new:=[(n,.mix 1 [[av]])],cnt:=1}→StepR P C o a w g h n e:=by
  intro av hav h1 hee;refine key #[a.eval x] [av] ?_ rfl ?_ ?_ (by simpa using hee)
  ·revert h1;unfold one Value.oneCell';cases a.eval x<;>simp[Value.cells]
  ·intro k hk;simp at hk;subst hk;exact h1
  intro k hk;simp at hk;subst hk;simpa[hav]using hx
 unfold boxv at he;split at he<;>simp only[qA,qC,reduceCtorEq]at he
 ·rename_i az heq;rw[heq]at hx;obtain⟨cs,hv,hl,h1,h2⟩:=hx.agg_eq;exact key cs az (by rw[hv];rfl) hl h1 h2 he.2.symm
 rename_i hna hnt hnb;refine single _ rfl ?_ he.2.symm;generalize ev x=av at hx hna hnt hnb;generalize a.eval x=v at hx⊢;cases hx with
 |r hx=>exact hx.one
 |own0=>rfl
 |own=>rfl
 |adr=>rfl
 |agg=>exact absurd rfl (hna _)
 |tup=>exact absurd rfl (hnt _)
 |fn=>rfl
 |bnd=>rfl
 |ifc=>rfl
 |mp=>rfl
 |sub=>rfl
 |bot=>exact absurd rfl hnb
omit hev W H hnew hfr
theorem Q2q(xs:List AV):∀(cs:List AV) (off:Nat),(Q1Z cs off xs).length=cs.length:=by
 induction xs with
 |nil=>intro cs off;rfl
 |cons x r ih=>intro cs off;simp[Q1Z,ih]
theorem Q65(xs:List AV):∀(cs:List AV) (off k:Nat),off+xs.length≤cs.length→(Q1Z cs off xs).getD k .bot=if off≤k∧k<off+xs.length then xs.getD (k - off) .bot else cs.getD k .bot:=by
 induction xs with
 |nil=>intro cs off k _;simp only[Q1Z,List.length_nil,zC];rw[if_neg (by omega)]
 |cons x r ih=>
  intro cs off k hl;simp only[qH]at hl;simp only[Q1Z];rw[ih (cs.set off x) (off+1) k (by simp;omega)];simp only[qH]
  by_cases h1:off+1≤k∧k<off+1+r.length
  ·rw[if_pos h1,if_pos (by omega)];rw[show k - off=(k - (off+1))+1 by omega];simp
  rw[if_neg h1]
  by_cases h2:k=off
  ·subst h2;rw[if_pos (by omega)];simp[qB,show k<cs.length by omega]
  rw[if_neg (by omega)];simp[qB,Ne.symm h2]
theorem Q7B(l:List Value):∀(cs:Array Value) (off j:Nat),((l.zipIdx j).foldl (λcs (c,j)=>cs.setIfInBounds (off+j) c) cs).size=cs.size:=by
 induction l with
 |nil=>intro cs off j;rfl
 |cons x r ih=>intro cs off j;simp[List.zipIdx_cons,ih]
theorem Q7A(l:List Value):∀(cs:Array Value) (off j k:Nat),off+j+l.length≤cs.size→
  ((l.zipIdx j).foldl (λcs (c,j)=>cs.setIfInBounds (off+j) c) cs).getD k undef=if off+j≤k∧k<off+j+l.length then l.getD (k - (off+j)) undef else cs.getD k undef:=by
 induction l with
 |nil=>intro cs off j k _;simp only[List.zipIdx_nil,List.foldl_nil,List.length_nil,zC];rw[if_neg (by omega)]
 |cons x r ih=>
  intro cs off j k hl;simp only[qH]at hl;simp only[List.zipIdx_cons,List.foldl_cons];rw[ih (cs.setIfInBounds (off+j) x) off (j+1) k (by simp;omega)];simp only[qH]
  by_cases h1:off+(j+1)≤k∧k<off+(j+1)+r.length
  ·rw[if_pos h1,if_pos (by omega)];rw[show k - (off+j)=(k - (off+(j+1)))+1 by omega];simp
  rw[if_neg h1]
  by_cases h2:k=off+j
  ·subst h2;rw[if_pos (by omega)];simp[show off+j<cs.size by omega]
  rw[if_neg (by omega)];simp[Ne.symm h2]
theorem mapM_sem{α β:Type}(f:α→Sem β)(q:α→Option β)(w:World)(hf:∀x y,q x=some y→(f x).run P w= .ok y w):∀(l:List α) (r:List β),l.mapM q=some r→(l.mapM f).run P w= .ok r w:=by
 intro l
 induction l with
 |nil=>intro r hr;simp at hr;subst hr;simp
 |cons x l ih=>
  intro r hr;rw[List.mapM_cons]at hr⊢;cases hx:q x with
  |none=>simp[hx]at hr
  |some y=>
   cases hl:l.mapM q with
   |none=>simp[hx,hl]at hr
   |some ys=>
    simp[hx,hl]at hr;subst hr;simp[hf x y hx,ih ys hl]
theorem Q7p{w:World}{R:Nat→Prop}{ρ:Nat→Option Bk}{v:Value}{av:AV}(hx:XRel w R ρ v av)(hok:Q5t av=true):v.cells.size=av.cells.length∧(∀k,k<av.cells.length→one (v.cells.getD k undef))∧
  (∀k,k<av.cells.length→XRel w R ρ (v.cells.getD k undef) (av.cells.getD k .bot)):=by
 have single:one v→(∀cs,av≠.agg cs)→v.cells.size=av.cells.length∧(∀k,k<av.cells.length→one (v.cells.getD k undef))∧(∀k,k<av.cells.length→XRel w R ρ (v.cells.getD k undef) (av.cells.getD k .bot)):=by
  intro h1 hna;have hc:v.cells=#[v]:=by revert h1;unfold one Value.oneCell';cases v<;>simp[Value.cells]
  have ha:av.cells=[av]:=by cases av<;>first|rfl|exact absurd rfl (hna _)
  rw[hc,ha];refine⟨rfl,λk hk=>?_,λk hk=>?_⟩
  ·simp at hk;subst hk;exact h1
  simp at hk;subst hk;exact hx
 cases hx with
 |r hx=>exact single hx.one (by rintro cs rfl;cases hx)
 |own0=>exact single rfl (by rintro cs h;cases h)
 |own=>exact single rfl (by rintro cs h;cases h)
 |adr=>exact single rfl (by rintro cs h;cases h)
 |agg h1 h2 h3=>exact⟨h1,h2,h3⟩
 |tup=>simp[Q5t]at hok
 |fn=>exact single rfl (by rintro cs h;cases h)
 |bnd=>exact single rfl (by rintro cs h;cases h)
 |ifc=>exact single rfl (by rintro cs h;cases h)
 |mp=>exact single rfl (by rintro cs h;cases h)
 |sub=>exact single rfl (by rintro cs h;cases h)
 |bot=>simp[Q5t]at hok
theorem Q91(R:Nat→Prop)(ρ:Nat→Option Bk)(pl:List (Nat×Nat))(pf:Nat→Option (Nat×Nat))(hpf:∀k r,pl[k]? =some r→pf k=some r):∀(parts:List (Nat×Value×AV)) (cs:Array Value) (az bs:List AV),(∀p∈parts,XRel w R ρ p.2.1 p.2.2∧Q5t p.2.2=true)→
  cs.size=az.length→(∀k,k<az.length→one (cs.getD k undef))→(∀k,k<az.length→XRel w R ρ (cs.getD k undef) (az.getD k .bot))→
  Q6i pl (parts.map λp=>(p.1,p.2.2)) az=some bs→
  ∃ds,Instr.fill pf cs (parts.map λp=>(p.1,p.2.1))=some ds∧ds.size=bs.length∧(∀k,k<bs.length→one (ds.getD k undef))∧(∀k,k<bs.length→XRel w R ρ (ds.getD k undef) (bs.getD k .bot)):=by
 intro parts
 induction parts with
 |nil=>
  intro cs az bs _ hl h1 h2 hf;simp[Q6i]at hf;subst hf;exact⟨cs,by simp[Instr.fill],hl,h1,h2⟩
 |cons p parts ih=>
  intro cs az bs hp hl h1 h2 hf;obtain⟨i,v,av⟩:=p;simp only[qP,Q6i]at hf;split at hf
  ·rename_i off sz hpl;split at hf
   ·rename_i hcond;obtain⟨hx,hok⟩:=hp (i,v,av) (by simp);obtain⟨hc1,hc2,hc3⟩:=Q7p hx hok;simp only at hc1 hc2 hc3;have hfold:∀k,(v.cells.zipIdx.foldl (λcs (c,j)=>cs.setIfInBounds (off+j) c) cs).getD k undef=if off≤k∧k<off+av.cells.length then v.cells.getD (k - off) undef else cs.getD k undef:=by
     intro k;have:=Q7A v.cells.toList cs off 0 k (by simp;omega);rw[←Array.foldl_toList,Array.toList_zipIdx];simpa[hc1]using this
    have hsize:(v.cells.zipIdx.foldl (λcs (c,j)=>cs.setIfInBounds (off+j) c) cs).size=cs.size:=by
     have:=Q7B v.cells.toList cs off 0;rw[←Array.foldl_toList,Array.toList_zipIdx];exact this
    have hsp:=λk=>Q65 av.cells az off k (by omega);have hstep:∀(q:List (Nat×Value)),Instr.fill pf cs ((i,v)::q)=Instr.fill pf (v.cells.zipIdx.foldl (λcs (c,j)=>cs.setIfInBounds (off+j) c) cs) q:=by
     intro q;have h0:pf i=some (off,sz):=hpf _ _ hpl;simp only[Instr.fill,h0];rw[if_neg (by simp;omega)]
    generalize v.cells.zipIdx.foldl (λcs (c,j)=>cs.setIfInBounds (off+j) c) cs=cs' at hfold hsize hstep;have e1:cs'.size=(Q1Z az off av.cells).length:=(by rw[hsize,Q2q];exact hl);have e2:∀k,k<(Q1Z az off av.cells).length→one (cs'.getD k undef):=by
     intro k hk;rw[Q2q]at hk;rw[hfold];split
     ·rename_i hk2;exact hc2 _ (by omega)
     exact h1 k hk
    have e3:∀k,k<(Q1Z az off av.cells).length→XRel w R ρ (cs'.getD k undef) ((Q1Z az off av.cells).getD k .bot):=by
     intro k hk;rw[Q2q]at hk;rw[hfold,hsp];split
     ·rename_i hk2;exact hc3 _ (by omega)
     exact h2 k hk
    obtain⟨ds,hd1,hd2,hd3,hd4⟩:=ih cs' (Q1Z az off av.cells) bs (λp hp'=>hp p (by simp[hp'])) e1 e2 e3 hf;refine⟨ds,?_,hd2,hd3,hd4⟩;simp only[qP];rw[hstep];exact hd1
   simp at hf
  simp at hf
end
theorem Q9s(sz:Nat):∀(n off k:Nat) (r:Nat×Nat),(Q5c sz off n)[k]? =some r→r=(off+k*sz,sz):=by
 intro n
 induction n with
 |zero=>intro off k r h;simp[Q5c]at h
 |succ n ih=>
  intro off k r h;cases k with
  |zero=>simp[Q5c]at h;simp[←h]
  |succ k=>simp[Q5c]at h;have:=ih _ _ _ h;rw[this,qT];simp;omega
theorem Q4h(z:List AV):∀n,(rep z n).length=n*z.length:=by
 intro n
 induction n with
 |zero=>simp[rep]
 |succ n ih=>simp[rep,ih,qT];omega
theorem rep_getD(z:List AV):∀n k,k<n*z.length→(rep z n).getD k .bot=z.getD (k % z.length) .bot:=by
 intro n
 induction n with
 |zero=>intro k h;simp at h
 |succ n ih=>
  intro k h;rw[qT]at h;simp only[rep]
  by_cases hk:k<z.length
  ·rw[Nat.mod_eq_of_lt hk];simp[qB,qO hk]
  have h2:=ih (k - z.length) (by omega);rw[Nat.mod_eq_sub_mod (by omega),←h2];simp[qB,qS (show z.length≤k by omega)]
theorem Q2D(sz:Nat):∀n l,(Q7r sz n l).length=n:=by
 intro n
 induction n with
 |zero=>intro l;rfl
 |succ n ih=>intro l;simp[Q7r,ih]
theorem Q6p(sz:Nat):∀n l i,i<n→(Q7r sz n l).getD i []=(l.drop (i*sz)).take sz:=by
 intro n
 induction n with
 |zero=>intro l i h;omega
 |succ n ih=>
  intro l i h;cases i with
  |zero=>simp[Q7r]
  |succ i=>
   have:=ih (l.drop sz) i (by omega);simp only[Q7r,List.getD_cons_succ,this,List.drop_drop];rw[qT,Nat.one_mul,qZ]
theorem Q5C{i sz k:Nat}(hk:k<sz):(i*sz+k) % sz=k:=by
 rw[qZ,Nat.add_mul_mod_self_right,Nat.mod_eq_of_lt hk]
theorem Q2N{i n sz k:Nat}(hi:i<n)(hk:k<sz):i*sz+k<n*sz:=by
 have:(i+1)*sz≤n*sz:=qM _ hi;rw[qT]at this;omega
theorem bang(xs:Array Value)(k:Nat)(h:k<xs.size):xs[k]! =xs.toList.getD k undef:=by
 simp[h]
theorem Q3L{P:Program}{w:World}(b:Nat):(askRoom b).run P w= .ok () w:=by
 unfold askRoom;split<;>rfl
theorem Q4W{n:Int}(h: -9223372036854775808≤n∧n≤9223372036854775807):IntKind.i64.wrap n=n:=by
 simp[IntKind.wrap,IntKind.signed,IntKind.bits];omega
section
variable {P:Program}{C:Ctx}{a:Act}{w:World}{g:Gh}{h:HP}{n:Nat}{e:Eff}{c:Prop}{ev:Operand→AV}
variable (hev:∀ x,XRel w g.R g.ρ (a.eval x) (ev x))(W:WF C w g)(H:HRel w g h)
include hev W H
omit W H in
theorem Q7U(parts:List (Nat×Operand))(hok:(parts.map λp=>(p.1,ev p.2)).all (λx=>Q5t x.2)=true):
  ∀p∈parts.map (λp=>(p.1,a.eval p.2,ev p.2)),XRel w g.R g.ρ p.2.1 p.2.2∧Q5t p.2.2=true:=by
 intro p hp;obtain⟨q,hq,rfl⟩:=List.mem_map.1 hp;refine⟨hev _,?_⟩;simp only[List.all_map,qW]at hok;exact hok q hq
theorem Q9R{o:Oper}{t:TypeId}{parts:Array (Nat×Operand)}(ho:o.op= .build t parts)(he:build (tyi P t) (Q42 P t) (parts.toList.map λp=>(p.1,ev p.2))=some (c,e)):StepR P C o a w g h n e:=by
 unfold build at he;split at he
 ·rename_i ty pl hty hpl;split at he
  ·rename_i hok;split at he
   ·rename_i cs hfill;simp only[qA,qC]at he;obtain⟨_,rfl⟩:=he;obtain⟨inf,d,z,h1,h2,h3,h4,hsc,h5,_⟩:=Q1V hty;subst h4;unfold Q42 at hpl;split at hpl
    ·rename_i fs hfs;obtain⟨ds,hd1,hd2,hd3,hd4⟩:=Q91 (w:=w) g.R g.ρ pl (pl[·]?) (λk r hk=>hk) (parts.toList.map λp=>(p.1,a.eval p.2,ev p.2)) z.cells (z.cells.toList.map .val) cs
      (Q7U hev _ hok) (by simp)
      (λk hk=>by
       have hk':k<z.cells.toList.length:=(by simpa using hk);have:=Q45 (hsc _ (Q2U hk'));simpa using this)
      (λk hk=>by
       have hk':k<z.cells.toList.length:=(by simpa using hk);rw[Q3a _ _ hk'];have:=hsc _ (Q2U hk');simpa using XRel.r (.val this)) (by simpa[List.map_map,Function.comp_def]using hfill)
     refine Qn W H rfl rfl (v:=.agg ds) ?_ (.agg hd2 hd3 hd4);have hm:=mapM_sem (P:=P) (λf:Field=>Prod.mk f.offset<$>sizeOf f.type) _ w (λx y hxy=>by
      cases hi:P.info? x.type with
      |none=>simp[hi]at hxy
      |some i=>simp[hi]at hxy;simp[sizeOf,typeInfo,hi,hxy]) fs.toList pl hpl
     simp only[List.map_map,Function.comp_def]at hd1;have hrun:(Instr.build t (parts.map λp=>(p.1,a.eval p.2))).run P w= .ok (.agg ds) w:=by
      simp[Instr.build,zeroValue,typeInfo,h1,h3,run_underlying hfs,Array.mapM_eq_mapM_toList,hm,Array.toList_map,hd1]
     simp[execOp,ho,hrun]
    simp at hpl
   simp at he
  simp at he
 simp at he
variable (hnew:∀ p∈e.new,h p.1=some p.2)(hfr:∀ id,n≤id→id<n+e.cnt→g.ρ id=none)
include hnew hfr
omit hev H hnew in
theorem XRel.lift{v:Value}{av:AV}{cur:Array Value}{el:TypeId}{w1:World}{bk:Bk}(hw1:w1.heap=w.heap)(hcnt:e.cnt=1)(hv:XRel w g.R g.ρ v av):XRel (w1.alloc (.cells cur el)) g.R (upd g.ρ n bk) v av:=
 hv.mono (λb hb=>⟨hb,by rw[Q1m _ _ (by rw[hw1];exact(W.R b hb).1),hw1]⟩) (λid k hk=>by
  simp only[upd];rw[if_neg (by rintro rfl;rw[hfr _ (qF _) (by omega)]at hk;cases hk)];exact hk)
theorem Q66{o:Oper}{t et:TypeId}{len:Nat}{parts:Array (Nat×Operand)}(ho:o.op= .buildSlice t len parts)(ht:elm P t=some et)(he:buildSlice (tyi P et) len (parts.toList.map λp=>(p.1,ev p.2)) n=some (c,e)):StepR P C o a w g h n e:=by
 have hu:=Q2T ht;unfold buildSlice at he;split at he
 ·rename_i ty hty;split at he
  ·rename_i hok;simp only[qG,decide_eq_true_eq]at hok;split at he
   ·rename_i cs hfill;simp only[qA,qC]at he;obtain⟨_,rfl⟩:=he;obtain⟨inf,d,z,h1,h2,h3,h4,hsc,h5,_⟩:=Q1V hty;subst h4;simp only at hfill hok;have hzl:(z.cells.toList.map AV.val).length=inf.size:=(by simpa using h5);have hz0:0<inf.size:=hok.2
    let z0:Array Value:=(Array.range (len*inf.size)).map (z.cells[· % z.cells.size]!)
    have hz0s:z0.size=len*inf.size:=(by simp[z0]);have hz0g:∀k,k<len*inf.size→z0.getD k undef=z.cells.toList.getD (k % inf.size) undef:=by
     intro k hk;have hm:k % inf.size<z.cells.size:=(by rw[h5];exact Nat.mod_lt _ hz0);simp only[z0,Array.getD_eq_getD_getElem?,Array.getElem?_map,Array.getElem?_range,hk,if_true,qY,Option.getD_some,h5];exact bang _ _ hm
    have hmem:∀k,z.cells.toList.getD (k % inf.size) undef∈z.cells.toList:=λk=>Q2U (by simp[h5];exact Nat.mod_lt _ hz0);obtain⟨ds,hd1,hd2,hd3,hd4⟩:=Q91 (w:=w) g.R g.ρ (Q5c inf.size 0 len) (λi=>some (i*inf.size,inf.size)) (λk r hk=>by have:=Q9s _ _ _ _ _ hk;simp[this])
     (parts.toList.map λp=>(p.1,a.eval p.2,ev p.2)) z0 (rep (z.cells.toList.map .val) len) cs
     (Q7U hev _ hok.1.1) (by rw[hz0s,Q4h,hzl])
     (λk hk=>by
      rw[Q4h,hzl]at hk;rw[hz0g k hk];exact Q45 (hsc _ (hmem k)))
     (λk hk=>by
      rw[Q4h,hzl]at hk;rw[hz0g k hk,rep_getD _ _ _ (by rw[hzl];exact hk),hzl,Q3a _ _ (by simp[h5];exact Nat.mod_lt _ hz0)];exact .r (.val (hsc _ (hmem k)))) (by simpa[List.map_map,Function.comp_def]using hfill)
    simp only[List.map_map,Function.comp_def]at hd1;have hcl:cs.length=len*inf.size:=by
     have:∀(pl:List (Nat×Nat)) (parts:List (Nat×AV)) (az bs:List AV),Q6i pl parts az=some bs→bs.length=az.length:=by
      intro pl parts
      induction parts with
      |nil=>intro az bs hb;simp[Q6i]at hb;rw[hb]
      |cons p parts ih=>
       intro az bs hb;simp only[Q6i]at hb;split at hb
       ·split at hb
        ·rw[ih _ _ hb,Q2q]
        simp at hb
       simp at hb
     rw[this _ _ _ _ hfill,Q4h,hzl]
    refine Q4R (v:=.slice (some ⟨w.heap.size,0,none⟩) len len) (cur:=ds) (el:=et) (bk:=⟨some w.heap.size,inf.size,len⟩) W H (.inl rfl) rfl rfl rfl rfl hnew hfr ?_ (.inl ⟨inf.size,_,rfl,?_⟩) ?_
    ·have hrun:(Instr.buildSlice t len (parts.map λp=>(p.1,a.eval p.2))).run P w= .ok (.slice (some ⟨w.heap.size,0,none⟩) len len) (w.alloc (.cells ds et)):=by
      by_cases h00:len*inf.size=0
      ·have hz:z0=#[]:=(by apply zI;rw[hz0s];exact h00);rw[hz]at hd1;simp[Instr.buildSlice,run_underlying hu,sizeOf,typeInfo,h1,h00,newRow,Array.toList_map,show Array.range 0=#[] from rfl,hd1]
      have h24:¬(16777216<len*inf.size):=(by omega);have hd1':Instr.fill (λi=>some (i*inf.size,inf.size)) ((Array.range (len*inf.size)).map (z.cells[· % z.cells.size]!)) (List.map (λx=>(x.fst,a.eval x.snd)) parts.toList)=some ds:=hd1;simp[Instr.buildSlice,run_underlying hu,sizeOf,typeInfo,h1,h00,h24,zeroValue,h3,newRow,Array.toList_map,hd1']
     simp[execOp,ho,hrun]
    ·refine .mk' ⟨w.heap.size,ds,et,λi k=>ds.getD (i*inf.size+k) undef,len,rfl,by simp[upd],Q2h _ _,zA (by rw[hd2,hcl]),by rw[Q2D];exact qF _,?_,?_,?_,?_,?_⟩
     ·have:len≤len*inf.size:=Nat.le_mul_of_pos_right _ hz0;unfold maxLen;omega
     ·intro i hi;rw[Q2D]at hi;rw[Q6p _ _ _ _ hi];have:=Q2N hi (show inf.size - 1<inf.size by omega);simp[hcl];omega
     ·intro i k hi hk;rw[Q2D]at hi;have:=Q2N hi hk;simp[show i*inf.size+k<ds.size by omega]
     ·intro i k hi hk;rw[Q2D]at hi;have:=Q2N hi hk;exact hd3 _ (by omega)
     intro i k hi hk;rw[Q2D]at hi;have:=Q2N hi hk;rw[Q6p _ _ _ _ hi];have h6:=XRel.lift W hfr (w1:=w) (cur:=ds) (el:=et) (bk:=⟨some w.heap.size,inf.size,len⟩) rfl rfl (hd4 (i*inf.size+k) (by omega));simpa[qB,qR,qX,hk]using h6
    exact .own (sz:=inf.size) (by simp[upd]) (zA (qU _)) (qF _) (by simp) (by simp) (by
     have:len≤len*inf.size:=Nat.le_mul_of_pos_right _ hz0;unfold maxLen;omega)
   simp at he
  simp at he
 simp at he
theorem Q8G{o:Oper}{t et:TypeId}{l cc:Operand}(ho:o.op= .makeSlice t l cc)(ht:elm P t=some et)(he:Q5g (tyi P et) (ev l) (ev cc) n=some (c,e))(hc:c):StepR P C o a w g h n e:=by
 have hu:=Q2T ht;have hl:=hev l;have hcap:=hev cc;unfold Q5g at he;split at he
 ·rename_i ty x y hty hel hec;split at he
  ·rename_i hz0;simp only[qA,qC]at he;obtain⟨rfl,rfl⟩:=he;obtain⟨h0x,hxy,hby,hyy⟩:=hc;obtain⟨inf,d,z,h1,h2,h3,h4,hsc,h5,_⟩:=Q1V hty;subst h4;simp only at hz0 hby
   rw[hel]at hl;rw[hec]at hcap;have hlv:=hl.val_eq.1;have hcv:=hcap.val_eq.1;have hwx:IntKind.i64.wrap x=x:=Q4W (by omega);have hwy:IntKind.i64.wrap y=y:=Q4W (by omega)
   let z0:Array Value:=(Array.range (y.toNat*inf.size)).map (z.cells[· % z.cells.size]!)
   have hz0s:z0.size=y.toNat*inf.size:=(by simp[z0]);have hz0g:∀i k,i<y.toNat→k<inf.size→z0[i*inf.size+k]? =some (z.cells.toList.getD k undef):=by
    intro i k hi hk;have hlt:=Q2N hi hk;have hm:(i*inf.size+k) % inf.size=k:=Q5C hk;simp only[z0,Array.getElem?_map,Array.getElem?_range,hlt,if_true,qY,h5,hm];rw[bang _ _ (show k<z.cells.size by omega)]
   have hxy':x.toNat≤y.toNat:=(by omega);refine Q4R (v:=.slice (some ⟨w.heap.size,0,none⟩) x.toNat y.toNat) (cur:=z0) (el:=et) (bk:=⟨some w.heap.size,inf.size,y.toNat⟩) W H (.inl rfl) rfl rfl rfl rfl hnew hfr ?_
    (.inr ⟨inf.size,_,.slice (some ⟨w.heap.size,0,none⟩) x.toNat y.toNat,rfl,?_,.own⟩) ?_
   ·have hrun:(Instr.makeSlice t (.int .i64 x) (.int .i64 y)).run P w= .ok (.slice (some ⟨w.heap.size,0,none⟩) x.toNat y.toNat) (w.alloc (.cells z0 et)):=by
     have hb0:0≤(inf.bytes:Int)*y:=Int.mul_nonneg (by omega) (by omega);have hby':(inf.bytes:Int)*y≤140737488355328:=by rw[Int.mul_comm];exact hby
     have e2:¬(((y<0∨281474976710656<(inf.bytes:Int)*y)∨x<0)∨y<x):=by omega
     by_cases h00:y.toNat*inf.size=0
     ·have hz:z0=#[]:=(by apply zI;rw[hz0s];exact h00);simp[Instr.makeSlice,run_underlying hu,asInt,asIntOf,typeInfo,h1,hwx,hwy,Q3L,sizeOf,h00,newRow,hz,show Array.range 0=#[] from rfl];exact λhh=>absurd hh e2
     simp[Instr.makeSlice,run_underlying hu,asInt,asIntOf,typeInfo,h1,hwx,hwy,Q3L,sizeOf,h00,zeroValue,h3,newRow];rw[if_neg e2]
    simp[execOp,ho,hlv,hcv,hrun]
   ·have hlen:(List.replicate x.toNat (z.cells.toList.map AV.val)).length=x.toNat:=(by simp);have hget:∀i,i<x.toNat→(List.replicate x.toNat (z.cells.toList.map AV.val)).getD i []=z.cells.toList.map AV.val:=by
     intro i hi;simp[qB,hi]
    have:=TRel.own (w:=w.alloc (.cells z0 et)) (R:=g.R) (o:=upd g.o w.heap.size [n]) (L:=[n]) (sz:=inf.size) (es:=List.replicate x.toNat (z.cells.toList.map AV.val)) (b:=w.heap.size) (cap:=y.toNat) (cur:=z0) (e:=et)
     (λi k=>z.cells.toList.getD k undef) (by simp[upd]) (Q2h _ _) (zA hz0s.symm) (by rw[hlen];exact hxy') (by unfold maxLen;omega)
     (λi hi=>by rw[hlen]at hi;rw[hget i hi];simpa using h5)
     (λi k hi hk=>hz0g i k (by rw[hlen]at hi;omega) hk)
     (λi k hi hk=>Q45 (hsc _ (Q2U (by simp;omega))))
     (λi k hi hk=>by
      rw[hlen]at hi;rw[hget i hi,Q3a _ _ (by simp;omega)];exact .val (hsc _ (Q2U (by simp;omega))))
    rwa[hlen]at this
   exact .own (sz:=inf.size) (by simp[upd]) (zA (qU _)) hxy' (by simp) (by simp) (by unfold maxLen;omega)
  simp at he
 simp at he
end
theorem Q1I{w:World}{b x:Nat}{cur:Array Value}{e:TypeId}{fr:Nat×Nat}(h:w.heap[b]? =some (.cells cur e fr)):w.cell? ⟨b,x,none⟩=cur[x]?:=by
 simp[World.cell?,h]
theorem Q4i{P:Program}{w:World}{t:TypeId}{ty:Tyi}(ht:tyi P t=some ty){b x:Nat}{us:Nat→Value}(hc:∀j,j<ty.sz→w.cell? ⟨b,x+j,none⟩=some (us j)):
  (Instr.loadAt t (.pointer (some ⟨b,x,none⟩))).run P w= .ok (bif ty.agg then .agg ((List.range ty.sz).map us).toArray else us 0) w∧(ty.agg=false→ty.sz=1):=by
 obtain⟨inf,d,z,h1,h2,h3,h4,_,_,h6⟩:=Q1V ht;subst h4;simp only at hc⊢;refine⟨?_,h6⟩;cases hag:Q5f d with
 |true=>
  have:=run_loadCells (P:=P) w ⟨b,x,none⟩ inf.size us (λj hj=>by rw[Q2g];exact hc j hj);simp[Instr.loadAt,Instr.sureAddr,loadVar,Q3s h2,hag,sizeOf,typeInfo,h1,this]
 |false=>
  have h0:=hc 0 (by have:=h6 hag;omega);simp only[zC]at h0;simp[Instr.loadAt,Instr.sureAddr,loadVar,Q3s h2,hag,load,Sem.run,h0]
theorem Q1M(us:Nat→Value)(n k:Nat)(hk:k<n):((List.range n).map us).toArray.getD k undef=us k:=by
 simp[hk]
theorem take_rel{w:World}{R:Nat→Prop}{o:Nat→Option (List Nat)}(id i:Nat)(lab:Nat→List Nat)(us:Nat→Value):∀(az:List AV) (k n:Nat) (ρ:Nat→Option Bk),(∀j,j<az.length→TRel w R o (lab (k+j)) (us (k+j)) (az.getD j .bot))→
  (∀x,n≤x→x<n+az.length→ρ x=none)→
  ∃ρ':Nat→Option Bk,(∀x b,ρ x=some b→ρ' x=some b)∧(∀x b,ρ' x=some b→ρ x=some b∨(n≤x∧x<n+az.length))∧
   (Q1d id i k n az).1.length=az.length∧(∀j,j<az.length→XRel w R ρ' (us (k+j)) ((Q1d id i k n az).1.getD j .bot))∧
   (∀x b,ρ x=none→ρ' x=some b→∃j,j<az.length∧(x,Ent.ali id i (k+j) b.sz)∈(Q1d id i k n az).2∧Hdr (us (k+j)) b b.sz)∧
   (∀p∈(Q1d id i k n az).2,n≤p.1∧p.1<n+az.length):=by
 intro az
 induction az with
 |nil=>
  intro k n ρ _ _;refine⟨ρ,λ_ _ h=>h,λ_ _ h=>.inl h,rfl,?_,?_,by simp[Q1d]⟩
  ·intro j hj;simp at hj
  intro x b h1 h2;rw[h1]at h2;cases h2
 |cons a az ih=>
  intro k n ρ hT hfr;have h0:=hT 0 (by simp);simp only[zC,qV]at h0;have hT':∀j,j<az.length→TRel w R o (lab (k+1+j)) (us (k+1+j)) (az.getD j .bot):=by
   intro j hj;have:=hT (j+1) (by simp;omega);simpa[qL,qZ 1 j]using this
  have tail:∀(ρ1:Nat→Option Bk) (r1:AV) (l1:List (Nat×Ent)),(∀x b,ρ x=some b→ρ1 x=some b)→(∀x b,ρ1 x=some b→ρ x=some b∨x=n)→XRel w R ρ1 (us k) r1→
    Q1d id i k n (a::az)=(r1::(Q1d id i (k+1) (n+1) az).1,l1++(Q1d id i (k+1) (n+1) az).2)→
    (∀b,ρ n=none→ρ1 n=some b→(n,Ent.ali id i k b.sz)∈l1∧Hdr (us k) b b.sz)→(∀p∈l1,p.1=n)→
    ∃ρ':Nat→Option Bk,(∀x b,ρ x=some b→ρ' x=some b)∧(∀x b,ρ' x=some b→ρ x=some b∨(n≤x∧x<n+(a::az).length))∧
     (Q1d id i k n (a::az)).1.length=(a::az).length∧(∀j,j<(a::az).length→XRel w R ρ' (us (k+j)) ((Q1d id i k n (a::az)).1.getD j .bot))∧
     (∀x b,ρ x=none→ρ' x=some b→∃j,j<(a::az).length∧(x,Ent.ali id i (k+j) b.sz)∈(Q1d id i k n (a::az)).2∧Hdr (us (k+j)) b b.sz)∧
     (∀p∈(Q1d id i k n (a::az)).2,n≤p.1∧p.1<n+(a::az).length):=by
   intro ρ1 r1 l1 hm hm2 hx htk hn1 hl1;have hfr1:∀x,n+1≤x→x<n+1+az.length→ρ1 x=none:=by
    intro x hx1 hx2;cases h:ρ1 x with
    |none=>rfl
    |some b=>
     rcases hm2 x b h with h'|h'
     ·rw[hfr x (by omega) (by simp;omega)]at h';cases h'
     omega
   obtain⟨ρ',q1,q2,q3,q4,q5,q6⟩:=ih (k+1) (n+1) ρ1 hT' hfr1;refine⟨ρ',λx b h=>q1 x b (hm x b h),λx b h=>?_,?_,λj hj=>?_,λx b h1 h2=>?_,λp hp=>?_⟩
   ·rcases q2 x b h with h'|h'
    ·rcases hm2 x b h' with h''|h''
     ·exact .inl h''
     exact .inr ⟨by omega,by simp;omega⟩
    exact .inr ⟨by omega,by simp;omega⟩
   ·rw[htk];simp[q3]
   ·rw[htk];cases j with
    |zero=>simpa using hx.mono (λb hb=>⟨hb,rfl⟩) q1
    |succ j=>
     have:=q4 j (by simp at hj;omega);simpa[qL,qZ 1 j]using this
   ·rw[htk];cases h1n:ρ1 x with
    |none=>
     obtain⟨j,hj,hmem,hh⟩:=q5 x b h1n h2;refine⟨j+1,by simp;omega,?_,?_⟩
     ·simp only[zB];right;simpa[qL,qZ 1 j]using hmem
     simpa[qL,qZ 1 j]using hh
    |some b1=>
     rcases hm2 x b1 h1n with h'|h'
     ·rw[h1]at h';cases h'
     subst h';have hb:b1=b:=(by have:=q1 _ _ h1n;rw[h2]at this;simpa using this.symm);subst hb;obtain⟨hmem,hh⟩:=hn1 b1 h1 h1n;exact⟨0,by simp,by simp only[zB];left;simpa using hmem,by simpa using hh⟩
   rw[htk]at hp;simp only[zB]at hp;rcases hp with hp|hp
   ·rw[hl1 p hp];simp
   have:=q6 p hp;simp;omega
  have plain:(∀sz es,a≠.lst true sz es)→RRel w R (us k) a→∃ρ':Nat→Option Bk,(∀x b,ρ x=some b→ρ' x=some b)∧(∀x b,ρ' x=some b→ρ x=some b∨(n≤x∧x<n+(a::az).length))∧
     (Q1d id i k n (a::az)).1.length=(a::az).length∧(∀j,j<(a::az).length→XRel w R ρ' (us (k+j)) ((Q1d id i k n (a::az)).1.getD j .bot))∧
     (∀x b,ρ x=none→ρ' x=some b→∃j,j<(a::az).length∧(x,Ent.ali id i (k+j) b.sz)∈(Q1d id i k n (a::az)).2∧Hdr (us (k+j)) b b.sz)∧
     (∀p∈(Q1d id i k n (a::az)).2,n≤p.1∧p.1<n+(a::az).length):=by
   intro hne hx;refine tail ρ a [] (λ_ _ h=>h) (λ_ _ h=>.inl h) (.r hx) ?_ (λb h1 h2=>by rw[h1]at h2;cases h2) (by simp);cases a with
   |lst u sz es=>cases u with
    |true=>exact absurd rfl (hne sz es)
    |false=>simp[Q1d]
   |_=>simp[Q1d]
  have named:∀sz es bk,a= .lst true sz es→Hdr (us k) bk sz→XRel w R (upd ρ n bk) (us k) (.own n 0 es.length)→bk.sz=sz→∃ρ':Nat→Option Bk,(∀x b,ρ x=some b→ρ' x=some b)∧(∀x b,ρ' x=some b→ρ x=some b∨(n≤x∧x<n+(a::az).length))∧
     (Q1d id i k n (a::az)).1.length=(a::az).length∧(∀j,j<(a::az).length→XRel w R ρ' (us (k+j)) ((Q1d id i k n (a::az)).1.getD j .bot))∧
     (∀x b,ρ x=none→ρ' x=some b→∃j,j<(a::az).length∧(x,Ent.ali id i (k+j) b.sz)∈(Q1d id i k n (a::az)).2∧Hdr (us (k+j)) b b.sz)∧
     (∀p∈(Q1d id i k n (a::az)).2,n≤p.1∧p.1<n+(a::az).length):=by
   intro sz es bk ha hh hx hsz;have hn:ρ n=none:=hfr n (qF _) (by simp);refine tail (upd ρ n bk) (.own n 0 es.length) [(n,.ali id i k sz)] (λx b h=>?_) (λx b h=>?_) hx ?_ (λb _ h2=>?_) (by simp)
   ·simp only[upd];rw[if_neg (by rintro rfl;rw[hn]at h;cases h)];exact h
   ·simp only[upd]at h;split at h
    ·rename_i hxn;exact .inr hxn
    exact .inl h
   ·subst ha;simp[Q1d]
   simp[upd]at h2;subst h2;subst hsz;exact⟨by simp,hh⟩
  have hupd:∀bk,upd ρ n bk n=some bk:=λbk=>by simp[upd]
  generalize hu:us k=v at h0 plain named;cases h0 with
  |val h=>exact plain (by intros;simp) (.val h)
  |bot h=>exact plain (by intros;simp) (.bot h)
  |@nil L u sz=>
   cases u with
   |false=>exact plain (by intros;simp) (.nil (by decide))
   |true=>exact named sz [] ⟨none,sz,0⟩ rfl .nil (.own0 (hupd _)) rfl
  |@own L sz es b cap cur e us2 h1 h2 h3 h4 h5=>
   exact named sz es ⟨some b,sz,cap⟩ rfl .own (.own (hupd _) (zA (qU _)) h4 (by simp) (by simp) h5) rfl
section
variable {P:Program}{C:Ctx}{a:Act}{w:World}{g:Gh}{h:HP}{n:Nat}{e:Eff}{c:Prop}{ev:Operand→AV}
variable (hev:∀ x,XRel w g.R g.ρ (a.eval x) (ev x))(W:WF C w g)(H:HRel w g h)(hnew:∀ p∈e.new,h p.1=some p.2)(hfr:∀ id,n≤id→id<n+e.cnt→g.ρ id=none)
include hev W H hnew hfr
theorem step_load{o:Oper}{t:TypeId}{x:Operand}(ho:o.op= .load t x)(he:Q1X (tyi P t) (ev x) h n=some (c,e))(hc:c):StepR P C o a w g h n e:=by
 have hx:=hev x;have hexec:∀(v:Value) (ad:Value),a.eval x=ad→(Instr.loadAt t ad).run P w= .ok v w→(execOp a.eval o).run P w= .ok (.value v) w:=by
  intro v ad hv hr;simp[execOp,ho,hv,hr]
 unfold Q1X at he;split at he
 ·rename_i ty id i k hty heq;rw[heq]at hx;obtain⟨b,bsz,cap,hb,hv⟩:=hx.adr_eq;split at he
  ·rename_i sz es hent;simp only[qA,qC]at he;obtain⟨rfl,rfl⟩:=he;obtain⟨hi,hk⟩:=hc;obtain⟨b',cur,el,us,cpm,hbk,ho',hh,hsz,hcp,hml,hl,hcur,h1,hxr⟩:=(H.mix id sz es _ hent hb).ex (by simp);simp only[Bk.mk.injEq,qA]at hbk;obtain⟨rfl,rfl,_⟩:=hbk;obtain⟨hrun,hone⟩:=Q4i (P:=P) (w:=w) hty (b:=b) (x:=i*bsz+k) (us:=λj=>us i (k+j)) (λj hj=>by
    rw[Q1I hh,qL];exact hcur i (k+j) hi (by omega))
   refine Qn W H rfl rfl (hexec _ _ hv hrun) ?_;have hli:=hl i hi;cases hag:ty.agg with
   |true=>
    simp only[cond_true];have hlen:(((es.getD i []).drop k).take ty.sz).length=ty.sz:=(by rw[zD,List.length_drop];omega);refine .agg (by rw[hlen];simp) ?_ ?_
    ·intro j hj;rw[hlen]at hj;rw[Q1M _ _ _ hj];exact h1 _ _ hi (by omega)
    intro j hj;rw[hlen]at hj;rw[Q1M _ _ _ hj];have:=hxr i (k+j) hi (by omega);simpa[qB,qR,qX,hj]using this
   |false=>
    simp only[cond_false,zC];exact hxr i k hi (by have:=hone hag;omega)
  ·rename_i ent hnm hent;split at he
   ·rename_i sz es hcont;simp only[qA,qC]at he;obtain⟨rfl,rfl⟩:=he;obtain⟨hi,hk⟩:=hc;have hmix:Qm (h id)=false:=by
     rw[hent];cases ent with
     |mix s es2=>exact absurd rfl (hnm s es2)
     |_=>rfl
    obtain⟨hbs,v0,r0,M0,_,_,ht,hhd⟩:=Q2A H _ _ _ _ _ hcont hmix hb;generalize r0::M0=L at ht;simp only at hbs;subst hbs;have hne:es≠[]:=(by rintro rfl;simp at hi);have hhd:=hhd.resolve_right hne;cases ht with
    |nil=>exact absurd rfl hne
    |@own _ _ _ b2 cap2 cur el us hob hh h1 h2 h3 h4 h5 h6 h7=>
     cases hhd;obtain⟨hrun,hone⟩:=Q4i (P:=P) (w:=w) hty (b:=b) (x:=i*bsz+k) (us:=λj=>us i (k+j)) (λj hj=>by
      rw[Q1I hh,qL];exact h5 i (k+j) hi (by omega))
     have hlen:(((es.getD i []).drop k).take ty.sz).length=ty.sz:=(by have:=h4 i hi;rw[zD,List.length_drop];omega);obtain⟨ρ',q1,q2,q3,q4,q5,q6⟩:=take_rel (w:=w) (R:=g.R) (o:=g.o) id i (λj=>L++[i,j]) (us i) (((es.getD i []).drop k).take ty.sz) k n g.ρ
      (λj hj=>by
       rw[hlen]at hj;have:=h7 i (k+j) hi (by omega);simpa[qB,qR,qX,hj]using this)
      (λx hx1 hx2=>by rw[hlen]at hx2;exact hfr x hx1 hx2)
     rw[hlen]at q2 q3 q4;intro K Q kk;refine Q2a (hexec _ _ hv hrun) (kk _ w g.o ρ' ⟨W.R,W.o,W.os,W.tape,W.output,W.size,W.keep⟩ ?_ q1 q2 ?_ (λ_ _=>rfl))
     ·rw[QH rfl rfl];refine H.mono (λ_ _=>rfl) (λ_ _ hb=>⟨hb,rfl⟩) q1 ?_ ?_ ?_ ?_
      ·intro x s es2 bk hx1 hx2 hx3;obtain⟨j,hj,hmem,_⟩:=q5 x bk hx2 hx3;have:=hnew _ hmem;rw[hx1]at this;simp at this
      ·intro x s es2 bk hx1 hx2 hx3;obtain⟨j,hj,hmem,_⟩:=q5 x bk hx2 hx3;have:=hnew _ hmem;rw[hx1]at this;simp at this
      ·intro x c i' k' s bk hx1 hx2 hx3;obtain⟨j,hj,hmem,hhj⟩:=q5 x bk hx2 hx3;rw[hlen]at hj;have:=hnew _ hmem;rw[hx1]at this;simp only[qA,Ent.ali.injEq]at this;obtain⟨rfl,rfl,rfl,rfl⟩:=this;refine⟨rfl,_,q1 _ _ hb,λd szc esc hcc hmc hic hkc=>?_⟩;have:=cont_fun h hcont hcc;simp only[qC]at this;obtain⟨rfl,rfl⟩:=this;exact⟨b,cur,el,us i' (k+j),rfl,hh,h5 i' (k+j) hi (by omega),.inl hhj⟩
      intro x s es2 bk hx1 hx2 hx3;obtain⟨j,hj,hmem,_⟩:=q5 x bk hx2 hx3;have:=hnew _ hmem;rw[hx1]at this;simp at this
     cases hag:ty.agg with
     |true=>
      simp only[cond_true];refine .agg (by rw[q3];simp) ?_ ?_
      ·intro j hj;rw[q3]at hj;rw[Q1M _ _ _ hj];exact h6 _ _ hi (by omega)
      intro j hj;rw[q3]at hj;rw[Q1M _ _ _ hj];exact q4 j hj
     |false=>
      simp only[cond_false];have:=q4 0 (by have:=hone hag;omega);simpa using this
   simp at he
  simp at he
 ·rename_i ty cs hty heq;simp only[qA,qC]at he;obtain⟨rfl,rfl⟩:=he;rw[heq]at hx;obtain⟨b,x0,cur,el,fr,us,hv,hR,hh,hcc,h1c,hr⟩:=hx.rptr_eq;obtain⟨hrun,hone⟩:=Q4i (P:=P) (w:=w) hty (b:=b) (x:=x0) (us:=us) (λj hj=>by rw[Q1I hh];exact hcc j (by omega));refine Qn W H rfl rfl (hexec _ _ hv hrun) ?_;cases hag:ty.agg with
  |true=>
   simp only[cond_true];have hlen:(cs.take ty.sz).length=ty.sz:=(by simp;omega);refine .agg (by simp;omega) ?_ ?_
   ·intro j hj;rw[hlen]at hj;rw[Q1M _ _ _ hj];exact h1c _ (by omega)
   intro j hj;rw[hlen]at hj;rw[Q1M _ _ _ hj];have:=hr j (by omega);simpa[qB,qR,hj]using XRel.r this
  |false=>
   simp only[cond_false];exact .r (hr 0 (by have:=hone hag;omega))
 simp at he
end
theorem RRel.flag{w:World}{R:Nat→Prop}{v:Value}{u u':Bool}{sz:Nat}{es:List (List AV)}(h:RRel w R v (.lst u sz es)):RRel w R v (.lst u' sz es):=by
 cases h with
 |nil h=>exact .nil h
 |lst us h1 h2 h3 h4 h5 h6 h7 h8=>exact .lst us h1 h2 h3 h4 h5 h6 h7 h8
theorem Q6E{P:Program}{w:World}{t ty et:TypeId}{inf:TypeInfo}{z:Value}(ht:P.underlying t=some (.slice et))(hi:P.info? et=some inf)(hz:inf.zero=some z)(hzs:z.cells.size=inf.size)(bo:Option Nat)(m cap:Nat)(cur:Array Value)(el:TypeId)(hb:∀b,bo=some b→w.heap[b]? =some (.cells cur el (0,0))∧cap*inf.size≤cur.size)(hbn:bo=none→m=0∧cap=0)(hm:m≤cap)(ad:Option Addr)(nn cx:Nat)(news:List Value)(hnl:news.length=nn*inf.size)(hnews:∀q u,news[q]? =some u→∃b x,ad=some ⟨b,x,none⟩∧w.cell? ⟨b,x+q,none⟩=some u)(h1:∀u∈news,one u)(hpos:0<inf.size)(hby:(m+nn)*inf.bytes≤140737488355328)(hlen:m+nn≤140737488355328)(hcap:cap≤maxLen):
   ∃ v w',(Builtin.append_ #[t,t] ty #[.slice (bo.map fun b=>⟨b,0,none⟩) m cap,.slice ad nn cx]).run P w = .ok v w' ∧
     ((bo=none∧nn=0∧v= .slice none 0 0∧w'=w)∨
      (∃b,bo=some b∧v= .slice (some ⟨b,0,none⟩) (m+nn) cap∧m+nn≤cap∧∃cur',cur'.size=cur.size∧w'=w.setRow b cur'∧(∀q,q<m*inf.size→cur'[q]? =cur[q]?)∧(∀q,q<nn*inf.size→cur'[m*inf.size+q]? =news[q]?))∨
      (∃ cap' cur',v = .slice (some ⟨w.heap.size,0,none⟩) (m+nn) cap'∧m+nn≤cap'∧cap'≤maxLen∧cur'.size=cap' * inf.size∧w'=w.drew.alloc (.cells cur' et) ∧
         (∀q,q<m*inf.size→cur'[q]? =cur[q]?)∧(∀q,q<nn*inf.size→cur'[m*inf.size+q]? =news[q]?))):=by
 have hmx:maxLen=9223372036854775807:=rfl
 by_cases h0:nn=0
 · subst h0
   have hn:news=[]:=qQ (by simpa using hnl);subst hn;have hf:∀w1,(Builtin.firstCells inf.size 0 (.slice ad 0 cx)).run P w1= .ok #[] w1:=by
     intro w1;cases ad with
     |none=>simp[Builtin.firstCells]
     |some a=>simp[Builtin.firstCells,loadCells,loadCellsFrom]
   cases bo with
   | none =>
     obtain⟨rfl,rfl⟩:=hbn rfl;refine⟨_,_,?_,.inl ⟨rfl,rfl,rfl,rfl⟩⟩;simp[Builtin.append_,run_underlying ht,sizeOf,typeInfo,hi,Builtin.lenOf,hf]
   | some b =>
     obtain⟨hh,hs⟩:=hb b rfl;refine⟨.slice (some ⟨b,0,none⟩) m cap,w,?_,.inr (.inl ⟨b,rfl,by simp,by omega,cur,rfl,(setRow_self w b cur el (0,0) hh).symm,λ_ _=>rfl,λq hq=>by simp at hq⟩)⟩;simp[Builtin.append_,run_underlying ht,sizeOf,typeInfo,hi,Builtin.lenOf,hf,hm,storeCells]
 have hnp:0<nn*inf.size:=Nat.mul_pos (by omega) hpos;obtain⟨xb,x0,had,_⟩:=hnews 0 _ (qI (show 0<news.length by omega));subst had;have hcells:∀q u,news[q]? =some u→w.cell? ((⟨xb,x0,none⟩:Addr).add q)=some u:=by
   intro q u hq;obtain⟨b',x',h2,h3⟩:=hnews q u hq;simp only[qA,Addr.mk.injEq]at h2;obtain⟨rfl,rfl,_⟩:=h2;rw[Q2g];exact h3
 have grown:∀(olds:List Value) (cur':Array Value) (cp:Nat),olds.length=m*inf.size→m+nn≤cp→cur'=olds.toArray++news.toArray++Builtin.zeroCells z.cells (cp - (m+nn))→(∀q,q<m*inf.size→olds[q]? =cur[q]?)→
     cur'.size=cp*inf.size∧(∀q,q<m*inf.size→cur'[q]? =cur[q]?)∧(∀q,q<nn*inf.size→cur'[m*inf.size+q]? =news[q]?):=by
   intro olds cur' cp ho hcp hc hold;subst hc;refine⟨?_,λq hq=>?_,λq hq=>?_⟩
   · simp only [Array.size_append,List.size_toArray,size_zeroCells,hzs,ho,hnl,← qT]
     congr 1;omega
   · rw [Array.getElem?_append_left (by simp;omega),Array.getElem?_append_left (by simp;omega)]
     simpa using hold q hq
   rw[Array.getElem?_append_left (by simp;omega),Array.getElem?_append_right (by simp;omega)];simp[ho]
 cases bo with
 | none =>
   obtain⟨rfl,rfl⟩:=hbn rfl;have hr:=run_append_nil (P:=P) w t ty et inf z ht hi hz ⟨xb,x0,none⟩ nn cx news hnl hcells (by omega) (by omega) (by simp only[qU]at hby;omega);have hge:=grownCap_ge w nn 0 et;obtain⟨g1,g2,g3⟩:=grown [] (news.toArray++Builtin.zeroCells z.cells (grownCap w nn 0 et - nn)) (grownCap w nn 0 et) (by simp) (by omega) (by simp) (λq hq=>by simp at hq);refine⟨_,_,hr,.inr (.inr ⟨grownCap w nn 0 et,_,by simp,by omega,grownCap_le_maxLen w nn 0 et (by unfold maxLen;omega),g1,rfl,g2,g3⟩)⟩
 | some b =>
   obtain⟨hh,hs⟩:=hb b rfl
   by_cases hroom:m+nn≤cap
   · have hfit:m * inf.size+news.length≤cur.size:=by rw [hnl,← qT];exact qK (qM _ hroom) hs
     have hf:=run_firstCells_some (P:=P) w inf.size nn ⟨xb,x0,none⟩ nn cx news hnl hcells;have hst:=run_storeCells_at P b (m*inf.size) el news 0 cur w hh (by simpa using hfit) h1;simp only[zC]at hst;refine⟨_,_,?_,.inr (.inl ⟨b,rfl,rfl,hroom,(cur.toList.take (m*inf.size)++news++cur.toList.drop (m*inf.size+news.length)).toArray,?_,rfl,λq hq=>?_,λq hq=>?_⟩)⟩
     · simp[Builtin.append_,run_underlying ht,sizeOf,typeInfo,hi,Builtin.lenOf,hroom,hf,Q2g,hst]
     · simp;omega
     · simp only [List.getElem?_toArray,List.append_assoc]
       rw[qO (by simp;omega),qR,if_pos hq];simp
     have hl:(cur.toList.take (m*inf.size)).length=m*inf.size:=(by simp;omega);simp only[List.getElem?_toArray,List.append_assoc];rw[qS (by omega),hl,qO (by omega)]
     congr 1;omega
   have hms:m*inf.size≤cur.size:=qK (qM _ hm) hs;have hlo:(cur.toList.take (m*inf.size)).length=m*inf.size:=(by simp;omega);have hr:=run_append_grow (P:=P) w t ty et inf z ht hi hz ⟨b,0,none⟩ m cap (cur.toList.take (m*inf.size)) hlo (λq u hq=>by
     rw[Q2g,Q1I hh];rw[qR]at hq;split at hq
     · simpa using hq
     simp at hq) ⟨xb,x0,none⟩ nn cx news hnl hcells (by omega) (by omega) (growslice_fits (by omega) hby)
   have hge:=grownCap_ge w (m+nn) cap et;obtain⟨g1,g2,g3⟩:=grown (cur.toList.take (m*inf.size)) _ (grownCap w (m+nn) cap et) hlo hge rfl (λq hq=>by rw[qR,if_pos hq];simp);exact⟨_,_,hr,.inr (.inr ⟨grownCap w (m+nn) cap et,_,rfl,hge,grownCap_le_maxLen w (m+nn) cap et (by omega),g1,rfl,g2,g3⟩)⟩
def mv(ky:List (Nat×List Nat))(o:Nat→Option (List Nat)):Nat→Option (List Nat):=λb=>
 match o b with
 |some (x::M)=>match look x ky with
  |some L=>some (L++M)
  |none=>some (x::M)
 |z=>z
theorem Q6x{ky:List (Nat×List Nat)}{o:Nat→Option (List Nat)}{x:Nat}{L M:List Nat}{b:Nat}(h:look x ky=some L)(hb:o b=some (x::M)):mv ky o b=some (L++M):=by
 simp[mv,hb,h]
theorem Q5D{ky:List (Nat×List Nat)}{o:Nat→Option (List Nat)}{x:Nat}{M:List Nat}{b:Nat}(h:look x ky=none)(hb:o b=some (x::M)):mv ky o b=some (x::M):=by
 simp[mv,hb,h]
theorem QQ{α:Type}{ky:List (Nat×α)}(hn:(ky.map qE).Nodup){p:Nat×α}(hp:p∈ky):look p.1 ky=some p.2:=by
 induction ky with
 |nil=>simp at hp
 |cons q r ih=>
  obtain⟨i,a⟩:=q;simp only[qP,zE]at hn;simp only[look];rcases List.mem_cons.1 hp with h|h
  ·subst h;simp
  have:i≠p.1:=by
   rintro rfl
   exact hn.1 (List.mem_map.2 ⟨p,h,rfl⟩)
  rw[if_neg this];exact ih hn.2 h
theorem Q3q{α:Type}{ky:List (Nat×α)}{x:Nat}(h:x∉ky.map qE):look x ky=none:=by
 induction ky with
 |nil=>rfl
 |cons q r ih=>
  obtain⟨i,a⟩:=q;simp only[qP,List.mem_cons,not_or]at h;simp only[look];rw[if_neg (Ne.symm h.1)];exact ih h.2
theorem Q2l{α:Type}{ky:List (Nat×α)}{x:Nat}{a:α}(h:look x ky=some a):x∈ky.map qE:=by
 rcases Classical.em (x∈ky.map qE)with h'|h'
 ·exact h'
 rw[Q3q h']at h;cases h
section
variable {w:World}{g:Gh}{h:HP}
def Lays(w:World)(g:Gh)(ky:List (Nat×List Nat))(L:List Nat)(u:Value)(b:AV):Prop:=
 ∀(w':World) (o':Nat→Option (List Nat)),(∀b,g.R b→w'.heap[b]? =w.heap[b]?)→(∀p∈ky,∀b M,g.o b=some (p.1::M)→o' b=some (p.2++M)∧w'.heap[b]? =w.heap[b]?)→TRel w' g.R o' L u b
theorem Lays.mono{ky ky':List (Nat×List Nat)}{L:List Nat}{u:Value}{b:AV}(h:Lays w g ky L u b)(hs:∀p∈ky,p∈ky'):Lays w g ky' L u b:=
 λw' o' h1 h2=>h w' o' h1 λp hp=>h2 p (hs p hp)
def LaysF(w:World)(g:Gh)(f:AV→Option (AV×List Nat)):Prop:=
 ∀(a b:AV) (d:List Nat) (u:Value) (L:List Nat),f a=some (b,d)→XRel w g.R g.ρ u a→one u∧∃ky:List (Nat×List Nat),ky.map qE=d∧Lays w g ky L u b
theorem Q6u{f:AV→Option (AV×List Nat)}(H:LaysF w g f)(us:Nat→Value)(lab:Nat→List Nat):∀(az bs:List AV) (d:List Nat) (k:Nat),Q2F f az=some (bs,d)→(∀j,j<az.length→XRel w g.R g.ρ (us (k+j)) (az.getD j .bot))→
  bs.length=az.length∧(∀j,j<az.length→one (us (k+j)))∧∃ky:List (Nat×List Nat),ky.map qE=d∧∀j,j<bs.length→Lays w g ky (lab (k+j)) (us (k+j)) (bs.getD j .bot):=by
 intro az
 induction az with
 |nil=>
  intro bs d k hl _;simp only[Q2F,qA,qC]at hl;obtain⟨rfl,rfl⟩:=hl;exact⟨rfl,λj hj=>by simp at hj,[],rfl,λj hj=>by simp at hj⟩
 |cons a az ih=>
  intro bs d k hl hx;simp only[Q2F]at hl;split at hl
  ·rename_i b d1 q ds hc hcs;simp only[qA,qC]at hl;obtain⟨rfl,rfl⟩:=hl;have h0:=hx 0 (by simp);simp only[zC,qV]at h0;obtain⟨o1,ky1,hk1,hL1⟩:=H _ _ _ _ (lab k) hc h0;obtain⟨hlen,hone,ky2,hk2,hL2⟩:=ih q ds (k+1) hcs λj hj=>by
    have:=hx (j+1) (by simp;omega);simpa[qL,qZ 1 j]using this
   refine⟨by simp[hlen],λj hj=>?_,ky1++ky2,by simp[hk1,hk2],λj hj=>?_⟩
   ·cases j with
    |zero=>exact o1
    |succ j=>have:=hone j (by simp at hj;omega);simpa[qL,qZ 1 j]using this
   cases j with
   |zero=>exact hL1.mono λp hp=>by simp[hp]
   |succ j=>
    have:=hL2 j (by simp at hj;omega);have:=this.mono (ky':=ky1++ky2) λp hp=>by simp[hp]
    simpa[qL,qZ 1 j]using this
  simp at hl
theorem Q6v{f:AV→Option (AV×List Nat)}(H:LaysF w g f)(sz:Nat)(us:Nat→Nat→Value)(lab:Nat→Nat→List Nat):∀(es fs:List (List AV)) (d:List Nat) (i:Nat),Q2j f es=some (fs,d)→(∀j,j<es.length→(es.getD j []).length=sz)→
  (∀j k,j<es.length→k<sz→XRel w g.R g.ρ (us (i+j) k) ((es.getD j []).getD k .bot))→
  fs.length=es.length∧(∀j,j<fs.length→(fs.getD j []).length=sz)∧(∀j k,j<fs.length→k<sz→one (us (i+j) k))∧
   ∃ky:List (Nat×List Nat),ky.map qE=d∧∀j k,j<fs.length→k<sz→Lays w g ky (lab (i+j) k) (us (i+j) k) ((fs.getD j []).getD k .bot):=by
 intro es
 induction es with
 |nil=>
  intro fs d i hl _ _;simp only[Q2j,qA,qC]at hl;obtain⟨rfl,rfl⟩:=hl;exact⟨rfl,λj hj=>by simp at hj,λj k hj=>by simp at hj,[],rfl,λj k hj=>by simp at hj⟩
 |cons a es ih=>
  intro fs d i hl hs hx;simp only[Q2j]at hl;split at hl
  ·rename_i b d1 q ds hc hcs;simp only[qA,qC]at hl;obtain⟨rfl,rfl⟩:=hl;have hs0:=hs 0 (by simp);simp only[qV]at hs0;obtain⟨l1,o1,ky1,hk1,hL1⟩:=Q6u H (us i) (lab i) a b d1 0 hc λj hj=>by
    have:=hx 0 j (by simp) (by omega);simpa using this
   obtain⟨hlen,hls,hone,ky2,hk2,hL2⟩:=ih q ds (i+1) hcs (λj hj=>by have:=hs (j+1) (by simp;omega);simpa using this) λj k hj hk=>by
    have:=hx (j+1) k (by simp;omega) hk;simpa[qL,qZ 1 j]using this
   refine⟨by simp[hlen],λj hj=>?_,λj k hj hk=>?_,ky1++ky2,by simp[hk1,hk2],λj k hj hk=>?_⟩
   ·cases j with
    |zero=>simp;omega
    |succ j=>have:=hls j (by simp at hj;omega);simpa using this
   ·cases j with
    |zero=>have:=o1 k (by omega);simpa using this
    |succ j=>have:=hone j k (by simp at hj;omega) hk;simpa[qL,qZ 1 j]using this
   cases j with
   |zero=>
    have:=(hL1 k (by omega)).mono (ky':=ky1++ky2) λp hp=>by simp[hp]
    simpa using this
   |succ j=>
    have:=(hL2 j k (by simp at hj;omega) hk).mono (ky':=ky1++ky2) λp hp=>by simp[hp]
    simpa[qL,qZ 1 j]using this
  simp at hl
theorem layD_rel(H:HRel w g h):∀dp,LaysF w g (layD h dp):=by
 intro dp
 induction dp with
 |zero=>intro a b d u L hl;cases hl
 |succ dp ihd=>
  intro a b d u L hl hx;unfold layD at hl;split at hl
  ·rename_i v;simp only[qA,qC]at hl;obtain⟨rfl,rfl⟩:=hl;obtain⟨rfl,hs⟩:=hx.val_eq;exact⟨Q45 hs,[],rfl,λ_ _ _ _=>.val hs⟩
  ·rename_i id m;split at hl
   ·rename_i sz es hent;split at hl
    ·rename_i hlen;simp only[qA,qC]at hl;obtain⟨rfl,rfl⟩:=hl;have hmain:∀bk,g.ρ id=some bk→(∀v,TRel w g.R g.o [id] v (.lst true sz es)→Hdr v bk sz→TRel w g.R g.o [id] u (.lst true sz es))→one u→one u∧∃ky:List (Nat×List Nat),ky.map qE=[id]∧Lays w g ky L u (.lst true sz es):=by
      intro bk hb huv h1;obtain⟨v,hv,hh⟩:=H.row id sz es bk hent hb;have hv:=huv v hv hh;refine⟨h1,[(id,L)],rfl,λw' o' hR hk=>?_⟩;exact hv.mono L λb M hb=>hk (id,L) (by simp) b M hb
     rcases hx.own_eq with⟨s0,c0,hb,rfl,_,rfl⟩|⟨b,bsz,cap,cc,x0,hb,rfl,h5,h6,h7,h8,h9⟩
     ·exact hmain _ hb (λv hv hh=>by cases hh;exact hv) rfl
     refine hmain _ hb (λv hv hh=>?_) rfl;have hx0:=h8 rfl;subst hx0;cases hh;cases hv with
     |own us g0 g1 g2 g3 g4 g5 g6 g7 g8=>
      rw[←hlen]at h6⊢;exact .own us g0 g1 (qK (qM _ (by omega)) g2) h6 (by omega) g5 g6 g7 g8
    simp at hl
   ·rename_i sz es hent;split at hl
    ·rename_i hlen;split at hl
     ·rename_i q ds hq;simp only[qA,qC]at hl;obtain⟨rfl,rfl⟩:=hl;rcases hx.own_eq with⟨s0,c0,hb,rfl,_,rfl⟩|⟨b,bsz,cap,cc,x0,hb,rfl,h5,h6,h7,h8,h9⟩
      ·have he0:es=[]:=qQ (by omega);subst he0;simp only[Q2j,qA,qC]at hq;obtain⟨rfl,rfl⟩:=hq;exact⟨rfl,[(id,L)],by simp,λw' o' hR hky=>.nil⟩
      obtain⟨b',cur,el,us,cpm,hbk,ho',hh,hsz,hcp,hml,hl,hcur,h1,hxr⟩:=(H.mix id sz es _ hent hb).ex (by simp);simp only[Bk.mk.injEq,qA]at hbk;obtain⟨rfl,rfl,rfl⟩:=hbk;obtain⟨hlen2,hls,hone,ky,hk,hL⟩:=Q6v ihd bsz us (λi k=>L++[i,k]) es q ds 0 hq hl λj k hj hk=>by simpa using hxr j k hj hk
      have hx0:=h8 rfl;subst hx0;refine⟨rfl,(id,L)::ky,by simp[hk],λw' o' hR hky=>?_⟩;have hb':=hky (id,L) (by simp) b [] ho';have:=TRel.own (w:=w') (R:=g.R) (o:=o') (L:=L) (sz:=bsz) (es:=q) (b:=b) (cap:=cc) (cur:=cur) (e:=el) us (by simpa using hb'.1) (hb'.2.trans hh) (qK (qM _ (by omega)) hsz) (by omega) (by omega) hls
       (λi k hi hk=>hcur i k (by omega) hk) (λi k hi hk=>h1 i k (by omega) hk)
       (λi k hi hk=>by
        have:=hL i k hi hk w' o' hR λp hp=>hky p (by simp[hp]);simpa using this)
      rw[hlen2,hlen]at this;exact this
     simp at hl
    simp at hl
   simp at hl
  simp at hl
theorem Q6Y(H:HRel w g h):LaysF w g (layC h):=λ_ _ _ _ L hl hx=>layD_rel H depth _ _ _ _ L hl hx
theorem Q7M(H:HRel w g h)(sz:Nat)(us:Nat→Nat→Value)(lab:Nat→Nat→List Nat):∀(es fs:List (List AV)) (d:List Nat) (i:Nat),Q4K h es=some (fs,d)→(∀j,j<es.length→(es.getD j []).length=sz)→
  (∀j k,j<es.length→k<sz→XRel w g.R g.ρ (us (i+j) k) ((es.getD j []).getD k .bot))→
  fs.length=es.length∧(∀j,j<fs.length→(fs.getD j []).length=sz)∧(∀j k,j<fs.length→k<sz→one (us (i+j) k))∧
   ∃ky:List (Nat×List Nat),ky.map qE=d∧∀j k,j<fs.length→k<sz→Lays w g ky (lab (i+j) k) (us (i+j) k) ((fs.getD j []).getD k .bot):=Q6v (Q6Y H) sz us lab
theorem Q7K(H:HRel w g h)(us:Nat→Value)(lab:Nat→List Nat):∀(az bs:List AV) (d:List Nat) (k:Nat),layCs h az=some (bs,d)→(∀j,j<az.length→XRel w g.R g.ρ (us (k+j)) (az.getD j .bot))→
  bs.length=az.length∧(∀j,j<az.length→one (us (k+j)))∧∃ky:List (Nat×List Nat),ky.map qE=d∧∀j,j<bs.length→Lays w g ky (lab (k+j)) (us (k+j)) (bs.getD j .bot):=Q6u (Q6Y H) us lab
end
theorem Q6O{h h':HP}(hs:∀id e,h' id=some e→h id=some e):∀(d id:Nat) (x:Nat×List (List AV)),cont h' d id=some x→cont h d id=some x∧∃r,root h' d id=some r∧root h d id=some r∧(h' r).isSome=true:=by
 intro d
 induction d with
 |zero=>intro id x hx;simp[cont]at hx
 |succ d ih=>
  intro id x hx;unfold cont at hx⊢;cases he:h' id with
  |none=>simp[he]at hx
  |some e=>
   have he2:=hs id e he;cases e with
   |mix=>exact⟨by simpa[he,he2]using hx,id,by simp[root,he],by simp[root,he2],by simp[he]⟩
   |row=>exact⟨by simpa[he,he2]using hx,id,by simp[root,he],by simp[root,he2],by simp[he]⟩
   |mapE=>simp[he]at hx
   |ali c i k s=>
    simp only[he,he2]at hx⊢;split at hx
    ·simp at hx
    rename_i hm;cases hc:cont h' d c with
    |none=>simp[hc]at hx
    |some p=>
     obtain⟨h1,r,h2,h3,h4⟩:=ih c p hc;have hcs:(h' c).isSome=true:=by
      cases hcc:h' c with
      |none=>
       cases d with
       |zero=>simp[cont]at hc
       |succ d=>simp[cont,hcc]at hc
      |some=>rfl
     obtain⟨ec,hec⟩:=Option.isSome_iff_exists.1 hcs;have:Qm (h c)=Qm (h' c):=(by rw[hec,hs c ec hec]);rw[this,if_neg hm,h1];rw[hc]at hx;exact⟨hx,r,by simp[root,he,h2],by simp[root,he2,h3],h4⟩
section
variable {P:Program}{C:Ctx}{a:Act}{w:World}{g:Gh}{h:HP}{n:Nat}{e:Eff}{c:Prop}{ev:Operand→AV}
theorem RRel.isVal{R:Nat→Prop}{u:Value}{b:AV}(hx:RRel w R u b)(hv:isVal b=true):∃v,b= .val v∧u=v∧sc v:=by
 cases hx with
 |val h=>exact⟨_,rfl,rfl,h⟩
 |_=>simp[Vc.isVal]at hv
theorem TRel.isVal{R:Nat→Prop}{o:Nat→Option (List Nat)}{L:List Nat}{u:Value}{b:AV}(hx:TRel w R o L u b)(hv:isVal b=true):∃v,b= .val v∧u=v∧sc v:=by
 cases hx with
 |val h=>exact⟨_,rfl,rfl,h⟩
 |_=>simp[Vc.isVal]at hv
theorem Q6o{es:List (List AV)}(hall:∀e∈es,∀c∈e,isVal c=true){j k:Nat}(hj:j<es.length)(hk:k<(es.getD j []).length):isVal ((es.getD j []).getD k .bot)=true:=by
 have h1:es.getD j []∈es:=by simp[qB,qI hj]
 refine hall _ h1 _ ?_;generalize es.getD j []=q at hk;simp[qB,qI hk]
theorem Q2G(es:List (List AV))(off m j:Nat)(hj:j<m):((es.drop off).take m).getD j []=es.getD (off+j) []:=by
 simp[qB,qX,hj]
theorem Q3K(es:List (List AV))(off m:Nat)(h:off+m≤es.length):((es.drop off).take m).length=m:=by
 rw[zD,List.length_drop];omega
theorem src_rel(H:HRel w g h){sz:Nat}{av:AV}{xv:Value}{cn:Prop}{es:List (List AV)}{d:List Nat}(hs:src h sz av=some (cn,es,d))(hc:cn)(hx:XRel w g.R g.ρ xv av)(lab:Nat→Nat→List Nat):
  ∃ad cx,∃us:Nat→Nat→Value,xv= .slice ad es.length cx∧(∀j,j<es.length→(es.getD j []).length=sz)∧
   (∀j k,j<es.length→k<sz→∃b x0,ad=some ⟨b,x0,none⟩∧w.cell? ⟨b,x0+(j*sz+k),none⟩=some (us j k))∧(∀j k,j<es.length→k<sz→one (us j k))∧
   ∃ky:List (Nat×List Nat),ky.map qE=d∧∀j k,j<es.length→k<sz→Lays w g ky (lab j k) (us j k) ((es.getD j []).getD k .bot):=by
 unfold src at hs;split at hs
 ·simp only[qA,qC]at hs;obtain⟨rfl,rfl,rfl⟩:=hs;obtain⟨rfl,_⟩:=hx.val_eq;exact⟨none,0,λ_ _=>undef,rfl,λj hj=>by simp at hj,λj k hj=>by simp at hj,λj k hj=>by simp at hj,[],rfl,λj k hj=>by simp at hj⟩
 ·rename_i u sz' es';split at hs
  ·rename_i hsz;subst hsz;simp only[qA,qC]at hs;obtain⟨rfl,rfl,rfl⟩:=hs;have hx:=hx.lst_eq;cases hx with
   |nil=>exact⟨_,_,λ_ _=>undef,rfl,λj hj=>by simp at hj,λj k hj=>by simp at hj,λj k hj=>by simp at hj,[],rfl,λj k hj=>by simp at hj⟩
   |@lst _ _ _ b x0 cap cur el fr us hR hh h5 h6 h7 h8 h9 h10=>
    refine⟨_,_,us,rfl,h7,λj k hj hk=>⟨b,x0,rfl,?_⟩,h9,[],rfl,λj k hj hk=>?_⟩
    ·rw[Q1I hh,←qL];exact h8 j k hj hk
    obtain⟨v,hv1,hv2,hv3⟩:=(h10 j k hj hk).isVal (Q6o hc hj (by rw[h7 j hj];exact hk));rw[hv1,hv2];exact λ_ _ _ _=>.val hv3
  simp at hs
 ·rename_i id off m;split at hs
  ·rename_i sz' es' hent;split at hs
   ·rename_i hsz;subst hsz;split at hs
    ·rename_i q d' hlay;simp only[qA,qC]at hs;obtain⟨rfl,rfl,rfl⟩:=hs;have hpl:=Q3K es' off m hc;rcases hx.own_eq with⟨s0,c0,hb,hv,_,rfl⟩|⟨b,bsz,cap,cc,x0,hb,hv,h5,h6,h7,h8,h9⟩
     ·rw[List.take_zero]at hlay;simp only[Q4K,Q2j,qA,qC]at hlay;obtain⟨rfl,rfl⟩:=hlay;exact⟨none,0,λ_ _=>undef,hv,λj hj=>by simp at hj,λj k hj=>by simp at hj,λj k hj=>by simp at hj,[],rfl,λj k hj=>by simp at hj⟩
     obtain⟨b',cur,el,us,cpm,hbk,ho',hh,hszc,hcp,hml,hl,hcur,h1,hxr⟩:=(H.mix id _ _ _ hent hb).ex (by simp);simp only[Bk.mk.injEq,qA]at hbk;obtain⟨rfl,rfl,_⟩:=hbk;obtain⟨r1,r2,r3,ky,r4,r5⟩:=Q7M H bsz (λi k=>us (off+i) k) lab ((es'.drop off).take m) q d' 0 hlay
      (λj hj=>by rw[hpl]at hj;rw[Q2G _ _ _ _ hj];exact hl _ (by omega))
      (λj k hj hk=>by
       rw[hpl]at hj;rw[Q2G _ _ _ _ hj,qU];exact hxr _ _ (by omega) hk)
     rw[hpl]at r1;simp only[qU]at r3 r5;refine⟨some ⟨b,x0,none⟩,cc,λj k=>us (off+j) k,by rw[hv,r1],r2,λj k hj hk=>⟨b,x0,rfl,?_⟩,r3,ky,r4,r5⟩;rw[h7 (by omega),Q1I hh,←qL,←qT];exact hcur (off+j) k (by omega) hk
    simp at hs
   simp at hs
  ·rename_i ent hnm hent;split at hs
   ·rename_i sz' es' hcont;split at hs
    ·rename_i hsz;subst hsz;simp only[qA,qC]at hs;obtain⟨rfl,rfl,rfl⟩:=hs;obtain⟨hc1,hc2⟩:=hc;have hpl:=Q3K es' off m hc1;have hmix:Qm (h id)=false:=by
      rw[hent];cases ent with
      |mix s es2=>exact absurd rfl (hnm s es2)
      |_=>rfl
     have triv:m=0→∀ad cx,xv= .slice ad m cx→_:=λhm ad cx hv=>(⟨ad,cx,λ_ _=>undef,by rw[hpl];exact hv,λj hj=>by rw[hpl]at hj;omega,λj k hj=>by rw[hpl]at hj;omega,λj k hj=>by rw[hpl]at hj;omega,[],rfl,λj k hj=>by rw[hpl]at hj;omega⟩:
      ∃ad cx,∃us:Nat→Nat→Value,xv= .slice ad ((es'.drop off).take m).length cx∧(∀j,j<((es'.drop off).take m).length→(((es'.drop off).take m).getD j []).length=sz')∧
       (∀j k,j<((es'.drop off).take m).length→k<sz'→∃b x0,ad=some ⟨b,x0,none⟩∧w.cell? ⟨b,x0+(j*sz'+k),none⟩=some (us j k))∧(∀j k,j<((es'.drop off).take m).length→k<sz'→one (us j k))∧
       ∃ky:List (Nat×List Nat),ky.map qE=[]∧∀j k,j<((es'.drop off).take m).length→k<sz'→Lays w g ky (lab j k) (us j k) ((((es'.drop off).take m).getD j []).getD k .bot))
     rcases hx.own_eq with⟨s0,c0,hb,hv,_,rfl⟩|⟨b,bsz,cap,cc,x0,hb,hv,h5,h6,h7,h8,h9⟩
     ·exact triv rfl _ _ hv
     by_cases hm0:m=0
     ·exact triv hm0 _ _ hv
     obtain⟨hbs,v0,r0,M0,_,_,ht,hhd⟩:=Q2A H _ _ _ _ _ hcont hmix hb;simp only at hbs;subst hbs;have hne:es'≠[]:=(by rintro rfl;simp at hc1;omega);have hhd:=hhd.resolve_right hne;cases ht with
     |nil=>exact absurd rfl hne
     |@own _ _ _ b2 cap2 cur el us hob hh g1 g2 g3 g4 g5 g6 g7=>
      cases hhd;refine⟨some ⟨b,x0,none⟩,cc,λj k=>us (off+j) k,by rw[hv,hpl],λj hj=>?_,λj k hj hk=>⟨b,x0,rfl,?_⟩,λj k hj hk=>?_,[],rfl,λj k hj hk=>?_⟩
      ·rw[hpl]at hj;rw[Q2G _ _ _ _ hj];exact g4 _ (by omega)
      ·rw[hpl]at hj;rw[h7 (by omega),Q1I hh,←qL,←qT];exact g5 (off+j) k (by omega) hk
      ·rw[hpl]at hj;exact g6 _ _ (by omega) hk
      rw[hpl]at hj;rw[Q2G _ _ _ _ hj];have hlt:off+j<es'.length:=(by omega);obtain⟨v,hv1,hv2,hv3⟩:=(g7 (off+j) k hlt hk).isVal (Q6o hc2 hlt (by rw[g4 _ hlt];exact hk));show Lays w g [] (lab j k) (us (off+j) k) _;rw[hv1,hv2];exact λ_ _ _ _=>.val hv3
    simp at hs
   simp at hs
  simp at hs
 simp at hs
def LaysB(w:World)(g:Gh)(id n:Nat)(ky:List (Nat×List Nat))(L:List Nat)(u:Value)(b:AV):Prop:=
 ∀(w':World) (o':Nat→Option (List Nat)),(∀b,g.R b→w'.heap[b]? =w.heap[b]?)→(∀p∈ky,∀b M,g.o b=some (p.1::M)→o' b=some (p.2++M)∧w'.heap[b]? =w.heap[b]?)→
  (∀b i M,g.o b=some (id::i::M)→o' b=some (n::i::M)∧w'.heap[b]? =w.heap[b]?)→TRel w' g.R o' L u b
theorem base_rel(H:HRel w g h){sz n:Nat}{av:AV}{sv:Value}{cn:Prop}{es:List (List AV)}{i0 d:List Nat}(hs:base h sz av=some (cn,es,i0,d))(hc:cn)(hx:XRel w g.R g.ρ sv av):
  ∃bo cap cur el,∃us:Nat→Nat→Value,sv= .slice (bo.map λb=>⟨b,0,none⟩) es.length cap∧(∀b,bo=some b→w.heap[b]? =some (.cells cur el (0,0))∧cap*sz≤cur.size∧∃id,i0=[id]∧g.o b=some [id])∧
   (bo=none→es.length=0∧cap=0)∧es.length≤cap∧cap≤maxLen∧(∀j,j<es.length→(es.getD j []).length=sz)∧
   (∀j k,j<es.length→k<sz→cur[j*sz+k]? =some (us j k))∧(∀j k,j<es.length→k<sz→one (us j k))∧
   ∃ky:List (Nat×List Nat),ky.map qE=d∧∃id,(es.length≠0→i0=[id])∧∀j k,j<es.length→k<sz→LaysB w g id n ky [n,j,k] (us j k) ((es.getD j []).getD k .bot):=by
 unfold base at hs;split at hs
 ·simp only[qA,qC]at hs;obtain⟨rfl,rfl,rfl,rfl⟩:=hs;obtain⟨rfl,_⟩:=hx.val_eq;exact⟨none,0,#[],0,λ_ _=>undef,rfl,by simp,by simp,by simp,by simp,by simp,by simp,by simp,[],rfl,0,by simp,by simp⟩
 ·rename_i id m;have hzero:∀(q:List (List AV)) (d':List Nat),es=q→d=d'→d'=[]→q=[]→sv= .slice none 0 0→∃bo cap cur el,∃us:Nat→Nat→Value,sv= .slice (bo.map λb=>⟨b,0,none⟩) es.length cap∧(∀b,bo=some b→w.heap[b]? =some (.cells cur el (0,0))∧cap*sz≤cur.size∧∃id,i0=[id]∧g.o b=some [id])∧
   (bo=none→es.length=0∧cap=0)∧es.length≤cap∧cap≤maxLen∧(∀j,j<es.length→(es.getD j []).length=sz)∧
   (∀j k,j<es.length→k<sz→cur[j*sz+k]? =some (us j k))∧(∀j k,j<es.length→k<sz→one (us j k))∧
   ∃ky:List (Nat×List Nat),ky.map qE=d∧∃id,(es.length≠0→i0=[id])∧∀j k,j<es.length→k<sz→LaysB w g id n ky [n,j,k] (us j k) ((es.getD j []).getD k .bot):=by
   intro q d' h1 h2 h3 h4 h5;subst h1;subst h2;subst h3;subst h4;exact⟨none,0,#[],0,λ_ _=>undef,h5,by simp,by simp,by simp,by simp,by simp,by simp,by simp,[],rfl,0,by simp,by simp⟩
  split at hs
  ·rename_i sz' es' hent;split at hs
   ·rename_i hsz;subst hsz;simp only[qA,qC]at hs;obtain⟨rfl,rfl,rfl,rfl⟩:=hs;have hl:(es'.take m).length=m:=(by rw[zD];omega);rcases hx.own_eq with⟨s0,c0,hb,hv,_,rfl⟩|⟨b,bsz,cap,cc,x0,hb,hv,h5,h6,h7,h8,h9⟩
    ·exact hzero _ _ rfl rfl rfl (by simp) hv
    have hx0:=h8 rfl;subst hx0;obtain⟨v,hvt,hh⟩:=H.row id sz' es' _ hent hb;cases hh;cases hvt with
    |@own _ _ _ b2 cap2 cur el us hob hhp g1 g2 g3 g4 g5 g6 g7=>
     have hg:∀j,j<m→(es'.take m).getD j []=es'.getD j []:=by
      intro j hj;simp[qB,qR,hj]
     refine⟨some b,cc,cur,el,us,by rw[hv,hl];rfl,λb' hb'=>?_,by simp,by rw[hl];exact h6,(by omega),λj hj=>?_,λj k hj hk=>?_,λj k hj hk=>?_,[],rfl,id,λ_=>rfl,λj k hj hk=>?_⟩
     ·cases hb';exact⟨hhp,qK (qM _ (by omega)) g1,id,rfl,hob⟩
     ·rw[hl]at hj;rw[hg j hj];exact g4 j (by omega)
     ·rw[hl]at hj;exact g5 j k (by omega) hk
     ·rw[hl]at hj;exact g6 j k (by omega) hk
     rw[hl]at hj;rw[hg j hj];intro w' o' hR _ ho;refine(g7 j k (by omega) hk).mono _ λb M hM=>?_;have:=ho b j (k::M) (by simpa using hM);simpa using this
   simp at hs
  ·rename_i sz' es' hent;split at hs
   ·rename_i hsz;subst hsz;split at hs
    ·rename_i q d' hlay;simp only[qA,qC]at hs;obtain⟨rfl,rfl,rfl,rfl⟩:=hs;have hl:(es'.take m).length=m:=(by rw[zD];omega);have hg:∀j,j<m→(es'.take m).getD j []=es'.getD j []:=by
      intro j hj;simp[qB,qR,hj]
     rcases hx.own_eq with⟨s0,c0,hb,hv,_,rfl⟩|⟨b,bsz,cap,cc,x0,hb,hv,h5,h6,h7,h8,h9⟩
     ·rw[List.take_zero]at hlay;simp only[Q4K,Q2j,qA,qC]at hlay;obtain⟨rfl,rfl⟩:=hlay;exact hzero _ _ rfl rfl rfl rfl hv
     have hx0:=h8 rfl;subst hx0;obtain⟨b',cur,el,us,cpm,hbk,ho',hh,hszc,hcp,hml,hll,hcur,h1,hxr⟩:=(H.mix id _ _ _ hent hb).ex (by simp);simp only[Bk.mk.injEq,qA]at hbk;obtain⟨rfl,rfl,rfl⟩:=hbk;obtain⟨r1,r2,r3,ky,r4,r5⟩:=Q7M H bsz us (λj k=>[n,j,k]) (es'.take m) q d' 0 hlay
      (λj hj=>by rw[hl]at hj;rw[hg j hj];exact hll _ (by omega))
      (λj k hj hk=>by
       rw[hl]at hj;rw[hg j hj,qU];exact hxr _ _ (by omega) hk)
     rw[hl]at r1;simp only[qU]at r3 r5;refine⟨some b,cc,cur,el,us,by rw[hv,r1];rfl,λb' hb'=>?_,by simp,by omega,(by omega),r2,λj k hj hk=>?_,r3,ky,r4,id,λ_=>rfl,λj k hj hk=>?_⟩
     ·cases hb';exact⟨hh,(qK (qM _ (by omega)) hszc),id,rfl,ho'⟩
     ·exact hcur j k (by omega) hk
     exact λw' o' hR hk' _=>r5 j k hj hk w' o' hR hk'
    simp at hs
   simp at hs
  simp at hs
 simp at hs
end
section
variable {P:Program}{C:Ctx}{a:Act}{w:World}{g:Gh}{h:HP}{n:Nat}{e:Eff}{c:Prop}{ev:Operand→AV}
theorem Q72{ky:List (Nat×List Nat)}{o:Nat→Option (List Nat)}{b:Nat}(h:o b=none):mv ky o b=none:=by simp[mv,h]
theorem Q1Y{ky:List (Nat×List Nat)}{o:Nat→Option (List Nat)}{b:Nat}{L:List Nat}(h:mv ky o b=some L):∃M,o b=some M:=by
 cases ho:o b with
 |none=>simp[mv,ho]at h
 |some M=>exact⟨M,rfl⟩
theorem move_fin(W:WF C w g)(H:HRel w g h){ky:List (Nat×List Nat)}{sz:Nat}{es:List (List AV)}{bk:Bk}{v:Value}{w':World}{o':Nat→Option (List Nat)}(hn:h n=some (.row sz es))(hρ:g.ρ n=none)(hnk:n∉ky.map qE)(hos:w'.os=w.os)(htape:w'.tape=w.tape∧w.drawn≤w'.drawn)(hout:w'.output=w.output)(hsize:w.heap.size≤w'.heap.size)(hlab:∀b,b<w.heap.size→(∃x,g.o b=some [x]∧x∈ky.map qE)∨w'.heap[b]? =w.heap[b]?)(ho:∀b,b<w.heap.size→o' b=mv ky g.o b)(ho2:∀b L,o' b=some L→b<w'.heap.size)(hrow:TRel w' g.R o' [n] v (.lst true sz es))(hh:Hdr v bk sz):
  WF C w' ⟨g.R,o',upd g.ρ n bk⟩∧HRel w' ⟨g.R,o',upd g.ρ n bk⟩ (λid=>if id∈ky.map qE then none else h id)∧(∀b,g.R b→w'.heap[b]? =w.heap[b]?):=by
 have hR:∀b,g.R b→w'.heap[b]? =w.heap[b]?:=by
  intro b hb;obtain⟨h1,h2⟩:=W.R b hb;rcases hlab b h1 with⟨x,hx,_⟩|h'
  ·rw[h2]at hx;cases hx
  exact h'
 have hother:∀b x M,x∉ky.map qE→g.o b=some (x::M)→o' b=some (x::M)∧w'.heap[b]? =w.heap[b]?:=by
  intro b x M hx hb;have hlt:=(W.o b _ hb).1;refine⟨by rw[ho b hlt];exact Q5D (Q3q hx) hb,?_⟩;rcases hlab b hlt with⟨y,hy,hy2⟩|h'
  ·rw[hb]at hy;cases hy;exact absurd hy2 hx
  exact h'
 have hρ':∀id k,g.ρ id=some k→upd g.ρ n bk id=some k:=by
  intro id k hk;simp only[upd];rw[if_neg (by rintro rfl;rw[hρ]at hk;cases hk)];exact hk
 have hback:∀id k,id≠n→upd g.ρ n bk id=some k→g.ρ id=some k:=by
  intro id k hne hk;simp only[upd]at hk;rw[if_neg hne]at hk;exact hk
 have hsub:∀id e,(λid=>if id∈ky.map qE then none else h id) id=some e→h id=some e:=by
  intro id e he;simp only at he;split at he
  ·cases he
  exact he
 refine⟨⟨λb hb=>⟨?_,?_⟩,λb L hb=>?_,hos.trans W.os,tpt htape W.tape,hout.trans W.output,qK W.size hsize,λb hb hw=>?_⟩,⟨λid s es' bk' he hb=>?_,λid s es' bk' he hb=>?_,λid c i k s bk' he hb=>?_,λid kd es' bk' he hb=>?_⟩,hR⟩;rotate_left 7
 ·have he':=hsub _ _ he;have hid:id≠n:=by rintro rfl;rw[hn]at he';cases he'
  have hnot:id∉ky.map qE:=by intro hin;simp[hin]at he
  exact(H.map id kd es' bk' he' (hback _ _ hid hb)).move (λb hb=>⟨hb,hR b hb⟩) λb M h2=>hother b id M hnot h2
 ·have:=(W.R b hb).1;omega
 ·show o' b=none;rw[ho b (W.R b hb).1];exact Q72 (W.R b hb).2
 ·have hb':o' b=some L:=hb;refine⟨ho2 b L hb',?_⟩
  by_cases hlt:b<w.heap.size
  ·rw[ho b hlt]at hb';obtain⟨M,hM⟩:=Q1Y hb';exact(W.o b M hM).2
  left;have:=W.size;omega
 ·have hlt:b<w.heap.size:=by have:=W.size;omega
  rcases hlab b hlt with⟨x,hx,_⟩|h'
  ·rcases(W.o b _ hx).2 with h''|h''
   ·omega
   exact absurd h'' hw
  rw[h'];exact W.keep b hb hw
 ·have he':=hsub _ _ he;have hid:id≠n:=by rintro rfl;rw[hn]at he';cases he'
  have hnot:id∉ky.map qE:=by intro hin;simp[hin]at he
  exact(H.mix id s es' bk' he' (hback _ _ hid hb)).mono hR hρ' λb hb=>hother b id [] hnot hb
 ·have he':=hsub _ _ he
  by_cases hid:id=n
  ·subst hid;rw[hn]at he';simp only[qA,Ent.row.injEq]at he';obtain⟨rfl,rfl⟩:=he';have hb':upd g.ρ id bk id=some bk':=hb;simp[upd]at hb';subst hb';exact⟨v,hrow,hh⟩
  have hnot:id∉ky.map qE:=by intro hin;simp[hin]at he
  obtain⟨v',hv',hh'⟩:=H.row id s es' bk' he' (hback _ _ hid hb);exact⟨v',hv'.same λb M hb=>hother b id M hnot hb,hh'⟩
 have he':=hsub _ _ he;have hid:id≠n:=by rintro rfl;rw[hn]at he';cases he'
 obtain⟨h1,bkc,h2,h3⟩:=H.ali id c i k s bk' he' (hback _ _ hid hb);refine⟨h1,bkc,hρ' _ _ h2,λd szc esc hcc hmc hi hk=>?_⟩;obtain⟨hco,r,hr1,hr2,hr3⟩:=Q6O hsub d c _ hcc;have hmc':Qm (h c)=false:=by
  cases hcs:(λid=>if id∈ky.map qE then none else h id) c with
  |none=>
   cases d with
   |zero=>simp[cont]at hcc
   |succ d=>simp only at hcs;simp[cont,hcs]at hcc
  |some ec=>
   have:=hsub c ec hcs;rw[this];have hmc2:Qm ((λid=>if id∈ky.map qE then none else h id) c)=false:=hmc;rw[hcs]at hmc2;exact hmc2
 obtain⟨bc,cur,el,v',h4,h5,h6,h7⟩:=h3 d szc esc hco hmc' hi hk;obtain⟨_,v3,r3,M3,hroot,_,ht,hhd⟩:=Q2A H d c szc esc bkc hco hmc' h2;have hne:esc≠[]:=by rintro rfl;simp at hi
 have hhd:=hhd.resolve_right hne;rw[hroot]at hr2;cases hr2;refine⟨bc,cur,el,v',h4,?_,h6,h7⟩;have hrn:r∉ky.map qE:=by intro hin;simp[hin]at hr3
 cases ht with
 |nil=>exact absurd rfl hne
 |own us hob=>
  cases hhd;cases h4;exact(hother _ _ _ hrn hob).2.trans h5
variable (hev:∀ x,XRel w g.R g.ρ (a.eval x) (ev x))(W:WF C w g)(H:HRel w g h)(hnew:∀ p∈e.new,h p.1=some p.2)(hfr:∀ id,n≤id→id<n+e.cnt→g.ρ id=none)
include hev W H hnew hfr
theorem Q7W{o:Oper}{t et:TypeId}{s x:Operand}(ho:o.op= .call {callee:=.builtin .append,args:=#[s,x],argTypes:=#[t,t]})(ht:elm P t=some et){ty:Tyi}(hty:tyi P et=some ty){c1:Prop}{es news:List (List AV)}{i0 d1 d2:List Nat}(hbase:base h ty.sz (ev s)=some (c1,es,i0,d1))(hc1:c1){ad:Option Addr}{cx:Nat}{us2:Nat→Nat→Value}(hxv:a.eval x= .slice ad news.length cx)(hs1:∀j,j<news.length→(news.getD j []).length=ty.sz)(hs2:∀j k,j<news.length→k<ty.sz→∃b x0,ad=some ⟨b,x0,none⟩∧w.cell? ⟨b,x0+(j*ty.sz+k),none⟩=some (us2 j k))(hs3:∀j k,j<news.length→k<ty.sz→one (us2 j k)){ky2:List (Nat×List Nat)}(hk2:ky2.map qE=d2)(hs4:∀j k,j<news.length→k<ty.sz→Lays w g ky2 [n,es.length+j,k] (us2 j k) ((news.getD j []).getD k .bot))(hnd:(n::(i0++(d1++d2))).Nodup)(hby:(es.length+news.length)*ty.bytes≤140737488355328)(hlen:es.length+news.length≤140737488355328)(hpos:0<ty.sz)(he:e={v:=.own n 0 (es.length+news.length),del:=i0++(d1++d2),new:=[(n,.row ty.sz (es++news))],cnt:=1}):StepR P C o a w g h n e:=by
 have hu:=Q2T ht;subst he;obtain⟨inf,d,z,h1,h2,h3,h4,hsc,h5,_⟩:=Q1V hty;subst h4;simp only at hbase hs1 hs2 hs3 hs4 hby hpos hnew hfr;have hby':(es.length+news.length)*inf.bytes≤140737488355328:=hby
 have hpos':0<inf.size:=hpos;obtain⟨bo,cap,cur,el,us,hsv,hb1,hb2,hb3,hb4,hb5,hb6,hb7,ky1,hk1,idb,hidb,hb8⟩:=base_rel (n:=n) H hbase hc1 (hev s)
 let nl:List Value:=(List.range (news.length*inf.size)).map λq=>us2 (q / inf.size) (q % inf.size)
 have hqd:∀q,q<news.length*inf.size→q / inf.size<news.length∧q % inf.size<inf.size∧q / inf.size*inf.size+q % inf.size=q:=by
  intro q hq;refine⟨Nat.div_lt_of_lt_mul (by rw[Nat.mul_comm];exact hq),Nat.mod_lt _ hpos',?_⟩;have:=Nat.div_add_mod q inf.size;rw[Nat.mul_comm]at this;exact this
 have hnlg:∀q,q<news.length*inf.size→nl[q]? =some (us2 (q / inf.size) (q % inf.size)):=by
  intro q hq;simp[nl,hq]
 have hnll:nl.length=news.length*inf.size:=by simp[nl]
 obtain⟨v,w',hrun,hres⟩:=Q6E (P:=P) (w:=w) (ty:=o.type) hu h1 h3 h5 bo es.length cap cur el (λb hb=>⟨(hb1 b hb).1,(hb1 b hb).2.1⟩) hb2 hb3 ad news.length cx nl hnll
  (λq u hq=>by
   have hlt:q<news.length*inf.size:=by
    rcases Nat.lt_or_ge q nl.length with h'|h'
    ·omega
    rw[List.getElem?_eq_none h']at hq;cases hq
   obtain⟨e1,e2,e3⟩:=hqd q hlt;obtain⟨b,x0,g1,g2⟩:=hs2 _ _ e1 e2;rw[hnlg q hlt]at hq;cases hq;exact⟨b,x0,g1,by rw[←e3];simpa[e3]using g2⟩)
  (λu hu=>by
   obtain⟨q,hq,rfl⟩:=List.mem_map.1 hu;obtain⟨e1,e2,_⟩:=hqd q (by simpa using hq);exact hs3 _ _ e1 e2) hpos' hby' hlen hb4
 have hexec:(execOp a.eval o).run P w= .ok (.value v) w':=by
  simp[execOp,ho,resolve,invoke,builtin,hsv,hxv,hrun]
 let ky:List (Nat×List Nat):=(i0.map λid=>(id,[n]))++(ky1++ky2)
 have hkyf:ky.map qE=i0++(d1++d2):=by simp[ky,hk1,hk2,Function.comp_def]
 have hkn:(ky.map qE).Nodup:=by rw[hkyf];exact(List.nodup_cons.1 hnd).2
 have hnk:n∉ky.map qE:=by rw[hkyf];exact(List.nodup_cons.1 hnd).1
 have hn:h n=some (.row inf.size (es++news)):=hnew (n,_) (by simp);have hρ:g.ρ n=none:=hfr n (qF _) (by simp);have hels:∀(w':World) (o':Nat→Option (List Nat)),(∀b,g.R b→w'.heap[b]? =w.heap[b]?)→(∀b,b<w.heap.size→(∃x,g.o b=some [x]∧i0=[x])∨w'.heap[b]? =w.heap[b]?)→(∀b,b<w.heap.size→o' b=mv ky g.o b)→
   ∀j k,j<(es++news).length→k<inf.size→TRel w' g.R o' [n,j,k] (if j<es.length then us j k else us2 (j - es.length) k) (((es++news).getD j []).getD k .bot):=by
  intro w' o' hR hhp ho' j k hj hk;have hpk:∀p∈ky1++ky2,∀b M,g.o b=some (p.1::M)→o' b=some (p.2++M)∧w'.heap[b]? =w.heap[b]?:=by
   intro p hp b M hb;have hlt:=(W.o b _ hb).1;refine⟨by rw[ho' b hlt];exact Q6x (QQ hkn (by simp[ky];simp at hp;exact .inr hp)) hb,?_⟩;rcases hhp b hlt with⟨y,hy,hy2⟩|h'
   ·rw[hb]at hy;cases hy;have hmem:p.1∈d1++d2:=(by rw[←hk1,←hk2,←List.map_append];exact List.mem_map.2 ⟨p,hp,rfl⟩);have:=(List.nodup_cons.1 hnd).2;rw[hy2]at this;exact absurd hmem (List.nodup_cons.1 (by simpa using this)).1
   exact h'
  by_cases hje:j<es.length
  ·rw[if_pos hje];have hid:=hidb (by omega);have hget:((es++news).getD j [])=es.getD j []:=(by simp[qB,qO hje]);rw[hget];refine hb8 j k hje hk w' o' hR (λp hp=>hpk p (by simp[hp])) λb i M hb=>?_;have hlt:=(W.o b _ hb).1;refine⟨?_,?_⟩
   ·rw[ho' b hlt];exact Q6x (L:=[n]) (by have:=QQ hkn (p:=(idb,[n])) (by simp[ky,hid]);exact this) hb
   rcases hhp b hlt with⟨y,hy,_⟩|h'
   ·rw[hb]at hy;simp at hy
   exact h'
  rw[if_neg hje];have hlen2:(es++news).length=es.length+news.length:=by simp
  have hget:((es++news).getD j [])=news.getD (j - es.length) []:=by simp[qB,qS (show es.length≤j by omega)]
  rw[hget];have:=hs4 (j - es.length) k (by omega) hk w' o' hR (λp hp=>hpk p (by simp[hp]))
  rwa[show es.length+(j - es.length)=j by omega]at this
 have hones:∀j k,j<(es++news).length→k<inf.size→one (if j<es.length then us j k else us2 (j - es.length) k):=by
  intro j k hj hk;simp only[qD]at hj;split
  ·rename_i hje;exact hb7 j k hje hk
  exact hs3 _ _ (by omega) hk
 have hlens:∀j,j<(es++news).length→((es++news).getD j []).length=inf.size:=by
  intro j hj;simp only[qD]at hj
  by_cases hje:j<es.length
  ·have:=hb5 j hje;simpa[qB,qO hje]using this
  have:=hs1 (j - es.length) (by omega);simpa[qB,qS (show es.length≤j by omega)]using this
 have hcells:∀(cur':Array Value),(∀q,q<es.length*inf.size→cur'[q]? =cur[q]?)→(∀q,q<news.length*inf.size→cur'[es.length*inf.size+q]? =nl[q]?)→
   ∀j k,j<(es++news).length→k<inf.size→cur'[j*inf.size+k]? =some (if j<es.length then us j k else us2 (j - es.length) k):=by
  intro cur' g1 g2 j k hj hk;simp only[qD]at hj
  by_cases hje:j<es.length
  ·rw[if_pos hje,g1 _ (Q2N hje hk)];exact hb6 j k hje hk
  rw[if_neg hje];have hlt:(j - es.length)*inf.size+k<news.length*inf.size:=Q2N (by omega) hk;have e1:j*inf.size+k=es.length*inf.size+((j - es.length)*inf.size+k):=by
   rw[←qL,←qT,show es.length+(j - es.length)=j by omega]
  rw[e1,g2 _ hlt,hnlg _ hlt];have e2:((j - es.length)*inf.size+k) / inf.size=j - es.length:=by
   rw[qZ,Nat.add_mul_div_right _ _ hpos',Nat.div_eq_of_lt hk,qU]
  rw[e2,Q5C hk]
 intro K Q kk;have fin:∀(bk:Bk) (o':Nat→Option (List Nat)),w'.os=w.os→(w'.tape=w.tape∧w.drawn≤w'.drawn)→w'.output=w.output→w.heap.size≤w'.heap.size→(∀b,b<w.heap.size→(∃x,g.o b=some [x]∧i0=[x])∨w'.heap[b]? =w.heap[b]?)→
   (∀b,b<w.heap.size→o' b=mv ky g.o b)→(∀b L,o' b=some L→b<w'.heap.size)→TRel w' g.R o' [n] v (.lst true inf.size (es++news))→Hdr v bk inf.size→XRel w' g.R (upd g.ρ n bk) v (.own n 0 (es.length+news.length))→K (a.put o.dst v) w':=by
  intro bk o' q1 q2 q3 q4 q5 q6 q7 q8 q9 q10;obtain⟨f1,f2,f3⟩:=move_fin W H hn hρ hnk q1 q2 q3 q4 (λb hb=>(q5 b hb).imp (λ⟨x,hx,hx2⟩=>⟨x,hx,by rw[hkyf,hx2];simp⟩) id) q6 q7 q8 q9;refine kk v w' o' (upd g.ρ n bk) f1 ?_ ?_ ?_ q10 f3
  ·have:(λid=>if id∈ky.map qE then none else h id)=happ {v:=AV.own n 0 (es.length+news.length),del:=i0++(d1++d2),new:=[(n,.row inf.size (es++news))],cnt:=1} h:=by
    funext id;simp only[happ,look,hkyf]
   rw[←this];exact f2
  ·intro id k hk;simp only[upd];rw[if_neg (by rintro rfl;rw[hρ]at hk;cases hk)];exact hk
  intro id k hk;simp only[upd]at hk;split at hk
  ·rename_i hid;subst hid;exact .inr ⟨qF _,by simp⟩
  exact .inl hk
 refine Q2a hexec ?_;rcases hres with⟨rfl,hz0,rfl,rfl⟩|⟨b,rfl,rfl,hroom,cur',hc's,rfl,g1,g2⟩|⟨cap',cur',rfl,hroom,hcm,hc's,rfl,g1,g2⟩
 ·
  obtain⟨he0,hc0⟩:=hb2 rfl;have hnil:es++news=[]:=qQ (by rw[qD];omega);refine fin ⟨none,inf.size,0⟩ (mv ky g.o) rfl ⟨rfl,by first|exact qF _|exact Nat.le_succ _|(simp;done)|(simp;omega)⟩ rfl (qF _) (λ_ _=>.inr rfl) (λ_ _=>rfl) (λb L hb=>?_) (by rw[hnil];exact .nil) .nil ?_
  ·obtain⟨M,hM⟩:=Q1Y hb;exact(W.o b M hM).1
  rw[he0,hz0];exact .own0 (sz:=inf.size) (cap:=0) (by simp[upd])
 ·
  obtain⟨hh,hcs,x,hx1,hx2⟩:=hb1 b rfl;have hhb:∀b',b'<w.heap.size→(∃x,g.o b'=some [x]∧i0=[x])∨(w.setRow b cur').heap[b']? =w.heap[b']?:=by
   intro b' _
   by_cases hbb:b'=b
   ·subst hbb;exact .inl ⟨x,hx2,hx1⟩
   exact .inr (setRow_other w b b' cur' hbb)
  have hRb:∀b',g.R b'→(w.setRow b cur').heap[b']? =w.heap[b']?:=λb' hb'=>setRow_other w b b' cur' (by rintro rfl;have:=(W.R b' hb').2;rw[hx2]at this;cases this);refine fin ⟨some b,inf.size,cap⟩ (mv ky g.o) rfl ⟨rfl,by first|exact qF _|exact Nat.le_succ _|(simp;done)|(simp;omega)⟩ rfl (by simp) hhb (λ_ _=>rfl) (λb L hb=>?_) ?_ .own ?_
  ·obtain⟨M,hM⟩:=Q1Y hb;have:=(W.o _ M hM).1;simpa using this
  ·have:=TRel.own (w:=w.setRow b cur') (R:=g.R) (o:=mv ky g.o) (L:=[n]) (sz:=inf.size) (es:=es++news) (b:=b) (cap:=cap) (cur:=cur') (e:=el) (λj k=>if j<es.length then us j k else us2 (j - es.length) k)
    (Q6x (M:=[]) (by have:=QQ hkn (p:=(x,[n])) (by simp[ky,hx1]);exact this) hx2) (setRow_heap w b cur cur' el (0,0) hh) (by rw[hc's];exact hcs) (by simpa using hroom) hb4 hlens (hcells cur' g1 g2) hones
    (λj k hj hk=>hels _ _ hRb hhb (λ_ _=>rfl) j k hj hk)
   simpa using this
  exact .own (sz:=inf.size) (by simp[upd]) (zA (qU _)) hroom (by simp) (by simp) hb4
 have hold:∀b,b<w.heap.size→(w.drew.alloc (.cells cur' et)).heap[b]? =w.heap[b]?:=λb hb=>Q1m w.drew _ hb;have ho':∀b,b<w.heap.size→upd (mv ky g.o) w.heap.size [n] b=mv ky g.o b:=λb hb=>by simp only[upd];rw[if_neg (by omega)]
 refine fin ⟨some w.heap.size,inf.size,cap'⟩ (upd (mv ky g.o) w.heap.size [n]) rfl ⟨rfl,by first|exact qF _|exact Nat.le_succ _|(simp;done)|(simp;omega)⟩ rfl (by simp) (λb hb=>.inr (hold b hb)) ho' (λb L hb=>?_) ?_ .own ?_
 ·simp only[upd]at hb;split at hb
  ·rename_i hbb;subst hbb;simp
  obtain⟨M,hM⟩:=Q1Y hb;have:=(W.o _ M hM).1;simp;omega
 ·have:=TRel.own (w:=w.drew.alloc (.cells cur' et)) (R:=g.R) (o:=upd (mv ky g.o) w.heap.size [n]) (L:=[n]) (sz:=inf.size) (es:=es++news) (b:=w.heap.size) (cap:=cap') (cur:=cur') (e:=et) (λj k=>if j<es.length then us j k else us2 (j - es.length) k)
   (by simp[upd]) (Q2h w.drew _) (zA hc's.symm) (by simpa using hroom) hcm hlens (hcells cur' g1 g2) hones
   (λj k hj hk=>hels _ _ (λb hb=>hold b (W.R b hb).1) (λb hb=>.inr (hold b hb)) ho' j k hj hk)
  simpa using this
 exact .own (sz:=inf.size) (by simp[upd]) (zA (qU _)) hroom (by simp) (by simp) hcm
theorem Q8D{o:Oper}{t et:TypeId}{s x:Operand}(ho:o.op= .call {callee:=.builtin .append,args:=#[s,x],argTypes:=#[t,t]})(ht:elm P t=some et)(he:Q30 (tyi P et) (ev s) (ev x) h n=some (c,e))(hc:c):StepR P C o a w g h n e:=by
 unfold Q30 at he;split at he
 ·rename_i ty hty;split at he
  ·rename_i c1 es i0 d1 c2 news d2 hbase hsrc;split at he
   ·rename_i hnd;simp only[qA,qC]at he;obtain⟨rfl,he⟩:=he;obtain⟨hc1,hc2,hby,hlen,hpos⟩:=hc;obtain⟨ad,cx,us2,hxv,hs1,hs2,hs3,ky2,hk2,hs4⟩:=src_rel H hsrc hc2 (hev x) (λj k=>[n,es.length+j,k]);exact Q7W hev W H hnew hfr ho ht hty hbase hc1 hxv hs1 hs2 hs3 hk2 hs4 hnd hby hlen hpos he.symm
   simp at he
  simp at he
 simp at he
end
theorem Q3M{P:Program}{w:World}{t:TypeId}{ty:Tyi}(ht:tyi P t=some ty){b x:Nat}{cur:Array Value}{el:TypeId}{v:Value}(hh:w.heap[b]? =some (.cells cur el (0,0)))(hv:v.cells.size=ty.sz)(hfit:x+ty.sz≤cur.size)(h1:∀k,k<ty.sz→one (v.cells.getD k undef)):
  (Instr.storeAt t (.pointer (some ⟨b,x,none⟩)) v).run P w= .ok () (w.setRow b (cur.toList.take x++v.cells.toList++cur.toList.drop (x+ty.sz)).toArray):=by
 obtain⟨inf,d,z,e1,e2,e3,e4,_⟩:=Q1V ht;subst e4;simp only at hv hfit h1;have hst:=run_storeCells_at P b x el v.cells.toList 0 cur w hh (by simpa[hv]using hfit) (λu hu=>by
  obtain⟨k,hk,rfl⟩:=List.mem_iff_getElem.1 hu;have hk':k<v.cells.size:=by simpa using hk
  have:=h1 k (by omega);simpa[hk',one]using this)
 simp only[zC,Array.length_toList,hv]at hst;simp[Instr.storeAt,Instr.sureAddr,storeVar,hv,sizeOf,typeInfo,e1,hst]
theorem Q4M(cur:Array Value)(x:Nat)(vs:Array Value)(hfit:x+vs.size≤cur.size)(q:Nat):
  (cur.toList.take x++vs.toList++cur.toList.drop (x+vs.size)).toArray[q]? =if x≤q∧q<x+vs.size then vs[q - x]? else cur[q]?:=by
 have hl:(cur.toList.take x).length=x:=by simp;omega
 simp only[List.getElem?_toArray,List.append_assoc]
 by_cases h1:q<x
 ·rw[qO (by omega),qR,if_pos h1,if_neg (by omega)];simp
 rw[qS (by omega),hl]
 by_cases h2:q<x+vs.size
 ·rw[qO (by simp;omega),if_pos (by omega)];simp
 rw[qS (by simp;omega),if_neg (by omega),qX];simp only[Array.length_toList,Array.getElem?_toList]
 congr 1;omega
theorem Q5E(cur:Array Value)(x:Nat)(vs:Array Value)(hfit:x+vs.size≤cur.size):(cur.toList.take x++vs.toList++cur.toList.drop (x+vs.size)).toArray.size=cur.size:=by
 simp;omega
def Sim:Nat→List (List AV)→List (List AV)→Prop
 |0,_,_=>True
 |n+1,es,es'=>es.length=es'.length∧∀i k s x',(es'.getD i []).getD k .bot= .lst true s x'→∃x,(es.getD i []).getD k .bot= .lst true s x∧Sim n x x'
theorem Sim.refl:∀(n:Nat) (es:List (List AV)),Sim n es es
 |0,_=>trivial
 |n+1,_=>⟨rfl,λ_ _ _ x' h=>⟨x',h,Sim.refl n x'⟩⟩
theorem Q5H(es:List (List AV))(i k:Nat)(b:AV)(j l:Nat)(hi:i<es.length)(hk:k<(es.getD i []).length):
  ((es.set i ((es.getD i []).set k b)).getD j []).getD l .bot=if j=i∧l=k then b else(es.getD j []).getD l .bot:=by
 by_cases hj:j=i
 ·subst hj;have:(es.set j ((es.getD j []).set k b)).getD j []=(es.getD j []).set k b:=by simp[qB,hi]
  rw[this];generalize es.getD j []=q at hk⊢
  by_cases hl:l=k
  ·subst hl;simp[qB,hk]
  simp[qB,Ne.symm hl,hl]
 have:(es.set i ((es.getD i []).set k b)).getD j []=es.getD j []:=by simp[qB,Ne.symm hj]
 rw[this,if_neg (by simp[hj])]
theorem Q8A(es:List (List AV))(i k:Nat)(b:AV)(j:Nat):((es.set i ((es.getD i []).set k b)).getD j []).length=(es.getD j []).length:=by
 by_cases hj:j=i
 ·subst hj
  by_cases hi:j<es.length
  ·simp[qB,hi]
  rw[Q4f (l:=es.set j _) (by simp;omega),Q4f (by omega)]
 simp[qB,Ne.symm hj]
theorem Sim.set{n:Nat}{es:List (List AV)}{i k:Nat}{b:AV}(hi:i<es.length)(hk:k<(es.getD i []).length)(hb:∀s x',b= .lst true s x'→∃x,(es.getD i []).getD k .bot= .lst true s x∧Sim n x x'):Sim (n+1) es (es.set i ((es.getD i []).set k b)):=by
 refine⟨by simp,λj l s x' h=>?_⟩;rw[Q5H es i k b j l hi hk]at h;split at h
 ·rename_i hjl;obtain⟨rfl,rfl⟩:=hjl;exact hb s x' h
 exact⟨x',h,Sim.refl n x'⟩
section
variable {P:Program}{C:Ctx}{a:Act}{w:World}{g:Gh}{h:HP}{n:Nat}{e:Eff}{c:Prop}{ev:Operand→AV}
theorem cont_sim{h h':HP}{r sz:Nat}{es es':List (List AV)}(h1:h r=some (.row sz es))(h2:h' r=some (.row sz es'))(hs:∀n,Sim n es es')(ho:∀x,x≠r→h' x=h x):
  ∀(d id s:Nat) (x':List (List AV)),cont h' d id=some (s,x')→∃x,cont h d id=some (s,x)∧∀n,Sim n x x':=by
 intro d
 induction d with
 |zero=>intro id s x' hx;simp[cont]at hx
 |succ d ih=>
  intro id s x' hx;have hm:∀c,Qm (h c)=Qm (h' c):=by
   intro c
   by_cases hc:c=r
   ·subst hc;rw[h1,h2];rfl
   rw[ho c hc]
  unfold cont at hx⊢
  by_cases hid:id=r
  ·subst hid;simp only[h2,qA,qC]at hx;obtain⟨rfl,rfl⟩:=hx;exact⟨es,by simp[h1],hs⟩
  rw[ho id hid]at hx;cases he:h id with
  |none=>simp[he]at hx
  |some e=>
   cases e with
   |mix=>exact⟨x',by simpa[he]using hx,λn=>Sim.refl n _⟩
   |row=>exact⟨x',by simpa[he]using hx,λn=>Sim.refl n _⟩
   |mapE=>simp[he]at hx
   |ali c i k s2=>
    simp only[he]at hx⊢;split at hx
    ·simp at hx
    rename_i hmc;rw[hm c,if_neg hmc];cases hc:cont h' d c with
    |none=>simp[hc]at hx
    |some p=>
     obtain⟨sc',esc'⟩:=p;obtain⟨esc,q1,q2⟩:=ih c sc' esc' hc;simp only[hc]at hx;simp only[q1];split at hx
     ·rename_i s3 x3 hcell;split at hx
      ·rename_i hs3;simp only[qA,qC]at hx;obtain⟨rfl,rfl⟩:=hx;obtain⟨x,hx1,_⟩:=(q2 1).2 i k s3 x3 hcell;refine⟨x,by simp only[hx1,hs3,if_true],λn=>?_⟩;obtain⟨y,hy1,hy2⟩:=(q2 (n+1)).2 i k s3 x3 hcell;rw[hx1]at hy1;cases hy1;exact hy2
      simp at hx
     simp at hx
theorem wr_rel(H:HRel w g h):∀(d id sz:Nat) (es:List (List AV)) (bk:Bk),cont h d id=some (sz,es)→Qm (h id)=false→g.ρ id=some bk→es≠[]→
  ∃v r M,TRel w g.R g.o (r::M) v (.lst true sz es)∧Hdr v bk sz∧(∃s e,h r=some (.row s e))∧
   ∀(w':World) (es':List (List AV)) (st:List (Nat×Ent)),(∀n,Sim n es es')→(∀b,g.R b→w'.heap[b]? =w.heap[b]?)→(∃S,∀b,g.o b≠some (r::M++S)→w'.heap[b]? =w.heap[b]?)→TRel w' g.R g.o (r::M) v (.lst true sz es')→
    wr h d id es'=some st→∃szr esr esr' vr,h r=some (.row szr esr)∧st=[(r,.row szr esr')]∧(∀n,Sim n esr esr')∧TRel w' g.R g.o [r] vr (.lst true szr esr')∧∀bkr,g.ρ r=some bkr→Hdr vr bkr szr:=by
 intro d
 induction d with
 |zero=>intro id sz es bk hc;simp[cont]at hc
 |succ d ih=>
  intro id sz es bk hc hm hb hne;unfold cont at hc;cases he:h id with
  |none=>simp[he]at hc
  |some e=>
   cases e with
   |mix s e=>simp[he,Qm]at hm
   |mapE kd e=>simp[he]at hc
   |row s e=>
    simp only[he,qA,qC]at hc;obtain⟨rfl,rfl⟩:=hc;obtain⟨v,hv,hh⟩:=H.row id s e bk he hb;refine⟨v,id,[],hv,hh,⟨_,_,he⟩,λw' es' st hsim _ _ ht hw=>?_⟩;simp only[wr,he,qA]at hw;exact⟨s,e,es',v,he,hw.symm,hsim,ht,λbkr hbr=>by rw[hb]at hbr;cases hbr;exact hh⟩
   |ali c i k s=>
    simp only[he]at hc;obtain⟨hsz,bkc,hρc,hrest⟩:=H.ali id c i k s bk he hb;split at hc
    ·simp at hc
    rename_i hmc;cases hcc:cont h d c with
    |none=>simp[hcc]at hc
    |some p=>
     obtain⟨sc',esc⟩:=p;simp only[hcc]at hc;split at hc
     ·rename_i s2 es2 hcell;split at hc
      ·rename_i hs2;simp only[qA,qC]at hc;obtain⟨rfl,rfl⟩:=hc;have hin:=Q7C hcell (by simp);have hnec:esc≠[]:=(by rintro rfl;simp at hin);obtain⟨v3,r,M,ht,hhd,hrow,hup⟩:=ih c sc' esc _ hcc (by simpa using hmc) hρc hnec;cases ht with
       |nil=>exact absurd rfl hnec
       |@own _ _ _ b2 cap2 cur2 el2 us hob hheap2 h1 h2 h3 h4 h5 h6 h7=>
        have hk:k<sc':=(by rw[←h4 i hin.1];exact hin.2);obtain⟨bc,cur,e',v,hbc,hheap,hcur,hv⟩:=hrest d sc' esc hcc (by simpa using hmc) hin.1 hk;cases hhd with
        |own=>
         simp only[qA]at hbc;subst hbc;rw[hheap]at hheap2;obtain⟨rfl,rfl⟩:=by simpa using hheap2
         have hu:us i k=v:=(by have:=h5 i k hin.1 hk;rw[hcur]at this;simpa using this.symm);have htt:=h7 i k hin.1 hk;rw[hu,hcell]at htt;subst hs2;refine⟨v,r,M++[i,k],by simpa using htt,hv.resolve_right λhs=>htt.scn_lst hs,hrow,λw' es' st hsim hR hh ht' hw=>?_⟩;simp only[wr,he,hcc]at hw;obtain⟨S,hh⟩:=hh;refine hup w' _ st (λn=>?_) hR ⟨[i,k]++S,λb hb=>hh b (by simpa using hb)⟩ ?_ hw
         ·cases n with
          |zero=>trivial
          |succ n=>exact Sim.set hin.1 hin.2 λs x' hx=>by cases hx;exact⟨_,hcell,hsim n⟩
         have hset:∀j l,((esc.set i ((esc.getD i []).set k (.lst true s2 es'))).getD j []).getD l .bot=if j=i∧l=k then .lst true s2 es' else(esc.getD j []).getD l .bot:=
          λj l=>Q5H esc i k _ j l hin.1 hin.2
         have hlen:(esc.set i ((esc.getD i []).set k (.lst true s2 es'))).length=esc.length:=(by simp);rw[←hlen];refine .own (e:=e') us hob ?_ h1 (by rw[hlen];exact h2) h3 (λj hj=>by rw[hlen]at hj;rw[Q8A];exact h4 j hj) (λj l hj hl=>by rw[hlen]at hj;exact h5 j l hj hl)
          (λj l hj hl=>by rw[hlen]at hj;exact h6 j l hj hl) (λj l hj hl=>?_)
         ·rw[hh b2 (by rw[hob];intro he;have:=congrArg (λz=>(z.getD []).length) he;simp at this)];exact hheap
         rw[hlen]at hj;rw[hset]
         by_cases hjl:j=i∧l=k
         ·obtain⟨rfl,rfl⟩:=hjl;rw[if_pos ⟨rfl,rfl⟩,hu];simpa using ht'
         rw[if_neg hjl];refine(h7 j l hj hl).same λb M' hb=>⟨hb,hh b ?_⟩;rw[hb];intro he;simp at he;exact hjl ⟨he.1,he.2.1⟩
      simp at hc
     simp at hc
theorem HRel.write(W:WF C w g)(H:HRel w g h){b0:Nat}{r:Nat}{M:List Nat}{cur cur':Array Value}{el:TypeId}(hl0:g.o b0=some (r::M))(hb0:w.heap[b0]? =some (.cells cur el (0,0))){h':HP}(hr':(∃sz es es',h r=some (.row sz es)∧h' r=some (.row sz es')∧(∀n,Sim n es es')∧∀bk,g.ρ r=some bk→∃v,TRel (w.setRow b0 cur') g.R g.o [r] v (.lst true sz es')∧Hdr v bk sz)∨
   (∃sz es es',h r=some (.mix sz es)∧h' r=some (.mix sz es')∧∀bk,g.ρ r=some bk→MixRel (w.setRow b0 cur') g r bk sz es'))(ho:∀x,x≠r→h' x=h x)(hcell:∀(q:Nat) (v:Value),cur[q]? =some v→∃v',cur'[q]? =some v'∧(v'=v∨scn v'∨M=[]∧∃sz es,h r=some (.mix sz es))):
  WF C (w.setRow b0 cur') g∧HRel (w.setRow b0 cur') g h'∧(∀b,g.R b→(w.setRow b0 cur').heap[b]? =w.heap[b]?):=by
 have hoth:∀b,b≠b0→(w.setRow b0 cur').heap[b]? =w.heap[b]?:=λb hb=>setRow_other w b0 b cur' hb;have hR:∀b,g.R b→(w.setRow b0 cur').heap[b]? =w.heap[b]?:=λb hb=>hoth b (by rintro rfl;have:=(W.R b hb).2;rw[hl0]at this;cases this);have hlab:∀b x N,x≠r→g.o b=some (x::N)→(w.setRow b0 cur').heap[b]? =w.heap[b]?:=λb x N hx hb=>hoth b (by rintro rfl;rw[hl0]at hb;cases hb;exact hx rfl);have hm:∀c,Qm (h' c)=Qm (h c):=by
  intro c
  by_cases hc:c=r
  ·subst hc;rcases hr' with⟨_,_,_,h1,h2,_⟩|⟨_,_,_,h1,h2,_⟩<;>rw[h1,h2]<;>rfl
  rw[ho c hc]
 refine⟨⟨λb hb=>⟨by simpa using(W.R b hb).1,(W.R b hb).2⟩,λb L hb=>⟨by simpa using(W.o b L hb).1,(W.o b L hb).2⟩,W.os,W.tape,W.output,by simpa using W.size,λb hb hw=>?_⟩,⟨λid sz es bk he hb=>?_,λid sz es bk he hb=>?_,λid c i k s bk he hb=>?_,λid kd es bk he hb=>?_⟩,hR⟩;rotate_left 4
 ·have hid:id≠r:=by
   rintro rfl
   rcases hr' with⟨_,_,_,h1,h2,_⟩|⟨_,_,_,h1,h2,_⟩<;>(rw[h2]at he;cases he)
  rw[ho id hid]at he;exact(H.map id kd es bk he hb).move (λb hb=>⟨hb,hR b hb⟩) λb M h2=>⟨h2,hlab b id M hid h2⟩
 ·rw[hoth b (by
   rintro rfl
   rcases(W.o b _ hl0).2 with h1|h1
   ·omega
   exact hw h1)]
  exact W.keep b hb hw
 ·by_cases hid:id=r
  ·subst hid;rcases hr' with⟨_,_,_,_,h2,_⟩|⟨_,_,_,_,h2,h3⟩
   ·rw[h2]at he;cases he
   rw[h2]at he;cases he;exact h3 bk hb
  rw[ho id hid]at he;exact(H.mix id sz es bk he hb).mono hR (λ_ _ h=>h) λb hb=>⟨hb,hlab b id [] hid hb⟩
 ·by_cases hid:id=r
  ·subst hid;rcases hr' with⟨_,_,_,_,h2,_,h3⟩|⟨_,_,_,_,h2,_⟩
   ·rw[h2]at he;cases he;exact h3 bk hb
   rw[h2]at he;cases he
  rw[ho id hid]at he;obtain⟨v,hv,hh⟩:=H.row id sz es bk he hb;exact⟨v,hv.same λb N hb=>⟨hb,hlab b id N hid hb⟩,hh⟩
 have he':h id=some (.ali c i k s):=by
  by_cases hid:id=r
  ·subst hid;rcases hr' with⟨_,_,_,_,h2,_⟩|⟨_,_,_,_,h2,_⟩<;>rw[h2]at he<;>cases he
  rwa[ho id hid]at he
 obtain⟨h1,bkc,h2,h3⟩:=H.ali id c i k s bk he' hb;refine⟨h1,bkc,h2,λd szc esc hcc hmc hi hk=>?_⟩;have hcont:∃x,cont h d c=some (szc,x)∧x.length=esc.length:=by
  rcases hr' with⟨sz,es,es',q1,q2,q3,_⟩|⟨sz,es,es',q1,q2,_⟩
  ·obtain⟨x,hx1,hx2⟩:=cont_sim q1 q2 q3 ho d c szc esc hcc;exact⟨x,hx1,(hx2 1).1⟩
  have:∀(d id:Nat) (x:Nat×List (List AV)),Qm (h' id)=false→cont h' d id=some x→cont h d id=some x:=by
   intro d
   induction d with
   |zero=>intro id x _ hx;simp[cont]at hx
   |succ d ih=>
    intro id x hmx hx;have hid:id≠r:=(by rintro rfl;rw[q2]at hmx;simp[Qm]at hmx);unfold cont at hx⊢;rw[ho id hid]at hx;cases hee:h id with
    |none=>simp[hee]at hx
    |some e=>
     cases e with
     |mix=>simpa[hee]using hx
     |row=>simpa[hee]using hx
     |mapE=>simp[hee]at hx
     |ali c2 i2 k2 s2=>
      simp only[hee]at hx⊢;split at hx
      ·simp at hx
      rename_i hmc2;rw[←hm c2,if_neg hmc2];cases hc2:cont h' d c2 with
      |none=>simp[hc2]at hx
      |some p=>rw[ih c2 p (by simpa using hmc2) hc2];rw[hc2]at hx;exact hx
  exact⟨esc,this d c _ hmc hcc,rfl⟩
 obtain⟨x,hx1,hx2⟩:=hcont;have hmc':Qm (h c)=false:=by rw[←hm c];exact hmc
 obtain⟨bc,cur2,el2,v,h4,h5,h6,h7⟩:=h3 d szc x hx1 hmc' (by omega) hk
 by_cases hbb:bc=b0
 ·subst hbb;rw[hb0]at h5;simp only[qA,Obj.cells.injEq]at h5;obtain⟨rfl,rfl,_⟩:=h5;obtain⟨v',hv1,hv2⟩:=hcell _ v h6;refine⟨bc,cur',el,v',h4,setRow_heap w bc cur cur' el (0,0) hb0,hv1,?_⟩;rcases hv2 with rfl|hv2|⟨rfl,sz,es,hmix⟩
  ·exact h7
  ·exact .inr hv2
  obtain⟨_,v3,r3,M3,hroot,⟨s3,e3,hr3⟩,ht,hhd⟩:=Q2A H d c szc x bkc hx1 hmc' h2;have hne:x≠[]:=by rintro rfl;simp at hx2;omega
  have hhd:=hhd.resolve_right hne;cases ht with
  |nil=>exact absurd rfl hne
  |own us hob=>
   cases hhd;cases h4;rw[hl0]at hob;cases hob;rw[hmix]at hr3;cases hr3
 exact⟨bc,cur2,el2,v,h4,(hoth bc hbb).trans h5,h6,h7⟩
theorem Q4X{j i l k m sz:Nat}(hl:l<sz)(hk:k+m≤sz)(hji:j≠i):¬(i*sz+k≤j*sz+l∧j*sz+l<i*sz+k+m):=by
 intro ⟨h1,h2⟩;rcases Nat.lt_or_ge j i with hlt|hge
 ·have:=qM sz (show j+1≤i by omega);rw[qT]at this;omega
 have:=qM sz (show i+1≤j by omega);rw[qT]at this;omega
variable (hev:∀ x,XRel w g.R g.ρ (a.eval x) (ev x))(W:WF C w g)(H:HRel w g h)
include hev W H
theorem Q9Y{o:Oper}{t:TypeId}{x y:Operand}(ho:o.op= .store t x y)(he:Q3w (tyi P t) (ev x) (ev y) h=some (c,e))(hc:c):StepR P C o a w g h n e:=by
 have hx:=hev x;have hy:=hev y;unfold Q3w at he;split at he
 ·rename_i ty id i k hty heq;rw[heq]at hx;obtain⟨b,bsz,cap,hb,hv⟩:=hx.adr_eq;have hexec:∀w',(Instr.storeAt t (.pointer (some ⟨b,i*bsz+k,none⟩)) (a.eval y)).run P w= .ok () w'→(execOp a.eval o).run P w= .ok .skip w':=by
   intro w' hr;simp[execOp,ho,hv,hr]
  split at he
  ·rename_i sz es hent;split at he
   ·rename_i hcond;simp only[qG,decide_eq_true_eq]at hcond;simp only[qA,qC]at he;obtain⟨rfl,rfl⟩:=he;obtain⟨hi,hk⟩:=hc;obtain⟨b',cur,el,us,cpm,hbk,ho',hh,hsz,hcp,hml,hl,hcur,h1,hxr⟩:=(H.mix id sz es _ hent hb).ex (by simp);simp only[Bk.mk.injEq,qA]at hbk;obtain⟨rfl,rfl,hcap⟩:=hbk;obtain⟨c1,c2,c3⟩:=Q7p hy hcond.2;rw[hcond.1]at c1 c2 c3;have hfit:i*bsz+k+ty.sz≤cur.size:=by
     have:=qM bsz (show i+1≤cpm by omega);rw[qT]at this;omega
    have hrun:=Q3M (P:=P) hty hh c1 hfit c2;rw[←c1]at hrun;have hfit':i*bsz+k+(a.eval y).cells.size≤cur.size:=(by omega);have hnew:=Q4M cur (i*bsz+k) (a.eval y).cells hfit';have hnsz:=Q5E cur (i*bsz+k) (a.eval y).cells hfit';generalize (cur.toList.take (i*bsz+k)++(a.eval y).cells.toList++cur.toList.drop (i*bsz+k+(a.eval y).cells.size)).toArray=cur' at hrun hnew hnsz;have hsp:=λl=>Q65 (ev y).cells (es.getD i []) k l (by rw[hl i hi,hcond.1];exact hk);have hget:∀j,j<es.length→(es.set i (Q1Z (es.getD i []) k (ev y).cells)).getD j []=if j=i then Q1Z (es.getD i []) k (ev y).cells else es.getD j []:=by
     intro j hj
     by_cases hji:j=i
     ·subst hji;simp[qB,hj]
     rw[if_neg hji];simp[qB,Ne.symm hji]
    intro K Q kk;have hRr:∀b',g.R b'→(w.setRow b cur').heap[b']? =w.heap[b']?:=λb' hb'=>setRow_other w b b' cur' (by rintro rfl;have:=(W.R b' hb').2;rw[ho']at this;cases this);have hmn:∀bk,g.ρ id=some bk→MixRel (w.setRow b cur') g id bk bsz (es.set i (Q1Z (es.getD i []) k (ev y).cells)):=by
     intro bk hbk;rw[hb]at hbk;cases hbk;refine .mk' ⟨b,cur',el,λj l=>if j=i∧k≤l∧l<k+ty.sz then(a.eval y).cells.getD (l - k) undef else us j l,cpm,by rw[hcap],ho',setRow_heap w b cur cur' el (0,0) hh,by rw[hnsz];exact hsz,by simpa using hcp,hml,?_,?_,?_,?_⟩
     ·intro j hj;simp only[List.length_set]at hj;rw[hget j hj];split
      ·rename_i hji;subst hji;rw[Q2q];exact hl j hj
      exact hl j hj
     ·intro j l hj hl';simp only[List.length_set]at hj;dsimp only;rw[hnew]
      by_cases hji:j=i
      ·subst hji
       by_cases hin:k≤l∧l<k+ty.sz
       ·rw[if_pos (by omega),if_pos ⟨rfl,hin⟩,show j*bsz+l - (j*bsz+k)=l - k by omega];have:l - k<(a.eval y).cells.size:=(by omega);simp[this]
       rw[if_neg (by omega),if_neg (by simpa using hin)];exact hcur j l hj hl'
      rw[if_neg (by rw[c1];exact Q4X hl' hk hji),if_neg (by simp[hji])];exact hcur j l hj hl'
     ·intro j l hj hl';simp only[List.length_set]at hj;dsimp only;split
      ·exact c2 _ (by omega)
      exact h1 j l hj hl'
     intro j l hj hl';simp only[List.length_set]at hj;dsimp only;rw[hget j hj];have lift:∀v av,XRel w g.R g.ρ v av→XRel (w.setRow b cur') g.R g.ρ v av:=λv av hv=>hv.mono (λb hb=>⟨hb,hRr b hb⟩) (λ_ _ h=>h)
     by_cases hji:j=i
     ·subst hji;rw[if_pos rfl,hsp,hcond.1]
      by_cases hin:k≤l∧l<k+ty.sz
      ·rw[if_pos ⟨rfl,hin⟩,if_pos hin];exact lift _ _ (c3 _ (by omega))
      rw[if_neg (by simpa using hin),if_neg hin];exact lift _ _ (hxr j l hj hl')
     rw[if_neg (by simp[hji]),if_neg hji];exact lift _ _ (hxr j l hj hl')
    have hcl:∀(q:Nat) (v:Value),cur[q]? =some v→∃v',cur'[q]? =some v'∧(v'=v∨scn v'∨([]:List Nat)=[]∧∃sz es,h id=some (.mix sz es)):=by
     intro q v hq;have hq':q<cur.size:=by
      rcases Nat.lt_or_ge q cur.size with h'|h'
      ·exact h'
      simp[Array.getElem?_eq_none h']at hq
     exact⟨cur'[q]'(by omega),by simp[hnsz,hq'],.inr (.inr ⟨rfl,bsz,es,hent⟩)⟩
    obtain⟨f1,f2,f3⟩:=H.write W (b0:=b) (r:=id) (M:=[]) (cur:=cur) (cur':=cur') (el:=el) ho' hh
     (h':=happ {v:=AV.bot,set:=[(id,.mix bsz (es.set i (Q1Z (es.getD i []) k (ev y).cells)))]} h)
     (.inr ⟨bsz,es,es.set i (Q1Z (es.getD i []) k (ev y).cells),hent,by simp[happ,look],hmn⟩) (λz hz=>by simp[happ,look,Ne.symm hz]) hcl
    exact Q3C (hexec _ hrun) (kk undef _ g.o g.ρ f1 f2 (λ_ _ h=>h) (λ_ _ h=>.inl h) .bot f3)
   simp at he
  ·rename_i ent hnm hent;have hmix:Qm (h id)=false:=by
    rw[hent];cases ent with
    |mix s es2=>exact absurd rfl (hnm s es2)
    |_=>rfl
   split at he
   ·rename_i sz es hcont;split at he
    ·rename_i val hval;split at he
     ·rename_i hts;split at he
      ·rename_i st hst;simp only[qA,qC]at he;obtain⟨rfl,rfl⟩:=he;obtain⟨hi,hk⟩:=hc;rw[hval]at hy;obtain⟨hts,hnn⟩:=hts;obtain⟨hyv,hysc⟩:=hy.val_eq;have hne:es≠[]:=(by rintro rfl;simp at hi);have hbs:=Q8a H hcont hb;simp only at hbs;subst hbs;obtain⟨v0,r,M,ht,hhd,⟨szr0,esr0,hrow⟩,hup⟩:=wr_rel H _ _ _ _ _ hcont hmix hb hne;cases ht with
       |nil=>exact absurd rfl hne
       |@own _ _ _ b2 cap2 cur el us hob hh h1 h2 h3 h4 h5 h6 h7=>
        cases hhd;have hcs:(a.eval y).cells=#[val]:=by
         rw[hyv];have:=Q45 hysc
         revert this
         unfold one Value.oneCell';cases val<;>simp[Value.cells]
        have hli:=h4 i hi;have hlt:=Q2N hi hk;have hmul:=qM bsz h2;have hfit:i*bsz+k+ty.sz≤cur.size:=(by rw[hts];omega);have hrun:=Q3M (P:=P) hty hh (v:=a.eval y) (by rw[hcs,hts];rfl) hfit (λj hj=>by
         rw[hts]at hj;have:j=0:=(by omega);subst this;rw[hcs];exact Q45 hysc)
        rw[hts,hcs]at hrun;have hfit':i*bsz+k+(#[val]:Array Value).size≤cur.size:=(by simp;omega);have hnew:=Q4M cur (i*bsz+k) #[val] hfit';have hnsz:(cur.toList.take (i*bsz+k)++[val]++cur.toList.drop (i*bsz+k+1)).toArray.size=cur.size:=Q5E cur (i*bsz+k) #[val] hfit';simp only[List.size_toArray,List.length_singleton]at hnew hrun;generalize (cur.toList.take (i*bsz+k)++[val]++cur.toList.drop (i*bsz+k+1)).toArray=cur' at hrun hnew hnsz;have hRr:∀b',g.R b'→(w.setRow b cur').heap[b']? =w.heap[b']?:=λb' hb'=>setRow_other w b b' cur' (by rintro rfl;have:=(W.R b' hb').2;rw[hob]at this;cases this);have hset:=λj l=>Q5H es i k (.val val) j l hi (by rw[hli];exact hk);have hlen:(es.set i ((es.getD i []).set k (.val val))).length=es.length:=(by simp);have ht':TRel (w.setRow b cur') g.R g.o (r::M) (.slice (some ⟨b,0,none⟩) es.length cap) (.lst true bsz (es.set i ((es.getD i []).set k (.val val)))):=by
         have:=TRel.own (w:=w.setRow b cur') (R:=g.R) (o:=g.o) (L:=r::M) (sz:=bsz) (es:=es.set i ((es.getD i []).set k (.val val))) (b:=b) (cap:=cap) (cur:=cur') (e:=el)
          (λj l=>if j=i∧l=k then val else us j l) hob (setRow_heap w b cur cur' el (0,0) hh) (by rw[hnsz];exact h1) (by rw[hlen];exact h2) h3
          (λj hj=>by rw[hlen]at hj;rw[Q8A];exact h4 j hj)
          (λj l hj hl=>by
           rw[hlen]at hj;rw[hnew]
           by_cases hjl:j=i∧l=k
           ·obtain⟨rfl,rfl⟩:=hjl;rw[if_pos (by omega),if_pos ⟨rfl,rfl⟩];simp
           rw[if_neg hjl,if_neg,h5 j l hj hl]
           by_cases hji:j=i
           ·subst hji;have:l≠k:=λhlk=>hjl ⟨rfl,hlk⟩;omega
           exact Q4X hl (show k+1≤bsz by omega) hji)
          (λj l hj hl=>by
           rw[hlen]at hj;split
           ·exact Q45 hysc
           exact h6 j l hj hl)
          (λj l hj hl=>by
           rw[hlen]at hj;rw[hset];split
           ·exact .val hysc
           refine(h7 j l hj hl).same λb' M' hb'=>⟨hb',setRow_other w b b' cur' ?_⟩
           rintro rfl
           rw[hob]at hb';simp at hb')
         rwa[hlen]at this
        obtain⟨szr,esr,esr',vr,q1,q2,q3,q4,q5⟩:=hup (w.setRow b cur') _ st (λn=>by
          cases n with
          |zero=>trivial
          |succ n=>exact Sim.set hi (by rw[hli];exact hk) λs x' hx=>by cases hx) hRr ⟨[],λb' hb'=>setRow_other w b b' cur' (by rintro rfl;exact hb' (by simpa using hob))⟩ ht' hst
        subst q2;intro K Q kk;obtain⟨f1,f2,f3⟩:=H.write W (b0:=b) (r:=r) (M:=M) (cur:=cur) (cur':=cur') (el:=el) hob hh
         (h':=happ {v:=AV.bot,set:=[(r,.row szr esr')]} h)
         (.inl ⟨szr,esr,esr',q1,by simp[happ,look],q3,λbk hbk=>⟨vr,q4,q5 bk hbk⟩⟩) (λz hz=>by simp[happ,look,Ne.symm hz])
         (λq v hq=>by
          rw[hnew];split
          ·rename_i hq2;refine⟨val,?_,.inr (.inl hnn)⟩;rw[show q - (i*bsz+k)=0 by omega];rfl
          exact⟨v,hq,.inl rfl⟩)
        exact Q3C (hexec _ hrun) (kk undef _ g.o g.ρ f1 f2 (λ_ _ h=>h) (λ_ _ h=>.inl h) .bot f3)
      simp at he
     simp at he
    simp at he
   simp at he
  simp at he
 simp at he
end
theorem Q3E:∀{az:List AV} {is:List Int},Qc az=some is→is.length=az.length∧∀k,k<az.length→az.getD k .bot= .val (.int .i64 (is.getD k 0))
 |[],is,h=>by simp[Qc]at h;subst h;simp
 |a::r,is,h=>by
  unfold Qc at h;split at h
  ·rename_i h0;cases h0
  ·rename_i x r' h0;cases h0;cases hr:Qc r with
   |none=>simp[hr]at h
   |some js=>
    simp[hr]at h;subst h;obtain⟨h1,h2⟩:=Q3E hr;refine⟨by simp[h1],λk hk=>?_⟩;cases k with
    |zero=>rfl
    |succ k=>simpa using h2 k (by simpa using hk)
  cases h
section
variable {P:Program}{C:Ctx}{a:Act}{w:World}{g:Gh}{h:HP}{n:Nat}{e:Eff}{c:Prop}{ev:Operand→AV}
theorem Q5j{P:Program}{w:World}(d:Nat)(xs ys:Array Value)(az bs:List Int)(hxs:∀k,k<az.length→xs[k]? =some (.int .i64 (az.getD k 0)))(hys:∀k,k<bs.length→ys[k]? =some (.int .i64 (bs.getD k 0))):
  ∀(fs:List Field) (k:Nat),(∀f∈fs.zipIdx k,f.1.name≠"_" ∧f.1.offset=f.2∧P.underlying f.1.type=some (.int .i64))→k+fs.length=az.length→k+fs.length=bs.length→
   (Op.eqFields (d+1) xs ys fs).run P w= .ok (az.drop k==bs.drop k) w:=by
 intro fs
 induction fs with
 |nil=>
  intro k _ h1 h2;have e1:az.drop k=[]:=List.drop_eq_nil_of_le (by simp at h1;omega);have e2:bs.drop k=[]:=List.drop_eq_nil_of_le (by simp at h2;omega);simp[Op.eqFields,e1,e2]
 |cons f fs ih=>
  intro k hf h1 h2;simp only[qH]at h1 h2;obtain⟨q1,q2,q3⟩:=hf (f,k) (by simp);simp only at q1 q2 q3;have e1:az.drop k=az.getD k 0::az.drop (k+1):=by
   rw[List.drop_eq_getElem_cons (show k<az.length by omega)];simp[qB,qI (show k<az.length by omega)]
  have e2:bs.drop k=bs.getD k 0::bs.drop (k+1):=by
   rw[List.drop_eq_getElem_cons (show k<bs.length by omega)];simp[qB,qI (show k<bs.length by omega)]
  have hi:=ih (k+1) (λp hp=>hf p (by simp[List.zipIdx_cons,hp])) (by omega) (by omega);have hag:(isAgg f.type).run P w= .ok false w:=Q3s q3;simp only[Op.eqFields,q1,ne_eq,not_false_eq_true,if_true,Sem.run_bind,part,hag,Result.andThen_ok,Bool.false_eq_true,if_false,q2,hxs k (by omega),hys k (by omega),Sem.run_pure,run_equalIn_int (P:=P) w d f.type .i64 .i64 _ _ q3];rw[e1,e2]
  by_cases heq:az.getD k 0=bs.getD k 0
  ·rw[heq];simp[hi]
  have:(az.getD k 0==bs.getD k 0)=false:=by simpa using heq
  simp only[this,Bool.not_false,if_true,Sem.run_pure];simp only[qB]at heq;simp[heq]
theorem Q6r{t:TypeId}{m:Nat}(h:eqT P t=m+2):∃fs,P.underlying t=some (.struct fs)∧fs.size=m∧P.stoodInHeld t=false∧P.eqGuardType P.depth t=false∧
  ∀f∈fs.toList.zipIdx,f.1.name≠"_" ∧f.1.offset=f.2∧P.underlying f.1.type=some (.int .i64):=by
 unfold eqT at h;split at h
 ·omega
 ·rename_i fs hfs;split at h
  ·rename_i hc;simp only[qG,zH,qW]at hc;refine⟨fs,hfs,by omega,hc.1.1,hc.1.2,λf hf=>?_⟩;have:=hc.2 f hf;simp only[qG,bne_iff_ne,beq_iff_eq]at this;refine⟨this.1.1,this.1.2,?_⟩;have h3:=this.2;split at h3
   ·assumption
   cases h3
  omega
 omega
variable (hev:∀ x,XRel w g.R g.ρ (a.eval x) (ev x))(W:WF C w g)(H:HRel w g h)
include hev W H
theorem Q8E{o:Oper}{op:BinOp}{xt yt:TypeId}{x y:Operand}(ho:o.op= .binOp op xt x y yt)(he:Q5K (eqT P xt) op (ev x) (ev y)=some (c,e))(hc:c):StepR P C o a w g h n e:=by
 have hx:=hev x;have hy:=hev y;unfold Q5K at he;split at he
 ·rename_i p q hi hj;rw[hi]at hx;rw[hj]at hy;have hx1:=hx.val_eq.1;have hy1:=hy.val_eq.1;split at he
  ·rename_i hq;have hb:P.underlying xt=some .bool:=by
    unfold eqT at hq;split at hq
    ·assumption
    ·split at hq<;>omega
    omega
   split at he<;>simp only[qA,qC,reduceCtorEq]at he<;>obtain⟨rfl,rfl⟩:=he
   ·refine Qn W H rfl rfl ?_ XRel.bool;simp[execOp,ho,hx1,hy1,eqGuard,run_eql_bool w xt p q hb]
   refine Qn W H rfl rfl ?_ XRel.bool;simp[execOp,ho,hx1,hy1,eqGuard,run_neq_bool w xt p q hb]
  simp at he
 ·rename_i xs ys hi hj;rw[hi]at hx;rw[hj]at hy;obtain⟨vx,hvx,hlx,_,hrx⟩:=hx.agg_eq;obtain⟨vy,hvy,hly,_,hry⟩:=hy.agg_eq;split at he
  ·rename_i az bs has hbs;split at he
   ·rename_i hq;obtain⟨la,ga⟩:=Q3E has;obtain⟨lb,gb⟩:=Q3E hbs;obtain⟨fs,f1,f2,f3,f4,f5⟩:=Q6r hq.1;have hrun:(Op.equalIn 10000 xt (.agg vx) (.agg vy)).run P w= .ok (az==bs) w:=by
     have hfo:P.fieldsOf xt=fs:=(by unfold Program.fieldsOf;rw[f1]);rw[run_equalIn_struct (P:=P) w 9999 xt vx vy (by rw[hfo];exact f1) f3,hfo];have:=Q5j (P:=P) (w:=w) 9998 vx vy az bs (λk hk=>by
       have h1:=hrx k (by omega);rw[ga k (by omega)]at h1;have h2:=h1.val_eq.1;have:k<vx.size:=(by omega);simpa[this]using h2) (λk hk=>by
       have h1:=hry k (by omega);rw[gb k (by omega)]at h1;have h2:=h1.val_eq.1;have:k<vy.size:=(by omega);simpa[this]using h2) fs.toList 0 f5 (by simp;omega) (by simp;omega)
     simpa using this
    split at he<;>simp only[qA,qC,reduceCtorEq]at he<;>obtain⟨rfl,rfl⟩:=he
    ·refine Qn W H rfl rfl ?_ XRel.bool;simp[execOp,ho,hvx,hvy,run_eqGuard_agg (P:=P) w .eql xt x y vx vy f4,run_eql_struct,hrun]
    refine Qn W H rfl rfl ?_ XRel.bool;simp[execOp,ho,hvx,hvy,run_eqGuard_agg (P:=P) w .neq xt x y vx vy f4,run_neq_struct,hrun]
   simp at he
  simp at he
 exact Q9Q hev W H ho he hc
theorem Q68{o:Oper}{xs:Array Operand}{ts:Array TypeId}(mx:Bool)(ho:o.op= .call {callee:=.builtin (bif mx then .max else .min),args:=xs,argTypes:=ts})(he:Q4r (λa b=>if(bif mx then decide (b>a)else decide (b<a))then b else a) (xs.toList.map ev)=some (c,e)):StepR P C o a w g h n e:=by
 have hfold:∀(l:List Operand) (k:IntKind) (m r:Int),Q9t (λa b=>if(bif mx then decide (b>a)else decide (b<a))then b else a) k m (l.map ev)=some r→(k.min≤m∧m≤k.max)→
   ((l.map a.eval).foldlM (if mx then Builtin.max2 else Builtin.min2) (.int k m)).run P w= .ok (.int k r) w∧(k.min≤r∧r≤k.max):=by
  intro l
  induction l with
  |nil=>intro k m r h hm;simp[Q9t]at h;subst h;exact⟨by simp,hm⟩
  |cons y l ih=>
   intro k m r h hm;simp only[qP]at h;unfold Q9t at h;split at h
   ·rename_i heq;cases heq
   ·rename_i m l0 m1 k' b r' heq;simp only[zG]at heq;obtain⟨hy,rfl⟩:=heq;have hyx:=hev y;rw[hy]at hyx;obtain⟨hyv,hys⟩:=hyx.val_eq;split at h
    ·rename_i hk;subst hk;have hnext:k.min≤(if(bif mx then decide (b>m)else decide (b<m))then b else m)∧(if(bif mx then decide (b>m)else decide (b<m))then b else m)≤k.max:=by
      split
      ·exact hys
      exact hm
     obtain⟨h1,h2⟩:=ih k _ r h hnext;refine⟨?_,h2⟩;cases mx with
     |true=>
      simp only[cond_true,decide_eq_true_eq]at h1;simp[hyv,Builtin.max2];simpa using h1
     |false=>
      simp only[cond_false,decide_eq_true_eq]at h1;simp[hyv,Builtin.min2];simpa using h1
    cases h
   cases h
 unfold Q4r at he;split at he
 ·rename_i k m r heq;split at he
  ·rename_i z hz;simp only[qA,qC]at he;obtain⟨_,rfl⟩:=he;cases hxs:xs.toList with
   |nil=>rw[hxs]at heq;cases heq
   |cons y l=>
    rw[hxs]at heq;simp only[qP,zG]at heq;obtain⟨hy,rfl⟩:=heq;have hyx:=hev y;rw[hy]at hyx;obtain⟨hyv,hys⟩:=hyx.val_eq;obtain⟨h1,h2⟩:=hfold l k m z hz hys;refine Qn W H rfl rfl (v:=.int k z) ?_ (XRel.int h2);have hm:(xs.map a.eval).toList=a.eval y::l.map a.eval:=(by simp[hxs]);cases mx with
    |true=>
     simp only[if_true]at h1;simp[execOp,ho,resolve,invoke,builtin,Builtin.max_,hxs,hyv,h1]
    |false=>
     simp only[Bool.false_eq_true,if_false]at h1;simp[execOp,ho,resolve,invoke,builtin,Builtin.min_,hxs,hyv,h1]
  simp at he
 simp at he
end
def Q14:Op→Bool
 | .move _|.assign _|.pick ..|.build ..|.nilCheck _|.binOp ..|.unOp ..|.fieldAddr ..|.field ..|.extract ..=>false
 | .call cl=>match cl.callee with
  | .builtin .min|.builtin .max=>false
  |_=>true
 |_=>true
def Q1f:Op→Bool
 | .store ..=>true
 | .mapUpdate ..=>true
 | .mapEntry ..=>true
 | .entryStore ..=>true
 | .call cl=>match cl.callee with
  | .builtin .append=>true
  |_=>false
 |_=>false
section
variable {P:Program}{C:Ctx}{a:Act}{w:World}{g:Gh}{h:HP}{n:Nat}{e:Eff}{c:Prop}{ev:Operand→AV}
theorem opF_step(hev:∀x,XRel w g.R g.ρ (a.eval x) (ev x))(W:WF C w g)(H:HRel w g h)(hnew:∀p∈e.new,h p.1=some p.2)(hfr:∀id,n≤id→id<n+e.cnt→g.ρ id=none){o:Oper}(he:opF P o.op ev h n=some (c,e))(hc:c):StepR P C o a w g h n e:=by
 unfold opF at he;split at he
 ·rename_i x ho;exact Q7Y hev W H (.inl ho) he.symm
 ·rename_i x ho;exact Q7Y hev W H (.inr ho) he.symm
 ·rename_i x y z ho;exact step_pick hev W H ho he
 ·rename_i t ho;exact Q9P W H hnew hfr ho he
 ·rename_i t x ho;exact step_box hev W H hnew hfr ho he
 ·rename_i t parts ho;exact Q9R hev W H ho he
 ·rename_i t len parts ho;split at he
  ·rename_i et ht;exact Q66 hev W H hnew hfr ho ht he
  cases he
 ·rename_i t x ho;exact step_load hev W H hnew hfr ho he hc
 ·rename_i t x y ho;exact Q9Y hev W H ho he hc
 ·rename_i x ho;exact Q7d hev W H ho he
 ·rename_i op xt x y yt ho;exact Q8E hev W H ho he hc
 ·rename_i op xt x ho;exact step_unop hev W H ho he
 ·rename_i src dst x ho;exact step_conv hev W H ho he
 ·rename_i t l cc ho;split at he
  ·rename_i et ht;exact Q8G hev W H hnew hfr ho ht he hc
  cases he
 ·rename_i t x k ho;exact Q6k hev W H ho he
 ·rename_i t x k ho;exact Q9U hev W H ho he hc
 ·rename_i t x i ho;split at he
  ·rename_i et ht;exact step_idx hev W H ho ht he hc
  cases he
 ·rename_i t x lo hi ho;split at he
  ·rename_i et ht;exact Q9X hev W H ho ht he hc
  cases he
 ·rename_i x k ho;exact Q7X hev W H ho he hc
 ·rename_i cl ho;obtain⟨ce,⟨args⟩,⟨ts⟩⟩:=cl;simp only at he;unfold bltF at he;split at he
  ·split at he
   ·rename_i et ht;exact step_len hev W H ho ht he
   cases he
  ·split at he
   ·rename_i et ht;split at he
    ·rename_i htu;subst htu;exact Q8D hev W H hnew hfr ho ht he hc
    cases he
   cases he
  ·exact Q68 hev W H false ho (by simpa using he)
  ·exact Q68 hev W H true ho (by simpa using he)
  cases he
 cases he
theorem Q6w{ev ev':Operand→AV}(parts:List (Nat×Operand))(hh:∀x∈parts.map Prod.snd,ev x=ev' x):parts.map (λp=>(p.1,ev p.2))=parts.map (λp=>(p.1,ev' p.2)):=
 List.map_congr_left λp hp=>by rw[hh p.2 (List.mem_map.2 ⟨p,hp,rfl⟩)]
theorem opF_congr{ev ev':Operand→AV}{op:Op}(hh:∀x∈op.operands,ev x=ev' x):opF P op ev h n=opF P op ev' h n:=by
 cases op with
 | build t parts =>
   simp only[opF];rw[Q6w parts.toList λx hx=>hh x (by simpa[qJ]using hx)]
 | buildSlice t len parts =>
   simp only[opF];rw[Q6w parts.toList λx hx=>hh x (by simpa[qJ]using hx)]
 | call cl =>
   obtain⟨ce,⟨args⟩,⟨ts⟩⟩:=cl;have ha:∀x∈args,ev x=ev' x:=λx hx=>hh x (by simp[qJ,Call.operands];exact .inr hx);have hm:args.map ev=args.map ev':=List.map_congr_left ha;simp only[opF,bltF];split<;>first|(simp only[hm];done)|rfl|skip
   · rw[ha _ (by simp)]
   rw[ha _ (by simp),ha _ (by simp)]
 | slice t x lo hi mx =>
   cases mx with
   |some m=>rfl
   | none =>
     have h1:lo.map ev=lo.map ev':=by cases lo with|none=>rfl|some y=>simp[hh y (by simp[qJ])]
     have h2:hi.map ev=hi.map ev':=by cases hi with|none=>rfl|some y=>simp[hh y (by simp[qJ])]
     simp only[opF,h1,h2,hh x (by simp[qJ])]
 | _=>first
   |rfl
   | (simp only [qJ] at hh
      simp[opF,hh];done)
def Eff.calm(e:Eff):Prop:=e.del=[]∧e.set=[]∧e.new=[]∧e.cnt=0
theorem Q9h{op:Op}(ht:Q14 op=false)(he:opF P op ev h n=some (c,e)):e.calm∧∀h' n',opF P op ev h' n'=some (c,e):=by
 have conv:∀{o:Option (Prop×Eff)},(∀c e,o=some (c,e)→e.calm)→o=some (c,e)→e.calm:=λh1 h2=>h1 _ _ h2
 cases op with
 |call cl=>
  obtain⟨ce,args,ts⟩:=cl;cases ce with
  |value=>simp[Q14]at ht
  |invoke=>simp[Q14]at ht
  |builtin b=>
   cases b<;>simp only[Q14,Bool.true_eq_false,reduceCtorEq]at ht;all_goals
    simp only[opF,bltF]at he⊢;refine⟨?_,λ_ _=>he⟩;unfold Q4r at he;split at he
    ·split at he
     ·simp only[qA,qC]at he;obtain⟨_,rfl⟩:=he;exact⟨rfl,rfl,rfl,rfl⟩
     cases he
    cases he
 |move x=>simp only[opF,qA,qC]at he;obtain⟨rfl,rfl⟩:=he;exact⟨⟨rfl,rfl,rfl,rfl⟩,λ_ _=>rfl⟩
 |assign x=>simp only[opF,qA,qC]at he;obtain⟨rfl,rfl⟩:=he;exact⟨⟨rfl,rfl,rfl,rfl⟩,λ_ _=>rfl⟩
 |pick x y z=>
  refine⟨?_,λ_ _=>he⟩;simp only[opF]at he;unfold pick at he;split at he<;>simp only[qA,qC,reduceCtorEq]at he;obtain⟨_,rfl⟩:=he;exact⟨rfl,rfl,rfl,rfl⟩
 |build t parts=>
  refine⟨?_,λ_ _=>he⟩;simp only[opF]at he;unfold build at he;split at he
  ·split at he
   ·split at he
    ·simp only[qA,qC]at he;obtain⟨_,rfl⟩:=he;exact⟨rfl,rfl,rfl,rfl⟩
    cases he
   cases he
  cases he
 |nilCheck x=>
  refine⟨?_,λ_ _=>he⟩;simp only[opF]at he;unfold nilCheck at he;split at he<;>simp only[qA,qC,reduceCtorEq]at he<;>(obtain⟨_,rfl⟩:=he;exact⟨rfl,rfl,rfl,rfl⟩)
 |binOp op xt x y yt=>
  refine⟨?_,λ_ _=>he⟩;simp only[opF]at he;unfold Q5K at he;split at he
  ·split at he
   ·split at he<;>simp only[qA,qC,reduceCtorEq]at he<;>(obtain⟨_,rfl⟩:=he;exact⟨rfl,rfl,rfl,rfl⟩)
   cases he
  ·split at he
   ·split at he
    ·split at he<;>simp only[qA,qC,reduceCtorEq]at he<;>(obtain⟨_,rfl⟩:=he;exact⟨rfl,rfl,rfl,rfl⟩)
    cases he
   cases he
  unfold binop at he;split at he
  ·split at he
   ·simp only[qA,qC]at he;obtain⟨_,rfl⟩:=he;exact⟨rfl,rfl,rfl,rfl⟩
   split at he
   ·cases he
   split at he<;>simp only[qA,qC,reduceCtorEq]at he<;>(obtain⟨_,rfl⟩:=he;exact⟨rfl,rfl,rfl,rfl⟩)
  cases he
 |unOp op xt x=>
  refine⟨?_,λ_ _=>he⟩;simp only[opF]at he;unfold unop at he;split at he<;>simp only[qA,qC,reduceCtorEq]at he<;>(obtain⟨_,rfl⟩:=he;exact⟨rfl,rfl,rfl,rfl⟩)
 |convert s d x=>
  refine⟨?_,λ_ _=>he⟩;simp only[opF]at he;unfold Q6P at he;split at he<;>simp only[qA,qC,reduceCtorEq]at he;obtain⟨_,rfl⟩:=he;exact⟨rfl,rfl,rfl,rfl⟩
 |fieldAddr t x k=>
  refine⟨?_,λ_ _=>he⟩;simp only[opF]at he;unfold fieldAddr at he;split at he<;>simp only[qA,qC,reduceCtorEq]at he<;>(obtain⟨_,rfl⟩:=he;exact⟨rfl,rfl,rfl,rfl⟩)
 |field t x k=>
  refine⟨?_,λ_ _=>he⟩;simp only[opF]at he;unfold Q5P at he;split at he<;>simp only[qA,qC,reduceCtorEq]at he;obtain⟨_,rfl⟩:=he;exact⟨rfl,rfl,rfl,rfl⟩
 |extract x k=>
  refine⟨?_,λ_ _=>he⟩;simp only[opF]at he;unfold Q3F at he;split at he<;>simp only[qA,qC,reduceCtorEq]at he;obtain⟨_,rfl⟩:=he;exact⟨rfl,rfl,rfl,rfl⟩
 |_=>simp[Q14]at ht
end
section
variable {h h':HP}(hs:∀ id x,h id=some x→h' id=some x)
include hs
theorem Q24{d id:Nat}{x:Nat×List (List AV)}(hx:cont h d id=some x):cont h' d id=some x:=(Q6O hs d id x hx).1
theorem wr_up:∀(d id:Nat) (es:List (List AV)) (s:List (Nat×Ent)),wr h d id es=some s→wr h' d id es=some s:=by
 intro d
 induction d with
 |zero=>intro id es s hw;simp[wr]at hw
 |succ d ih=>
  intro id es s hw;unfold wr at hw⊢;cases he:h id with
  |none=>simp[he]at hw
  |some e=>
   rw[hs id e he];cases e with
   |mix=>simpa[he]using hw
   |row=>simpa[he]using hw
   |mapE=>simp[he]at hw
   |ali c i k sz=>
    simp only[he]at hw⊢;cases hc:cont h d c with
    |none=>simp[hc]at hw
    |some p=>
     rw[Q24 hs hc];rw[hc]at hw;exact ih _ _ _ hw
omit hs in
theorem layCsF_up{f f':AV→Option (AV×List Nat)}(hf:∀a r,f a=some r→f' a=some r):∀(az:List AV) (r:List AV×List Nat),Q2F f az=some r→Q2F f' az=some r:=by
 intro az
 induction az with
 |nil=>intro r hl;exact hl
 |cons a az ih=>
  intro r hl;simp only[Q2F]at hl⊢;split at hl
  ·rename_i b d q ds h1 h2;rw[hf _ _ h1,ih _ h2];exact hl
  cases hl
omit hs in
theorem Q7L{f f':AV→Option (AV×List Nat)}(hf:∀a r,f a=some r→f' a=some r):∀(es:List (List AV)) (r:List (List AV)×List Nat),Q2j f es=some r→Q2j f' es=some r:=by
 intro es
 induction es with
 |nil=>intro r hl;exact hl
 |cons a az ih=>
  intro r hl;simp only[Q2j]at hl⊢;split at hl
  ·rename_i b d q ds h1 h2;rw[layCsF_up hf _ _ h1,ih _ h2];exact hl
  cases hl
theorem layD_up:∀(dp:Nat) (a:AV) (r:AV×List Nat),layD h dp a=some r→layD h' dp a=some r:=by
 intro dp
 induction dp with
 |zero=>intro a r hl;exact hl
 |succ dp ih=>
  intro a r hl;unfold layD at hl⊢;split at hl
  ·exact hl
  ·rename_i id m;split at hl
   ·rename_i sz es he;simp only[hs _ _ he];exact hl
   ·rename_i sz es he;simp only[hs _ _ he];split at hl
    ·rename_i hlen;rw[if_pos hlen];split at hl
     ·rename_i q ds hq;rw[Q7L ih _ _ hq];exact hl
     cases hl
    cases hl
   cases hl
  cases hl
theorem Q8n{a:AV}{r:AV×List Nat}(hl:layC h a=some r):layC h' a=some r:=layD_up hs _ _ _ hl
theorem Q97(es:List (List AV))(r:List (List AV)×List Nat)(hl:Q4K h es=some r):Q4K h' es=some r:=Q7L (λ_ _ h=>Q8n hs h) _ _ hl
theorem src_up{sz:Nat}{x:AV}{r:Prop×List (List AV)×List Nat}(hl:src h sz x=some r):src h' sz x=some r:=by
 unfold src at hl⊢;split at hl
 ·exact hl
 ·exact hl
 ·rename_i id off m;split at hl
  ·rename_i sz' es he;simp only[hs _ _ he];split at hl
   ·rename_i hsz;rw[if_pos hsz];split at hl
    ·rename_i q d h1;rw[Q97 hs _ _ h1];exact hl
    cases hl
   cases hl
  ·rename_i ent hnm he;split at hl
   ·rename_i sz' es hc;have hx:=hs _ _ he;cases ent with
    |mix s e=>exact absurd rfl (hnm s e)
    |row=>simp only[hx,Q24 hs hc];exact hl
    |ali=>simp only[hx,Q24 hs hc];exact hl
    |mapE=>simp only[hx,Q24 hs hc];exact hl
   cases hl
  cases hl
 cases hl
theorem base_up{sz:Nat}{x:AV}{r:Prop×List (List AV)×List Nat×List Nat}(hl:base h sz x=some r):base h' sz x=some r:=by
 unfold base at hl⊢;split at hl
 ·exact hl
 ·rename_i id m;split at hl
  ·rename_i sz' es he;simp only[hs _ _ he];exact hl
  ·rename_i sz' es he;simp only[hs _ _ he];split at hl
   ·rename_i hsz;rw[if_pos hsz];split at hl
    ·rename_i q d h1;rw[Q97 hs _ _ h1];exact hl
    cases hl
   cases hl
  cases hl
 cases hl
theorem opF_up{P:Program}{op:Op}{ev:Operand→AV}{n:Nat}{r:Prop×Eff}(hl:opF P op ev h n=some r):opF P op ev h' n=some r:=by
 cases op with
 |load t x=>
  simp only[opF]at hl⊢;unfold Q1X at hl⊢;split at hl
  ·rename_i ty id i k h1 h2;split at hl
   ·rename_i sz es he;simp only[hs _ _ he];exact hl
   ·rename_i ent hnm he;split at hl
    ·rename_i sz es hc;have hx:=hs _ _ he;cases ent with
     |mix s e=>exact absurd rfl (hnm s e)
     |row=>simp only[hx,Q24 hs hc];exact hl
     |ali=>simp only[hx,Q24 hs hc];exact hl
     |mapE=>simp only[hx,Q24 hs hc];exact hl
    cases hl
   cases hl
  ·exact hl
  cases hl
 |store t x y=>
  simp only[opF]at hl⊢;unfold Q3w at hl⊢;split at hl
  ·rename_i ty id i k h1 h2;split at hl
   ·rename_i sz es he;simp only[hs _ _ he];exact hl
   ·rename_i ent hnm he;split at hl
    ·rename_i sz es hc;have hx:=hs _ _ he;split at hl
     ·rename_i v hv;split at hl
      ·rename_i hts;split at hl
       ·rename_i s hw;cases ent with
        |mix s e=>exact absurd rfl (hnm s e)
        |row=>simp only[hx,Q24 hs hc,wr_up hs _ _ _ _ hw,if_pos hts];exact hl
        |ali=>simp only[hx,Q24 hs hc,wr_up hs _ _ _ _ hw,if_pos hts];exact hl
        |mapE=>simp only[hx,Q24 hs hc,wr_up hs _ _ _ _ hw,if_pos hts];exact hl
       cases hl
      cases hl
     cases hl
    cases hl
   cases hl
  cases hl
 |indexAddr t x i=>
  simp only[opF]at hl⊢;split at hl
  ·rename_i e he;unfold QY at hl⊢;split at hl
   ·split at hl
    ·rename_i hc;simp only[Q24 hs hc];exact hl
    cases hl
   ·exact hl
   cases hl
  cases hl
 |slice t x lo hi mx=>
  cases mx with
  |some m=>exact hl
  |none=>
   have go:∀{ty:Tyi} {x:AV} {l r:Int} {q:Prop×Eff},Q1E ty h x l r=some q→Q1E ty h' x l r=some q:=by
    intro ty x l r q hg;unfold Q1E at hg⊢;split at hg
    ·split at hg
     ·rename_i hc;simp only[Q24 hs hc];exact hg
     cases hg
    ·exact hg
    cases hg
   simp only[opF]at hl⊢;split at hl
   ·unfold Q46 at hl⊢;split at hl<;>first|exact go hl|cases hl
   cases hl
 |call cl=>
  obtain⟨ce,args,ts⟩:=cl;simp only[opF]at hl⊢;unfold bltF at hl⊢;split at hl
  ·exact hl
  ·split at hl
   ·split at hl
    ·rename_i htu;rw[if_pos htu];unfold Q30 at hl⊢;split at hl
     ·split at hl
      ·rename_i h1 h2;rw[base_up hs h1,src_up hs h2];exact hl
      cases hl
     cases hl
    cases hl
   cases hl
  ·exact hl
  ·exact hl
  cases hl
 |_=>exact hl
end
structure Eff.fine(e:Eff)(n:Nat):Prop where
 new:∀p∈e.new,n≤p.1∧p.1<n+e.cnt
 nodup:(e.new.map qE).Nodup
 del:∀x∈e.del,x<n
 sets:(e.set.map qE).Nodup∧∀p∈e.set,p.1<n
theorem Q1W{e:Eff}{n:Nat}(h:e.set=[]):(e.set.map qE).Nodup∧∀p∈e.set,p.1<n:=by rw[h];exact⟨.nil,λp hp=>by cases hp⟩
theorem Q9m{e:Eff}{n:Nat}{p:Nat×Ent}(h:e.set=[p])(hp:p.1<n):(e.set.map qE).Nodup∧∀p∈e.set,p.1<n:=by
 rw[h];exact⟨by simp,λq hq=>by simp at hq;subst hq;exact hp⟩
theorem Q6I(id i:Nat):∀(az:List AV) (k n:Nat),(∀p∈(Q1d id i k n az).2,n≤p.1∧p.1<n+az.length)∧((Q1d id i k n az).2.map qE).Nodup:=by
 intro az
 induction az with
 |nil=>intro k n;simp[Q1d]
 |cons a az ih=>
  intro k n;obtain⟨h1,h2⟩:=ih (k+1) (n+1);have tail:∀p∈(Q1d id i (k+1) (n+1) az).2,n≤p.1∧p.1<n+(a::az).length:=λp hp=>by have:=h1 p hp;simp;omega
  have plain:(Q1d id i k n (a::az)).2=(Q1d id i (k+1) (n+1) az).2→(∀p∈(Q1d id i k n (a::az)).2,n≤p.1∧p.1<n+(a::az).length)∧((Q1d id i k n (a::az)).2.map qE).Nodup:=by
   intro he;rw[he];exact⟨tail,h2⟩
  cases a with
  |lst u sz es=>
   cases u with
   |false=>exact plain (by simp[Q1d])
   |true=>
    simp only[Q1d,List.mem_cons,qP,zE];refine⟨λp hp=>?_,λhp=>?_,h2⟩
    ·rcases hp with rfl|hp
     ·simp
     exact tail p hp
    obtain⟨p,hp,hpe⟩:=List.mem_map.1 hp;have:=(h1 p hp).1;omega
  |_=>exact plain (by simp[Q1d])
theorem layCsF_d{h:HP}{f:AV→Option (AV×List Nat)}(hf:∀a r,f a=some r→∀x∈r.2,∃y,h x=some y):∀(az:List AV) (r:List AV×List Nat),Q2F f az=some r→∀x∈r.2,∃y,h x=some y:=by
 intro az
 induction az with
 |nil=>intro r hl;simp only[Q2F,qA]at hl;subst hl;simp
 |cons a az ih=>
  intro r hl;simp only[Q2F]at hl;split at hl
  ·rename_i b d q ds h1 h2;simp only[qA]at hl;subst hl;intro x hx;simp only[zB]at hx;rcases hx with hx|hx
   ·exact hf _ _ h1 x hx
   exact ih _ h2 x hx
  cases hl
theorem Q96{h:HP}{f:AV→Option (AV×List Nat)}(hf:∀a r,f a=some r→∀x∈r.2,∃y,h x=some y):∀(es:List (List AV)) (r:List (List AV)×List Nat),Q2j f es=some r→∀x∈r.2,∃y,h x=some y:=by
 intro es
 induction es with
 |nil=>intro r hl;simp only[Q2j,qA]at hl;subst hl;simp
 |cons a az ih=>
  intro r hl;simp only[Q2j]at hl;split at hl
  ·rename_i b d q ds h1 h2;simp only[qA]at hl;subst hl;intro x hx;simp only[zB]at hx;rcases hx with hx|hx
   ·exact layCsF_d hf _ _ h1 x hx
   exact ih _ h2 x hx
  cases hl
theorem layD_d{h:HP}:∀(dp:Nat) (a:AV) (r:AV×List Nat),layD h dp a=some r→∀x∈r.2,∃y,h x=some y:=by
 intro dp
 induction dp with
 |zero=>intro a r hl;cases hl
 |succ dp ih=>
  intro a r hl;unfold layD at hl;split at hl
  ·simp only[qA]at hl;subst hl;simp
  ·split at hl
   ·rename_i he;split at hl
    ·simp only[qA]at hl;subst hl;intro x hx;simp at hx;subst hx;exact⟨_,he⟩
    cases hl
   ·rename_i he;split at hl
    ·split at hl
     ·rename_i hq;simp only[qA]at hl;subst hl;intro x hx;simp only[List.mem_cons]at hx;rcases hx with rfl|hx
      ·exact⟨_,he⟩
      exact Q96 ih _ _ hq x hx
     cases hl
    cases hl
   cases hl
  cases hl
theorem layEs_d{h:HP}(es:List (List AV))(r:List (List AV)×List Nat)(hl:Q4K h es=some r):∀x∈r.2,∃y,h x=some y:=Q96 (λa r h=>layD_d depth a r h) es r hl
theorem src_d{h:HP}{sz:Nat}{x:AV}{c:Prop}{es:List (List AV)}{d:List Nat}(hl:src h sz x=some (c,es,d)):∀x∈d,∃y,h x=some y:=by
 unfold src at hl;split at hl
 ·simp only[qA,qC]at hl;obtain⟨_,_,rfl⟩:=hl;simp
 ·split at hl
  ·simp only[qA,qC]at hl;obtain⟨_,_,rfl⟩:=hl;simp
  cases hl
 ·split at hl
  ·split at hl
   ·split at hl
    ·rename_i h1;simp only[qA,qC]at hl;obtain⟨_,_,rfl⟩:=hl;exact layEs_d _ _ h1
    cases hl
   cases hl
  ·split at hl
   ·split at hl
    ·simp only[qA,qC]at hl;obtain⟨_,_,rfl⟩:=hl;simp
    cases hl
   cases hl
  cases hl
 cases hl
theorem base_d{h:HP}{sz:Nat}{x:AV}{c:Prop}{es:List (List AV)}{i d:List Nat}(hl:base h sz x=some (c,es,i,d)):(∀x∈i,∃y,h x=some y)∧∀x∈d,∃y,h x=some y:=by
 unfold base at hl;split at hl
 ·simp only[qA,qC]at hl;obtain⟨_,_,rfl,rfl⟩:=hl;simp
 ·split at hl
  ·rename_i he;split at hl
   ·simp only[qA,qC]at hl;obtain⟨_,_,rfl,rfl⟩:=hl;simp[he]
   cases hl
  ·rename_i he;split at hl
   ·split at hl
    ·rename_i h1;simp only[qA,qC]at hl;obtain⟨_,_,rfl,rfl⟩:=hl;exact⟨by simp[he],layEs_d _ _ h1⟩
    cases hl
   cases hl
  cases hl
 cases hl
theorem wr_one{h:HP}{n:Nat}(hlt:∀id x,h id=some x→id<n):∀(d id:Nat) (es:List (List AV)) (s:List (Nat×Ent)),wr h d id es=some s→∃p,s=[p]∧p.1<n:=by
 intro d
 induction d with
 |zero=>intro id es s hw;simp[wr]at hw
 |succ d ih=>
  intro id es s hw;unfold wr at hw;cases he:h id with
  |none=>simp[he]at hw
  |some e=>
   cases e with
   |mix=>simp[he]at hw;exact⟨_,hw.symm,hlt _ _ he⟩
   |row=>simp[he]at hw;exact⟨_,hw.symm,hlt _ _ he⟩
   |mapE=>simp[he]at hw
   |ali c i k sz=>
    simp only[he]at hw;cases hc:cont h d c with
    |none=>simp[hc]at hw
    |some p=>rw[hc]at hw;exact ih _ _ _ hw
theorem Q9g{P:Program}{op:Op}{ev:Operand→AV}{h:HP}{n:Nat}{c:Prop}{e:Eff}(hlt:∀id x,h id=some x→id<n)(he:opF P op ev h n=some (c,e)):e.fine n∧(Q1f op=false→e.set=[]∧e.del=[]):=by
 have hdel:∀(sz:Nat) (s x:AV) (c1 c2:Prop) (p1:List (List AV)×List Nat×List Nat) (p2:List (List AV)×List Nat),base h sz s=some (c1,p1)→src h sz x=some (c2,p2)→∀y∈p1.2.1++(p1.2.2++p2.2),y<n:=by
  intro sz s x c1 c2 p1 p2 h1 h2 y hy;simp only[zB]at hy;have b:=base_d (i:=p1.2.1) (d:=p1.2.2) (es:=p1.1) h1;rcases hy with hy|hy|hy
  ·obtain⟨z,hz⟩:=b.1 y hy;exact hlt _ _ hz
  ·obtain⟨z,hz⟩:=b.2 y hy;exact hlt _ _ hz
  obtain⟨z,hz⟩:=src_d (d:=p2.2) (es:=p2.1) h2 y hy;exact hlt _ _ hz
 have calm:e.calm→e.fine n∧(Q1f op=false→e.set=[]∧e.del=[]):=λ⟨h1,h2,h3,h4⟩=>⟨⟨by simp[h3],by simp[h3],by simp[h1],Q1W h2⟩,λ_=>⟨h2,h1⟩⟩
 by_cases ht:Q14 op=false
 ·exact calm (Q9h ht he).1
 have one:∀{x:Ent},e.new=[(n,x)]→e.cnt=1→e.set=[]→(∀x∈e.del,x<n)→e.fine n:=λh1 h2 h3 h4=>⟨by simp[h1,h2],by simp[h1],h4,Q1W h3⟩;cases op with
 |alloc t=>
  simp only[opF]at he;unfold alloc at he;split at he<;>simp only[qA,qC,reduceCtorEq]at he;obtain⟨_,rfl⟩:=he;exact⟨one rfl rfl rfl (by simp),λ_=>⟨rfl,rfl⟩⟩
 |box t x=>
  simp only[opF]at he;unfold boxv at he;split at he<;>simp only[qA,qC,reduceCtorEq]at he<;>(obtain⟨_,rfl⟩:=he;exact⟨one rfl rfl rfl (by simp),λ_=>⟨rfl,rfl⟩⟩)
 |buildSlice t len parts=>
  simp only[opF]at he;split at he
  ·unfold buildSlice at he;split at he
   ·split at he
    ·split at he
     ·simp only[qA,qC]at he;obtain⟨_,rfl⟩:=he;exact⟨one rfl rfl rfl (by simp),λ_=>⟨rfl,rfl⟩⟩
     cases he
    cases he
   cases he
  cases he
 |load t x=>
  simp only[opF]at he;unfold Q1X at he;split at he
  ·split at he
   ·simp only[qA,qC]at he;obtain⟨_,rfl⟩:=he;exact⟨⟨by simp,by simp,by simp,Q1W rfl⟩,λ_=>⟨rfl,rfl⟩⟩
   ·split at he
    ·rename_i sz es _;simp only[qA,qC]at he;obtain⟨_,rfl⟩:=he;refine⟨⟨λp hp=>?_,(Q6I _ _ _ _ _).2,by simp,Q1W rfl⟩,λ_=>⟨rfl,rfl⟩⟩;have:=(Q6I _ _ _ _ _).1 p hp;refine⟨this.1,qN this.2 (Nat.add_le_add_left ?_ _)⟩;rw[zD];exact Nat.min_le_left _ _
    cases he
   cases he
  ·simp only[qA,qC]at he;obtain⟨_,rfl⟩:=he;exact⟨⟨by simp,by simp,by simp,Q1W rfl⟩,λ_=>⟨rfl,rfl⟩⟩
  cases he
 |store t x y=>
  simp only[opF]at he;unfold Q3w at he;have st:∀{p:Nat×Ent},p.1<n→e={v:=AV.bot,set:=[p]}→e.fine n∧(Q1f (.store t x y)=false→e.set=[]∧e.del=[]):=by
   rintro p hp rfl;exact⟨⟨by simp,by simp,by simp,Q9m rfl hp⟩,λh=>by simp[Q1f]at h⟩
  split at he
  ·split at he
   ·rename_i hent;split at he
    ·simp only[qA,qC]at he;exact st (hlt _ _ hent) he.2.symm
    cases he
   ·split at he
    ·split at he
     ·split at he
      ·split at he
       ·rename_i s hw;simp only[qA,qC]at he;obtain⟨p,hp,hp2⟩:=wr_one hlt _ _ _ _ hw;exact st hp2 (by rw[←he.2,hp])
       cases he
      cases he
     cases he
    cases he
   cases he
  cases he
 |indexAddr t x i=>
  simp only[opF]at he;split at he
  ·unfold QY at he;split at he
   ·split at he
    ·split at he
     ·simp only[qA,qC]at he;obtain⟨_,rfl⟩:=he;exact calm ⟨rfl,rfl,rfl,rfl⟩
     cases he
    cases he
   ·split at he
    ·simp only[qA,qC]at he;obtain⟨_,rfl⟩:=he;exact calm ⟨rfl,rfl,rfl,rfl⟩
    cases he
   cases he
  cases he
 |makeSlice t l c=>
  simp only[opF]at he;split at he
  ·unfold Q5g at he;split at he
   ·split at he
    ·simp only[qA,qC]at he;obtain⟨_,rfl⟩:=he;exact⟨one rfl rfl rfl (by simp),λ_=>⟨rfl,rfl⟩⟩
    cases he
   cases he
  cases he
 |slice t x lo hi mx=>
  cases mx with
  |some m=>cases he
  |none=>
   have go:∀{ty:Tyi} {x:AV} {l r:Int},Q1E ty h x l r=some (c,e)→e.calm:=by
    intro ty x l r hg;unfold Q1E at hg;split at hg
    ·split at hg
     ·split at hg
      ·simp only[qA,qC]at hg;obtain⟨_,rfl⟩:=hg;exact⟨rfl,rfl,rfl,rfl⟩
      cases hg
     cases hg
    ·split at hg
     ·simp only[qA,qC]at hg;obtain⟨_,rfl⟩:=hg;exact⟨rfl,rfl,rfl,rfl⟩
     cases hg
    cases hg
   simp only[opF]at he;split at he
   ·unfold Q46 at he;split at he<;>first|exact calm (go he)|cases he
   cases he
 |call cl=>
  obtain⟨ce,args,ts⟩:=cl;simp only[opF]at he;unfold bltF at he;split at he
  ·split at he
   ·unfold lenv at he;split at he<;>simp only[qA,qC,reduceCtorEq]at he<;>(obtain⟨_,rfl⟩:=he;exact calm ⟨rfl,rfl,rfl,rfl⟩)
   cases he
  ·split at he
   ·split at he
    ·unfold Q30 at he;split at he
     ·split at he
      ·rename_i h1 h2;split at he
       ·simp only[qA,qC]at he;obtain⟨_,rfl⟩:=he;exact⟨one rfl rfl rfl (hdel _ _ _ _ _ _ _ h1 h2),λh=>by simp[Q1f]at h⟩
       cases he
      cases he
     cases he
    cases he
   cases he
  ·simp[Q14]at ht
  ·simp[Q14]at ht
  cases he
 |convert s d x=>
  simp only[opF]at he;unfold Q6P at he;split at he<;>simp only[qA,qC,reduceCtorEq]at he;obtain⟨_,rfl⟩:=he;exact calm ⟨rfl,rfl,rfl,rfl⟩
 |_=>first|(simp[Q14]at ht;done)|(cases he;done)
theorem TRel.anyR{w:World}{R R':Nat→Prop}{o:Nat→Option (List Nat)}{L:List Nat}{v:Value}{a:AV}(h:TRel w R o L v a):TRel w R' o L v a:=h.mono (R':=R') L λ_ _ hb=>⟨hb,rfl⟩
def noρ:Nat→Option Bk:=λ_=>none
def flat:AV→List AV
 | .tup vs=>vs.flatMap AV.cells
 |a=>a.cells
def Q2O:Value→List Value
 | .tuple vs=>vs.toList.flatMap λv=>v.cells.toList
 |v=>v.cells.toList
def Sh1(v:Value)(a:AV):Prop:=
 match a with
 | .agg az=>∃cs:Array Value,v= .agg cs∧cs.size=az.length
 | .tup _=>False
 |_=>one v
def Sh(v:Value)(a:AV):Prop:=
 match a with
 | .tup az=>∃vs:Array Value,v= .tuple vs∧vs.size=az.length∧∀k,k<az.length→Sh1 (vs.getD k undef) (az.getD k .bot)
 |a=>Sh1 v a
structure Res(w:World)(o:Nat→Option (List Nat))(v:Value)(a:AV):Prop where
 sh:Sh v a
 cell:∀k,k<(flat a).length→TRel w (λ_=>False) o [k] ((Q2O v).getD k undef) ((flat a).getD k .bot)
structure Contract(P:Program)(f:Nat)(args:List AV)(res:AV):Prop where
 enters:∃fn,P.funcs[f]? =some fn∧(fn.name=="runtime.NumGoroutine")=false∧fn.body.isSome=true
 calls:∀(w:World) (R:Nat→Prop) (vals:Array Value),(∀b,R b→b<w.heap.size)→vals.size=args.length→(∀k,k<args.length→XRel w R noρ (vals.getD k undef) (args.getD k .bot))→
  Callz P f vals w λe w'=>∃v o,e= .returned v∧Blw w.heap.size w w'∧(∀b L,o b=some L→w.heap.size≤b∧b<w'.heap.size)∧Res w' o v res
inductive PurTo(h:HP):AV→AV→Prop
 |val {v}:PurTo h (.val v) (.val v)
 |nil {u sz}:PurTo h (.val (.slice none 0 0)) (.lst u sz [])
 |lst {u u' sz es}:PurTo h (.lst u sz es) (.lst u' sz es)
 |rptr {cs}:PurTo h (.rptr cs) (.rptr cs)
 |pre {cs ds}:PurTo h (.rptr (cs++ds)) (.rptr cs)
 |mp {id kd es}:h id=some (.mapE kd es)→(hk:∀x,kd≠.ext x:=by intro x h;cases h)→PurTo h (.mp id) (.cmap kd es)
 |cmap {kd es}:PurTo h (.cmap kd es) (.cmap kd es)
 |cmapM {kd kd2 ks}:PurTo h (.cmapM kd kd2 ks) (.cmapM kd kd2 ks)
 |mpG {id kd kd2 ks}:h id=some (.mapE (.ext (XMapG kd kd2 (gown ks))) [])→PurTo h (.mp id) (.cmapM kd kd2 ks)
 |row {id off n u sz es fs}:cont h depth id=some (sz,es)→Qm (h id)=false→off+n≤es.length→fs=(es.drop off).take n→PurTo h (.own id off n) (.lst u sz fs)
 | mix {id off n u sz es fs}:h id=some (.mix sz es)→off+n≤es.length→fs.length=n→(∀ i,i<n→(fs.getD i []).length=sz) →
   (∀i k,i<n→k<sz→PurTo h ((es.getD (off+i) []).getD k .bot) ((fs.getD i []).getD k .bot))→PurTo h (.own id off n) (.lst u sz fs)
 |adr {id i k sz es cs}:h id=some (.mix sz es)→i<es.length→k+cs.length≤sz→(∀j,j<cs.length→PurTo h ((es.getD i []).getD (k+j) .bot) (cs.getD j .bot))→PurTo h (.adr id i k) (.rptr cs)
 |adrRow {id i k sz es cs}:cont h depth id=some (sz,es)→Qm (h id)=false→i<es.length→k+cs.length≤sz→cs=((es.getD i []).drop k).take cs.length→PurTo h (.adr id i k) (.rptr cs)
 |agg {az bs}:az.length=bs.length→(∀k,k<az.length→PurTo h (az.getD k .bot) (bs.getD k .bot))→PurTo h (.agg az) (.agg bs)
 |fn {f az bs}:az.length=bs.length→(∀k,k<az.length→∀cs,bs.getD k .bot≠.agg cs)→(∀k,k<az.length→PurTo h (az.getD k .bot) (bs.getD k .bot))→PurTo h (.fn f az) (.fn f bs)
 |bnd {f az bs}:az.length=bs.length→(∀k,k<az.length→∀cs,bs.getD k .bot≠.agg cs)→(∀k,k<az.length→PurTo h (az.getD k .bot) (bs.getD k .bot))→PurTo h (.bnd f az) (.bnd f bs)
 |ifc {t az bs}:az.length=bs.length→(∀k,k<az.length→∀cs,bs.getD k .bot≠.agg cs)→(∀k,k<az.length→PurTo h (az.getD k .bot) (bs.getD k .bot))→PurTo h (.ifc t az) (.ifc t bs)
 |ifs {t sz es}:PurTo h (.ifs t sz es) (.ifs t sz es)
def RAll(g:Gh):Nat→Prop:=λb=>g.R b∨∃L,g.o b=some L
theorem Q5Z{w:World}{g:Gh}{h:HP}(H:HRel w g h){a b:AV}(hp:PurTo h a b):∀{v:Value},XRel w g.R g.ρ v a→(XRel w (RAll g) noρ v b∧((∀az,b≠.agg az)→RRel w (RAll g) v b)):=by
 have hR:∀b,g.R b→RAll g b∧w.heap[b]? =w.heap[b]?:=λb hb=>⟨.inl hb,rfl⟩;have r:∀{v b},RRel w (RAll g) v b→XRel w (RAll g) noρ v b∧((∀az,b≠.agg az)→RRel w (RAll g) v b):=λh=>⟨.r h,λ_=>h⟩
 induction hp with
 |val=>intro v hx;cases hx with|r hx=>exact r (hx.mono hR)
 |nil=>intro v hx;obtain⟨rfl,_⟩:=hx.val_eq;exact r (.nil (by decide))
 |lst=>intro v hx;exact r ((hx.lst_eq.flag).mono hR)
 |rptr=>intro v hx;cases hx with|r hx=>exact r (hx.mono hR)
 |cmap=>intro v hx;cases hx with|r hx=>exact r (hx.mono hR)
 |cmapM=>intro v hx;cases hx with|r hx=>exact r (hx.mono hR)
 |@mpG id kd kd2 ks he=>
  intro v hx;cases hx with
  |r hx=>cases hx
  |mp hb=>
   rcases H.map _ _ _ _ he hb with⟨x,hx,hp⟩|⟨h1,_⟩
   ·cases hx;obtain⟨b,ents,clk,e1,e2,e3,_,e4,e5,e6,e7,e8⟩:=hp;simp only[Bk.mk.injEq,qA,and_true]at e1;subst e1;refine r (.cmapM (.inr ⟨_,ownl_iff.1 e2⟩) e3 (by rw[e4];simp[gown,Function.comp_def]) (by simpa[gown,Function.comp_def]using e5) (by simpa[gown]using e6) (λp hp=>e7 (p.1,.own p.2) (List.mem_map.2 ⟨p,hp,rfl⟩)) λj kv es en g1 g2=>?_);obtain⟨b2,q1,q2,q3,q4⟩:=e8 j kv (.own es) en (by simp[gown,g1]) g2;rw[q1];exact .cmap (.inr ⟨_,ownl_iff.1 q2⟩) q3 q4
   exact absurd rfl (h1 _)
 |mp he hk=>
  intro v hx;cases hx with
  |r hx=>cases hx
  |mp hb=>
   obtain⟨b,h1,h2,h3,h4⟩:=(H.map _ _ _ _ he hb).plain hk;simp only[Bk.mk.injEq,qA,and_true]at h1;subst h1;exact r (.cmap (.inr ⟨_,h2⟩) h3 h4)
 |@pre cs ds=>
  intro v hx;cases hx with
  |r hx=>
   refine r ?_;cases hx with
   |rptr us h1 h2 h3 h4 h5=>
    refine(RRel.rptr us h1 h2 (λk hk=>h3 k (by rw[qD];omega)) (λk hk=>h4 k (by rw[qD];omega)) λk hk=>?_).mono hR;have:=h5 k (by rw[qD];omega)
    rwa[qB,qO hk,←qB]at this
 |@row id off n u sz es fs hc hm hle hfs=>
  intro v hx;subst hfs;have hpl:=Q3K es off n hle;rcases hx.own_eq with⟨s0,c0,hb,rfl,rfl,rfl⟩|⟨b,bsz,cap,cc,x0,hb,rfl,h5,h6,h7,h8,h9⟩
  ·have hnil:((es.drop 0).take 0)=[]:=(by simp);rw[hnil];exact r (.nil (by decide))
  by_cases hn:n=0
  ·subst hn;rw[List.take_zero];exact r (.nil (by omega))
  obtain⟨hbs,v0,r0,M0,_,_,ht,hhd⟩:=Q2A H _ _ _ _ _ hc hm hb;simp only at hbs;subst hbs;have hne:es≠[]:=by rintro rfl;simp at hle;omega
  have hhd:=hhd.resolve_right hne;cases ht with
  |nil=>exact absurd rfl hne
  |@own _ _ _ b2 cap2 cur el us hob hh g1 g2 g3 g4 g5 g6 g7=>
   cases hhd;have:=RRel.lst (w:=w) (R:=RAll g) (u:=u) (sz:=bsz) (es:=(es.drop off).take n) (b:=b) (x:=x0) (cap:=cc) (cur:=cur) (e:=el) (fr:=(0,0)) (λi k=>us (off+i) k) (.inr ⟨_,hob⟩) hh (by rw[hpl];omega) (by omega)
    (λi hi=>by rw[hpl]at hi;rw[Q2G _ _ _ _ hi];exact g4 _ (by omega))
    (λi k hi hk=>by
     rw[hpl]at hi;have:=g5 (off+i) k (by omega) hk;rw[h7 (by omega),←qT];exact this)
    (λi k hi hk=>by rw[hpl]at hi;exact g6 _ _ (by omega) hk)
    (λi k hi hk=>by
     rw[hpl]at hi;rw[Q2G _ _ _ _ hi];exact(g7 (off+i) k (by omega) hk).pure λb hb=>hb)
   rw[hpl]at this;exact r this
 |@mix id off n u sz es fs he hle hfl hfs _ ih=>
  intro v hx;rcases hx.own_eq with⟨s0,c0,hb,rfl,rfl,rfl⟩|⟨b,bsz,cap,cc,x0,hb,rfl,h5,h6,h7,h8,h9⟩
  ·have hnil:fs=[]:=qQ hfl;subst hnil;exact r (.nil (by decide))
  obtain⟨b',cur,el,us,cpm,hbk,ho',hh,hsz,hcp,hml,hl,hcur,h1,hxr⟩:=(H.mix id sz es _ he hb).ex (by simp);simp only[Bk.mk.injEq,qA]at hbk;obtain⟨rfl,rfl,_⟩:=hbk
  by_cases hn:n=0
  ·subst hn;have hnil:fs=[]:=qQ hfl;subst hnil;exact r (.nil (by omega))
  have:=RRel.lst (w:=w) (R:=RAll g) (u:=u) (sz:=bsz) (es:=fs) (b:=b) (x:=x0) (cap:=cc) (cur:=cur) (e:=el) (fr:=(0,0)) (λi k=>us (off+i) k) (.inr ⟨_,ho'⟩) hh (by omega) (by omega)
   (λi hi=>hfs i (by omega))
   (λi k hi hk=>by
    have:=hcur (off+i) k (by omega) hk;rw[h7 (by omega),←qT];exact this)
   (λi k hi hk=>h1 _ _ (by omega) hk)
   (λi k hi hk=>by
    have hcell:=hxr (off+i) k (by omega) hk;refine(ih i k (by omega) hk hcell).2 λaz has=>?_;have h11:=h1 (off+i) k (by omega) hk;have h2:=(ih i k (by omega) hk hcell).1;rw[has]at h2;obtain⟨cs,hcs,_⟩:=h2.agg_eq;rw[hcs]at h11;simp[one,Value.oneCell']at h11)
  rw[hfl]at this;exact r this
 |@adr id i k sz es cs he hi hk _ ih=>
  intro v hx;obtain⟨b,bsz,cap,hb,rfl⟩:=hx.adr_eq;obtain⟨b',cur,el,us,cpm,hbk,ho',hh,hsz,hcp,hml,hl,hcur,h1,hxr⟩:=(H.mix id sz es _ he hb).ex (by simp);simp only[Bk.mk.injEq,qA]at hbk;obtain⟨rfl,rfl,_⟩:=hbk;refine r (.rptr (λj=>us i (k+j)) (.inr ⟨_,ho'⟩) hh (λj hj=>?_) (λj hj=>h1 i _ hi (by omega)) λj hj=>?_)
  ·rw[qL];exact hcur i (k+j) hi (by omega)
  have hcell:=hxr i (k+j) hi (by omega);refine(ih j hj hcell).2 λaz has=>?_;have h11:=h1 i (k+j) hi (by omega);have h2:=(ih j hj hcell).1;rw[has]at h2;obtain⟨cs,hcs,_⟩:=h2.agg_eq;rw[hcs]at h11;simp[one,Value.oneCell']at h11
 |@adrRow id i k sz es cs hc hm hi hk hcs=>
  intro v hx;obtain⟨b,bsz,cap,hb,rfl⟩:=hx.adr_eq;obtain⟨hbs,v0,r0,M0,_,_,ht,hhd⟩:=Q2A H _ _ _ _ _ hc hm hb;simp only at hbs;subst hbs;have hne:es≠[]:=by rintro rfl;simp at hi
  have hhd:=hhd.resolve_right hne;cases ht with
  |nil=>exact absurd rfl hne
  |@own _ _ _ b2 cap2 cur el us hob hh g1 g2 g3 g4 g5 g6 g7=>
   cases hhd;refine r (.rptr (λj=>us i (k+j)) (.inr ⟨_,hob⟩) hh (λj hj=>?_) (λj hj=>g6 i _ hi (by omega)) λj hj=>?_)
   ·rw[qL];exact g5 i (k+j) hi (by omega)
   have hg:=(g7 i (k+j) hi (by omega)).pure (R':=RAll g) λb hb=>hb;have:cs.getD j .bot=(es.getD i []).getD (k+j) .bot:=by
    rw[hcs];simp[qB,qR,qX,hj]
   rw[this];exact hg
 |@agg az bs hl _ ih=>
  intro v hx;obtain⟨cs,rfl,h1,h2,h3⟩:=hx.agg_eq;exact⟨.agg (by omega) (λk hk=>h2 k (by omega)) λk hk=>(ih k (by omega) (h3 k (by omega))).1,λhne=>absurd rfl (hne bs)⟩
 |@fn f az bs hl hna _ ih=>
  intro v hx;obtain⟨cs,rfl,h1,h3⟩:=hx.fn_eq;exact r (.fn (by omega) λk hk=>(ih k (by omega) (h3 k (by omega))).2 (hna k (by omega)))
 |@bnd f az bs hl hna _ ih=>
  intro v hx;obtain⟨cs,rfl,h1,h3⟩:=hx.bnd_eq;exact r (.bnd (by omega) λk hk=>(ih k (by omega) (h3 k (by omega))).2 (hna k (by omega)))
 |ifs=>intro v hx;cases hx with|r hx=>exact r (hx.mono hR)
 |@ifc t az bs hl hna _ ih=>
  intro v hx;obtain⟨cs,rfl,h1,_,h3⟩:=hx.ifc_eq;exact r (.ifc (by omega) λk hk=>(ih k (by omega) (h3 k (by omega))).2 (hna k (by omega)))
def unC(n m:Nat):List AV→List AV
 |[]=>[]
 | .lst true _ es::r=>.own (n+m) 0 es.length::unC n (m+1) r
 |a::r=>a::unC n (m+1) r
def unE(n m:Nat):List AV→List (Nat×Ent)
 |[]=>[]
 | .lst true sz es::r=>(n+m,.row sz es)::unE n (m+1) r
 |_::r=>unE n (m+1) r
def unT(n m:Nat):List AV→List AV
 |[]=>[]
 | .agg cs::r=>.agg (unC n m cs)::unT n (m+cs.length) r
 | .lst true _ es::r=>.own (n+m) 0 es.length::unT n (m+1) r
 |a::r=>a::unT n (m+1) r
def unA(n:Nat):AV→AV
 | .tup vs=>.tup (unT n 0 vs)
 | .agg cs=>.agg (unC n 0 cs)
 | .lst true _ es=>.own n 0 es.length
 |a=>a
def unk(n:Nat)(res:AV):Eff:={v:=unA n res,new:=unE n 0 (flat res),cnt:=(flat res).length}
theorem Q8K(n:Nat):∀(az:List AV) (m:Nat) (p:Nat×Ent),p∈unE n m az↔∃k sz es,k<az.length∧az.getD k .bot= .lst true sz es∧p=(n+(m+k),.row sz es):=by
 intro az
 induction az with
 |nil=>intro m p;simp[unE]
 |cons a az ih=>
  intro m p;have shift:(∃k sz es,k<(a::az).length∧(a::az).getD k .bot= .lst true sz es∧p=(n+(m+k),Ent.row sz es))↔
    (∃sz es,a= .lst true sz es∧p=(n+m,Ent.row sz es))∨(∃k sz es,k<az.length∧az.getD k .bot= .lst true sz es∧p=(n+(m+1+k),Ent.row sz es)):=by
   constructor
   ·rintro ⟨k,sz,es,h1,h2,h3⟩
    cases k with
    |zero=>exact .inl ⟨sz,es,by simpa using h2,by simpa using h3⟩
    |succ k=>exact .inr ⟨k,sz,es,by simpa using h1,by simpa using h2,by rw[h3];congr 1;omega⟩
   rintro (⟨sz,es,h1,h2⟩|⟨k,sz,es,h1,h2,h3⟩)
   ·exact⟨0,sz,es,by simp,by simpa using h1,by simpa using h2⟩
   exact⟨k+1,sz,es,by simpa using h1,by simpa using h2,by rw[h3];congr 1;omega⟩
  rw[shift,←ih (m+1) p];cases a with
  |lst u sz es=>
   cases u with
   |true=>
    simp only[unE,List.mem_cons];constructor
    ·rintro (h|h)
     ·exact .inl ⟨sz,es,rfl,h⟩
     exact .inr h
    rintro (⟨_,_,h,h'⟩|h)
    ·cases h;exact .inl h'
    exact .inr h
   |false=>simp[unE]
  |_=>simp[unE]
theorem unE_fine(n:Nat):∀(az:List AV) (m:Nat),((unE n m az).map qE).Nodup:=by
 intro az
 induction az with
 |nil=>intro m;simp[unE]
 |cons a az ih=>
  intro m;cases a with
  |lst u sz es=>
   cases u with
   |false=>simpa[unE]using ih (m+1)
   |true=>
    simp only[unE,qP,zE];refine⟨λhp=>?_,ih (m+1)⟩;obtain⟨p,hp,hpe⟩:=List.mem_map.1 hp;obtain⟨k,sz',es',_,_,rfl⟩:=(Q8K n az (m+1) p).1 hp;simp only at hpe;omega
  |_=>simpa[unE]using ih (m+1)
theorem Q9o(n:Nat)(res:AV):(unk n res).fine n:=by
 refine⟨λp hp=>?_,unE_fine n _ 0,by simp[unk],Q1W rfl⟩;obtain⟨k,sz,es,h1,_,rfl⟩:=(Q8K n _ 0 p).1 hp;simp only[unk];omega
def Q7F(u:Value)(sz:Nat):Bk:=
 match u with
 | .slice (some ad) _ cap=>⟨some ad.block,sz,cap⟩
 |_=>⟨none,sz,0⟩
def ρun(n:Nat)(us:Nat→Value)(az:List AV)(ρ:Nat→Option Bk):Nat→Option Bk:=λid=>
 if n≤id∧id<n+az.length then
  match az.getD (id - n) .bot with
  | .lst true sz _=>some (Q7F (us (id - n)) sz)
  |_=>none
 else ρ id
def oun(n size:Nat)(o o1:Nat→Option (List Nat)):Nat→Option (List Nat):=λb=>
 if b<size then o b else match o1 b with
  |some (m::M)=>some ((n+m)::M)
  |_=>none
section
variable {w':World}{o1:Nat→Option (List Nat)}{R:Nat→Prop}{ρ:Nat→Option Bk}{n:Nat}
def Q6J(j:Nat):AV→AV
 | .lst true _ es=>.own j 0 es.length
 |a=>a
theorem un_cell{k:Nat}{u:Value}{a:AV}{ρ':Nat→Option Bk}(ht:TRel w' (λ_=>False) o1 [k] u a)(hρ:∀sz es,a= .lst true sz es→ρ' (n+k)=some (Q7F u sz)):
  XRel w' R ρ' u (Q6J (n+k) a):=by
 cases ht with
 |val h=>exact .r (.val h)
 |bot h=>exact .bot
 |@nil _ u0 sz=>
  cases u0 with
  |false=>exact .r (.nil (by decide))
  |true=>exact .own0 (hρ sz [] rfl)
 |@own _ sz es b cap cur e us h1 h2 h3 h4 h5=>exact .own (hρ sz es rfl) (zA (qU _)) h4 (by simp) (by simp) h5
theorem Q58(n:Nat):∀(az:List AV) (m:Nat),(unC n m az).length=az.length:=by
 intro az
 induction az with
 |nil=>intro m;rfl
 |cons a az ih=>
  intro m;cases a with
  |lst u sz es=>cases u<;>simp[unC,ih]
  |_=>simp[unC,ih]
theorem unC_getD(n:Nat):∀(az:List AV) (m k:Nat),k<az.length→(unC n m az).getD k .bot=Q6J (n+(m+k)) (az.getD k .bot):=by
 intro az
 induction az with
 |nil=>intro m k hk;simp at hk
 |cons a az ih=>
  intro m k hk;cases k with
  |zero=>
   cases a with
   |lst u sz es=>cases u<;>simp[unC,Q6J]
   |_=>simp[unC,Q6J]
  |succ k=>
   have:=ih (m+1) k (by simpa using hk);rw[show m+1+k=m+(k+1) by omega]at this;cases a with
   |lst u sz es=>cases u<;>simpa[unC]using this
   |_=>simpa[unC]using this
theorem un_agg{m:Nat}{cs:Array Value}{az:List AV}{ρ':Nat→Option Bk}(hl:cs.size=az.length)(ht:∀k,k<az.length→TRel w' (λ_=>False) o1 [m+k] (cs.getD k undef) (az.getD k .bot))(hρ:∀k sz es,k<az.length→az.getD k .bot= .lst true sz es→ρ' (n+(m+k))=some (Q7F (cs.getD k undef) sz)):XRel w' R ρ' (.agg cs) (.agg (unC n m az)):=by
 refine .agg (by rw[Q58];exact hl) (λk hk=>?_) (λk hk=>?_)
 ·rw[Q58]at hk;exact(ht k hk).one
 rw[Q58]at hk;rw[unC_getD _ _ _ _ hk];exact un_cell (ht k hk) λsz es he=>hρ k sz es hk he
def unT1(n m:Nat):AV→AV
 | .agg cs=>.agg (unC n m cs)
 | .lst true _ es=>.own (n+m) 0 es.length
 |a=>a
theorem unT_cons(n m:Nat)(a:AV)(r:List AV)(h:∀vs,a≠.tup vs):unT n m (a::r)=unT1 n m a::unT n (m+a.cells.length) r:=by
 cases a with
 |lst u sz es=>cases u<;>simp[unT,unT1,AV.cells]
 |tup vs=>exact absurd rfl (h vs)
 |_=>simp[unT,unT1,AV.cells]
theorem un_part{m:Nat}{v:Value}{a:AV}{ρ':Nat→Option Bk}(hs:Sh1 v a)(ht:∀k,k<a.cells.length→TRel w' (λ_=>False) o1 [m+k] (v.cells.toList.getD k undef) (a.cells.getD k .bot))(hρ:∀k sz es,k<a.cells.length→a.cells.getD k .bot= .lst true sz es→ρ' (n+(m+k))=some (Q7F (v.cells.toList.getD k undef) sz)):XRel w' R ρ' v (unT1 n m a):=by
 have single:one v→(∀cs,a≠.agg cs)→(∀cs,a≠.tup cs)→XRel w' R ρ' v (unT1 n m a):=by
  intro h1 hna hnt;have hc:v.cells.toList=[v]:=by revert h1;unfold one Value.oneCell';cases v<;>simp[Value.cells]
  have ha:a.cells=[a]:=by cases a<;>first|rfl|exact absurd rfl (hna _)
  have h0:=ht 0 (by rw[ha];simp);rw[hc,ha]at h0;simp only[zC,qV]at h0;have hr0:∀sz es,a= .lst true sz es→ρ' (n+m)=some (Q7F v sz):=by
   intro sz es he;have:=hρ 0 sz es (by rw[ha];simp) (by rw[ha];simpa using he);rw[hc]at this;simpa using this
  have:=un_cell (R:=R) (n:=n) h0 hr0;cases a with
  |agg cs=>exact absurd rfl (hna cs)
  |lst u sz es=>cases u<;>simpa[unT1,Q6J]using this
  |_=>simpa[unT1,Q6J]using this
 cases a with
 |agg az=>
  obtain⟨cs,rfl,hl⟩:=hs;exact un_agg hl (λk hk=>by have:=ht k hk;simpa[Value.cells,AV.cells]using this) (λk sz es hk he=>by have:=hρ k sz es hk he;simpa[Value.cells]using this)
 |tup az=>exact hs.elim
 |_=>exact single hs (by intro cs h;cases h) (by intro cs h;cases h)
theorem un_tup(ρ':Nat→Option Bk):∀(az:List AV) (vs:List Value) (m:Nat),vs.length=az.length→(∀k,k<az.length→Sh1 (vs.getD k undef) (az.getD k .bot))→
  (∀k,k<(az.flatMap AV.cells).length→TRel w' (λ_=>False) o1 [m+k] ((vs.flatMap λv=>v.cells.toList).getD k undef) ((az.flatMap AV.cells).getD k .bot))→
  (∀k sz es,k<(az.flatMap AV.cells).length→(az.flatMap AV.cells).getD k .bot= .lst true sz es→ρ' (n+(m+k))=some (Q7F ((vs.flatMap λv=>v.cells.toList).getD k undef) sz))→
  (unT n m az).length=az.length∧∀k,k<az.length→XRel w' R ρ' (vs.getD k undef) ((unT n m az).getD k .bot):=by
 intro az
 induction az with
 |nil=>intro vs m _ _ _ _;exact⟨rfl,λk hk=>by simp at hk⟩
 |cons a az ih=>
  intro vs m hl hs ht hρ;cases vs with
  |nil=>simp at hl
  |cons v vs=>
   have hs0:=hs 0 (by simp);simp only[qV]at hs0;have hcl:v.cells.toList.length=a.cells.length:=by
    cases a with
    |agg as2=>obtain⟨cs,rfl,h2⟩:=hs0;simpa[Value.cells,AV.cells]using h2
    |tup as2=>exact hs0.elim
    |_=>
     have h1:one v:=hs0
     revert h1;unfold one Value.oneCell';cases v<;>simp[Value.cells,AV.cells]
   have hnt:∀vs2,a≠.tup vs2:=(by rintro vs2 rfl;exact hs0.elim);rw[unT_cons n m a az hnt];have left:∀k,k<a.cells.length→((v::vs).flatMap λv=>v.cells.toList).getD k undef=v.cells.toList.getD k undef∧((a::az).flatMap AV.cells).getD k .bot=a.cells.getD k .bot:=by
    intro k hk;simp only[List.flatMap_cons,qB];rw[qO (by omega),qO (by omega)];exact⟨rfl,rfl⟩
   have right:∀k,((v::vs).flatMap λv=>v.cells.toList).getD (a.cells.length+k) undef=(vs.flatMap λv=>v.cells.toList).getD k undef∧((a::az).flatMap AV.cells).getD (a.cells.length+k) .bot=(az.flatMap AV.cells).getD k .bot:=by
    intro k;simp only[List.flatMap_cons,qB];rw[qS (by omega),qS (by omega),hcl];simp
   have hlen:((a::az).flatMap AV.cells).length=a.cells.length+(az.flatMap AV.cells).length:=(by simp);have h0:=un_part (R:=R) (n:=n) (m:=m) (ρ':=ρ') hs0 (λk hk=>by have:=ht k (by omega);rwa[(left k hk).1,(left k hk).2]at this)
    (λk sz es hk he=>by have:=hρ k sz es (by omega) (by rw[(left k hk).2];exact he);rwa[(left k hk).1]at this)
   obtain⟨i1,i2⟩:=ih vs (m+a.cells.length) (by simpa using hl) (λk hk=>by have:=hs (k+1) (by simp;omega);simpa using this)
    (λk hk=>by
     have:=ht (a.cells.length+k) (by omega);rw[(right k).1,(right k).2]at this
     rwa[←qL]at this)
    (λk sz es hk he=>by
     have:=hρ (a.cells.length+k) sz es (by omega) (by rw[(right k).2];exact he);rw[(right k).1,←qL m]at this;exact this)
   refine⟨by simp[i1],λk hk=>?_⟩;cases k with
   |zero=>simpa using h0
   |succ k=>simpa using i2 k (by simpa using hk)
theorem un_res{v:Value}{res:AV}{ρ':Nat→Option Bk}(hr:Res w' o1 v res)(hρ:∀k sz es,k<(flat res).length→(flat res).getD k .bot= .lst true sz es→ρ' (n+k)=some (Q7F ((Q2O v).getD k undef) sz)):
   XRel w' R ρ' v (unA n res):=by
 obtain⟨hs,hc⟩:=hr;cases res with
 | tup az =>
   obtain⟨vs,rfl,hl,h1⟩:=hs;have:=un_tup (w':=w') (o1:=o1) (R:=R) (n:=n) ρ' az vs.toList 0 (by simpa using hl) (λk hk=>by have:=h1 k hk;simpa using this)
     (λk hk=>by have:=hc k hk;simpa[flat,Q2O]using this) (λk sz es hk he=>by have:=hρ k sz es hk he;simpa[Q2O]using this)
   exact .tup (by rw[this.1];exact hl) λk hk=>by
     rw[this.1]at hk;have:=this.2 k hk;simpa using this
 | agg az =>
   have hs':Sh1 v (.agg az):=hs;obtain⟨cs,rfl,hl⟩:=hs';exact un_agg (m:=0) hl (λk hk=>by have:=hc k hk;simpa[flat,Q2O,Value.cells,AV.cells]using this) (λk sz es hk he=>by have:=hρ k sz es hk he;simpa[Q2O,Value.cells]using this)
 | lst u sz es =>
   have hs':Sh1 v (.lst u sz es):=hs;have:=un_part (R:=R) (n:=n) (m:=0) (ρ':=ρ') hs' (λk hk=>by
       have:=hc k hk;have hf:Q2O v=v.cells.toList:=(by have h1:one v:=hs';revert h1;unfold one Value.oneCell';cases v<;>simp[Q2O]);rw[hf]at this;simpa[flat]using this) (λk sz' es' hk he=>by
       have:=hρ k sz' es' hk he;have hf:Q2O v=v.cells.toList:=(by have h1:one v:=hs';revert h1;unfold one Value.oneCell';cases v<;>simp[Q2O]);rw[hf]at this;simpa using this)
   cases u<;>simpa[unA,unT1]using this
 | _ =>
   have h0:=hc 0 (by simp[flat,AV.cells]);simp only[flat,AV.cells,qV]at h0;first
     | (have h1:one v:=hs
        have hf:(Q2O v).getD 0 undef=v:=(by revert h1;unfold one Value.oneCell';cases v<;>simp[Q2O,Value.cells]);rw[hf]at h0;cases h0<;>first|exact .r (.val (by assumption))|exact .bot)
     |(cases h0;done)
end
structure Mu where
 sz:Nat
 es:List (List AV)
 fs:List (List AV)
def Mu.none:Mu:=⟨0,[],[]⟩
def resV:AV→Option Value
 | .val v=>if scB v then some v else Option.none
 | .tup []=>some (.tuple #[])
 |_=>Option.none
theorem resV_rel{w:World}{R:Nat→Prop}{ρ:Nat→Option Bk}{res:AV}{rv:Value}(h:resV res=some rv):XRel w R ρ rv res:=by
 unfold resV at h;split at h
 ·split at h
  ·rename_i hs;cases h;exact .r (.val (Q6F hs))
  cases h
 ·cases h;exact .tup rfl λk hk=>by simp at hk
 cases h
structure MPre(w:World)(R:Nat→Prop)(o:Nat→Option (List Nat))(ρ:Nat→Option Bk)(ms:List Mu)(vals:Array Value)(args:List AV):Prop where
 hR:∀b,R b→b<w.heap.size∧o b=none
 ho:∀b L,o b=some L→b<w.heap.size
 ent:∀j bk,j<ms.length→ρ j=some bk→∃v,Hdr v bk (ms.getD j .none).sz∧TRel w R o [j] v (.lst true (ms.getD j .none).sz (ms.getD j .none).es)
 lim:∀j bk,ρ j=some bk→j<ms.length
 size:vals.size=args.length
 args:∀k,k<args.length→XRel w R ρ (vals.getD k undef) (args.getD k .bot)
structure MPost(w w':World)(R:Nat→Prop)(o:Nat→Option (List Nat))(ρ:Nat→Option Bk)(ms:List Mu):Prop where
 os:w'.os=w.os
 tape:w'.tape=w.tape∧w.drawn≤w'.drawn
 output:w'.output=w.output
 size:w.heap.size≤w'.heap.size
 keep:∀b,b<w.heap.size→o b=none→w'.heap[b]? =w.heap[b]?
 ex:∃o',(∀b L,o' b=some L→b<w'.heap.size∧(w.heap.size≤b∨∃L',o b=some L'))∧
  ∀j bk,j<ms.length→ρ j=some bk→∃v,Hdr v bk (ms.getD j .none).sz∧TRel w' R o' [j] v (.lst true (ms.getD j .none).sz (ms.getD j .none).fs)
structure MContract(P:Program)(f:Nat)(args:List AV)(ms:List Mu)(res:AV):Prop where
 enters:∃fn,P.funcs[f]? =some fn∧(fn.name=="runtime.NumGoroutine")=false∧fn.body.isSome=true
 len:∀j,j<ms.length→(ms.getD j .none).fs.length=(ms.getD j .none).es.length
 calls:∃rv,resV res=some rv∧∀(w:World) (R:Nat→Prop) (o:Nat→Option (List Nat)) (ρ:Nat→Option Bk) (vals:Array Value),MPre w R o ρ ms vals args→
  Callz P f vals w λe w'=>e= .returned rv∧MPost w w' R o ρ ms
inductive MArg(m:List Nat):AV→AV→Prop
 |val {v}:MArg m (.val v) (.val v)
 |nil {u sz}:MArg m (.val (.slice none 0 0)) (.lst u sz [])
 |lst {u u' sz es}:MArg m (.lst u sz es) (.lst u' sz es)
 |own {j off n}:j<m.length→MArg m (.own (m.getD j 0) off n) (.own j off n)
 |agg {az bs}:az.length=bs.length→(∀k,k<az.length→MArg m (az.getD k .bot) (bs.getD k .bot))→MArg m (.agg az) (.agg bs)
def ρc(m:List Nat)(ρ:Nat→Option Bk):Nat→Option Bk:=λj=>if j<m.length then ρ (m.getD j 0)else none
theorem MArg.rel{w:World}{R:Nat→Prop}{ρ:Nat→Option Bk}{m:List Nat}{a b:AV}(h:MArg m a b):∀{v:Value},XRel w R ρ v a→XRel w R (ρc m ρ) v b:=by
 induction h with
 |val=>intro v hx;cases hx with|r hx=>exact .r hx
 |nil=>intro v hx;obtain⟨rfl,_⟩:=hx.val_eq;exact .r (.nil (by decide))
 |lst=>intro v hx;exact .r hx.lst_eq.flag
 |@own j off n hj=>
  intro v hx;have e:∀k,ρ (m.getD j 0)=some k→ρc m ρ j=some k:=λk hk=>by simp only[ρc];rw[if_pos hj];exact hk
  rcases hx.own_eq with⟨s0,c0,hb,rfl,rfl,rfl⟩|⟨b,bsz,cap,cc,x0,hb,rfl,h5,h6,h7,h8,h9⟩
  ·exact .own0 (e _ hb)
  exact .own (e _ hb) h5 h6 h7 h8 h9
 |agg hl _ ih=>
  intro v hx;obtain⟨cs,rfl,h1,h2,h3⟩:=hx.agg_eq;exact .agg (by omega) (λk hk=>h2 k (by omega)) λk hk=>ih k (by omega) (h3 k (by omega))
inductive At(h:HP)(mu:Mu)(id:Nat):List Nat→Prop
 |root:h id=some (.row mu.sz mu.es)→At h mu id [id]
 |cell {r i k szr esr}:h id=some (.ali r i k mu.sz)→h r=some (.row szr esr)→i<esr.length→k<szr→(esr.getD i []).getD k .bot= .lst true mu.sz mu.es→At h mu id [r,i,k]
structure Turn(ms:List Mu)(P:Nat→List Nat)(r:Nat)(sz:Nat)(es fs:List (List AV)):Prop where
 whole:∀j,j<ms.length→P j=[r]→fs=(ms.getD j .none).fs
 len:fs.length=es.length
 row:(∀j,j<ms.length→P j≠[r])→∀i,i<es.length→(fs.getD i []).length=(es.getD i []).length
 hit:∀i k j,j<ms.length→P j=[r,i,k]→i<es.length→k<sz→(fs.getD i []).getD k .bot= .lst true (ms.getD j .none).sz (ms.getD j .none).fs
 miss:∀i k,i<es.length→k<sz→(∀j,j<ms.length→P j≠[r]∧P j≠[r,i,k])→(fs.getD i []).getD k .bot=(es.getD i []).getD k .bot
structure MCall(h:HP)(n:Nat)(ms:List Mu)(m:List Nat)(P:Nat→List Nat)(sets:List (Nat×Ent))(dels:List Nat):Prop where
 len:m.length=ms.length
 at_:∀j,j<ms.length→At h (ms.getD j .none) (m.getD j 0) (P j)
 apart:∀i j,i<ms.length→j<ms.length→i≠j→¬P i<+:P j
 nodup:(sets.map qE).Nodup
 hsets:∀r e,look r sets=some e→∃sz es fs,h r=some (.row sz es)∧e= .row sz fs∧Turn ms P r sz es fs
 all:∀j r M,j<ms.length→P j=r::M→(look r sets).isSome=true
 hdels:∀x∈dels,x<n
 alis:∀id c i k s,id<n→h id=some (.ali c i k s)→id∈dels∨∃d r,Vc.root h d c=some r∧look r sets=none
theorem Q7a{h:HP}:∀(d d' c r r':Nat),Vc.root h d c=some r→Vc.root h d' c=some r'→r=r':=by
 intro d
 induction d with
 |zero=>intro d' c r r' h1;cases h1
 |succ d ih=>
  intro d' c r r' h1 h2;cases d' with
  |zero=>cases h2
  |succ d'=>
   unfold Vc.root at h1 h2;cases he:h c with
   |none=>simp[he]at h1
   |some e=>
    cases e with
    |ali c2 i k s=>simp only[he]at h1 h2;exact ih d' c2 r r' h1 h2
    |mix=>simp only[he,qA]at h1 h2;rw[←h1,←h2]
    |row=>simp only[he,qA]at h1 h2;rw[←h1,←h2]
    |mapE=>simp only[he,qA]at h1 h2;rw[←h1,←h2]
theorem At.head{h:HP}{mu:Mu}{id:Nat}{L:List Nat}(ha:At h mu id L):∃r M,L=r::M∧∃sz es,h r=some (.row sz es):=by
 cases ha with
 |root h1=>exact⟨_,_,rfl,_,_,h1⟩
 |cell h1 h2=>exact⟨_,_,rfl,_,_,h2⟩
theorem At.shape{h:HP}{mu:Mu}{id:Nat}{L:List Nat}(ha:At h mu id L):(∃x,L=[x])∨∃r i k,L=[r,i,k]:=by
 cases ha with
 |root=>exact .inl ⟨_,rfl⟩
 |cell=>exact .inr ⟨_,_,_,rfl⟩
theorem At.rel{w:World}{g:Gh}{h:HP}(H:HRel w g h){mu:Mu}{id:Nat}{L:List Nat}(ha:At h mu id L){bk:Bk}(hb:g.ρ id=some bk):∃v,Hdr v bk mu.sz∧TRel w g.R g.o L v (.lst true mu.sz mu.es):=by
 cases ha with
 |root h1=>
  obtain⟨v,hv,hh⟩:=H.row _ _ _ _ h1 hb;exact⟨v,hh,hv⟩
 |@cell r i k szr esr h1 h2 h3 h4 h5=>
  obtain⟨q1,bkc,q2,q3⟩:=H.ali _ _ _ _ _ _ h1 hb;obtain⟨bc,cur,e,v,q4,q5,q6,q7⟩:=q3 1 szr esr (by simp[cont,h2]) (by rw[h2];rfl) h3 h4;obtain⟨v0,hv,hh⟩:=H.row _ _ _ _ h2 q2;cases hv with
  |nil=>simp at h3
  |own us hob hheap a1 a2 a3 a4 a5 a6 a7=>
   cases hh;cases q4;rw[q5]at hheap;obtain⟨rfl,rfl⟩:=by simpa using hheap
   have hu:us i k=v:=(by have:=a5 i k h3 h4;rw[q6]at this;simpa using this.symm);have ht:=a7 i k h3 h4;rw[hu,h5]at ht;exact⟨v,q7.resolve_right λhs=>ht.scn_lst hs,ht⟩
theorem hdr_eq{w w':World}{R R':Nat→Prop}{o o':Nat→Option (List Nat)}{L L':List Nat}{v v':Value}{bk:Bk}{sz:Nat}{u u':Bool}{es fs:List (List AV)}(h1:Hdr v bk sz)(h2:Hdr v' bk sz)(t1:TRel w R o L v (.lst u sz es))(t2:TRel w' R' o' L' v' (.lst u' sz fs))(hl:fs.length=es.length):v=v':=by
 cases h1 with
 |nil=>cases h2;rfl
 |own=>
  cases h2;cases t1;cases t2;rw[hl]
def Occ(id:Nat):AV→Prop
 | .own i _ _=>i=id
 | .agg cs=>∃l,l<cs.length∧∃off n,cs.getD l .bot= .own id off n
 |_=>False
theorem Occ.rel{w:World}{R:Nat→Prop}{ρ:Nat→Option Bk}{v:Value}{a:AV}{id:Nat}(ho:Occ id a)(hx:XRel w R ρ v a):∃bk,ρ id=some bk:=by
 have one:∀{u off n},XRel w R ρ u (.own id off n)→∃bk,ρ id=some bk:=by
  intro u off n hx;rcases hx.own_eq with⟨s0,c0,hb,_⟩|⟨b,bsz,cap,cc,x0,hb,_⟩
  ·exact⟨_,hb⟩
  exact⟨_,hb⟩
 unfold Occ at ho;split at ho
 ·subst ho;exact one hx
 ·obtain⟨l,hl,off,n,he⟩:=ho;obtain⟨cs,rfl,h1,h2,h3⟩:=hx.agg_eq;have:=h3 l hl;rw[he]at this;exact one this
 exact ho.elim
section
variable {P:Program}{C:Ctx}{a:Act}{w:World}{g:Gh}{h:HP}{n:Nat}{ev:Operand→AV}
theorem step_mut(hev:∀x,XRel w g.R g.ρ (a.eval x) (ev x))(W:WF C w g)(H:HRel w g h){o:Oper}{cl:Call}{x:Operand}{f:Nat}{caps args:List AV}{ms:List Mu}{res:AV}{m:List Nat}{Pt:Nat→List Nat}{sets:List (Nat×Ent)}{dels:List Nat}(hlim:∀id k,g.ρ id=some k→id<n)(ho:o.op= .call cl)(hc:cl.callee= .value x)(hx:ev x= .fn f caps)(hcon:MContract P f args ms res)(hM:MCall h n ms m Pt sets dels)(hal:(cl.args.toList.map ev++caps).length=args.length)(harg:∀k,k<args.length→MArg m ((cl.args.toList.map ev++caps).getD k .bot) (args.getD k .bot))(hcov:∀j,j<ms.length→∃k,k<args.length∧Occ (m.getD j 0) ((cl.args.toList.map ev++caps).getD k .bot)):
  StepR P C o a w g h n {v:=res,set:=sets,del:=dels}:=by
 intro K Q k;have hxx:=hev x;rw[hx]at hxx;obtain⟨cs,hxv,hcl,hcr⟩:=hxx.fn_eq;obtain⟨fn,e1,e2,e3⟩:=hcon.enters;have hrun:(execOp a.eval o).run P w= .ok (.enter f (cl.args.map a.eval++cs)) w:=by
  obtain⟨body,e3'⟩:=Option.isSome_iff_exists.1 e3;have e2':fn.name≠"runtime.NumGoroutine" :=by simpa using e2
  simp[execOp,ho,resolve,hc,hxv,Deferred.ofValue,invoke,callFunc,e1,e2',e3']
 have hvals:∀j,j<args.length→XRel w g.R g.ρ ((cl.args.map a.eval++cs).getD j undef) ((cl.args.toList.map ev++caps).getD j .bot):=by
  intro j hj
  by_cases hlt:j<cl.args.size
  ·have h1:(cl.args.map a.eval++cs).getD j undef=a.eval (cl.args[j]):=by
    simp[Array.getElem?_append,hlt]
   have h2:(cl.args.toList.map ev++caps).getD j .bot=ev (cl.args[j]):=by
    simp[qB,List.getElem?_append,hlt]
   rw[h1,h2];exact hev _
  have hjc:j - cl.args.size<caps.length:=by simp at hal;omega
  have h1:(cl.args.map a.eval++cs).getD j undef=cs.getD (j - cl.args.size) undef:=by
   simp[Array.getElem?_append,hlt]
  have h2:(cl.args.toList.map ev++caps).getD j .bot=caps.getD (j - cl.args.size) .bot:=by
   simp[qB,List.getElem?_append,hlt]
  rw[h1,h2];exact hcr _ hjc
 have hρ:∀j,j<ms.length→∃bk,g.ρ (m.getD j 0)=some bk∧ρc m g.ρ j=some bk:=by
  intro j hj;obtain⟨q,hq,hocc⟩:=hcov j hj;obtain⟨bk,hbk⟩:=hocc.rel (hvals q hq);exact⟨bk,hbk,by simp only[ρc];rw[if_pos (by rw[hM.len];exact hj)];exact hbk⟩
 let Qb:Nat→Nat→List Nat→Prop:=λb j M=>j<ms.length∧g.o b=some (Pt j++M)
 have huniq:∀b j M j' M',Qb b j M→Qb b j' M'→j=j'∧M=M':=by
  rintro b j M j' M' ⟨h1,h2⟩ ⟨h3,h4⟩
  rw[h2]at h4;have he:Pt j++M=Pt j'++M':=by simpa using h4
  have hj:j=j':=by
   rcases Classical.em (j=j')with hj|hj
   ·exact hj
   exfalso;rcases List.prefix_or_prefix_of_prefix (List.prefix_append (Pt j) M) (he▸List.prefix_append (Pt j') M')with h5|h5
   ·exact hM.apart j j' h1 h3 hj h5
   exact hM.apart j' j h3 h1 (Ne.symm hj) h5
  subst hj;exact⟨rfl,List.append_cancel_left he⟩
 let oc:Nat→Option (List Nat):=λb=>open Classical in if hq:∃p:Nat×List Nat,Qb b p.1 p.2 then some (hq.choose.1::hq.choose.2)else none
 have oc1:∀b j M,Qb b j M→oc b=some (j::M):=by
  intro b j M hq;have he:∃p:Nat×List Nat,Qb b p.1 p.2:=⟨(j,M),hq⟩;have hsp:=he.choose_spec;simp only[oc];rw[dif_pos he];obtain⟨h1,h2⟩:=huniq b _ _ _ _ hsp hq;rw[h1,h2]
 have oc2:∀b L,oc b=some L→∃j M,Qb b j M∧L=j::M:=by
  intro b L hL;simp only[oc]at hL;split at hL
  ·rename_i he;cases hL;exact⟨_,_,he.choose_spec,rfl⟩
  cases hL
 have oc3:∀b,oc b=none→∀j M,¬Qb b j M:=by
  intro b hb j M hq;rw[oc1 b j M hq]at hb;cases hb
 have hpre:MPre w g.R oc (ρc m g.ρ) ms (cl.args.map a.eval++cs) args:=by
  refine⟨λb hb=>⟨(W.R b hb).1,?_⟩,λb L hb=>?_,λj bk hj hb=>?_,λj bk hb=>?_,by simp at hal;simp;omega,λq hq=>(harg q hq).rel (hvals q hq)⟩
  ·cases hob:oc b with
   |none=>rfl
   |some L=>
    obtain⟨j,M,⟨_,h2⟩,_⟩:=oc2 b L hob;rw[(W.R b hb).2]at h2;cases h2
  ·obtain⟨j,M,⟨_,h2⟩,_⟩:=oc2 b L hb;exact(W.o b _ h2).1
  ·have hb':g.ρ (m.getD j 0)=some bk:=by
    simp only[ρc]at hb;rw[if_pos (by rw[hM.len];exact hj)]at hb;exact hb
   obtain⟨v,h1,h2⟩:=(hM.at_ j hj).rel H hb';exact⟨v,h1,h2.mono (R':=g.R) [j] λb M hbM=>⟨oc1 b j M ⟨hj,hbM⟩,rfl⟩⟩
  simp only[ρc]at hb;split at hb
  ·rw[←hM.len];assumption
  cases hb
 obtain⟨rv,hrv,hcalls⟩:=hcon.calls;unfold Oper.wpU;rw[hrun,Oper.uponU_enter];refine⟨rfl,?_⟩;refine(hcalls w g.R oc (ρc m g.ρ) _ hpre).mono λe w' ⟨he,hp⟩=>?_;subst he;obtain⟨o1,ho1,hent⟩:=hp.ex
 let o2:Nat→Option (List Nat):=λb=>match o1 b with
  |some (j::M)=>if j<ms.length then some (Pt j++M)else none
  |some []=>none
  |none=>if oc b=none then g.o b else none
 have o21:∀b j M,j<ms.length→o1 b=some (j::M)→o2 b=some (Pt j++M):=by
  intro b j M hj hb;simp only[o2,hb];rw[if_pos hj]
 have o22:∀b L,g.o b=some L→(∀j M,¬Qb b j M)→o2 b=some L∧w'.heap[b]? =w.heap[b]?:=by
  intro b L hb hq;have hocb:oc b=none:=by
   cases hob:oc b with
   |none=>rfl
   |some L'=>obtain⟨j,M,h1,_⟩:=oc2 b L' hob;exact absurd h1 (hq j M)
  have hlt:=(W.o b L hb).1;have ho1b:o1 b=none:=by
   cases h1:o1 b with
   |none=>rfl
   |some L'=>
    rcases(ho1 b L' h1).2 with h2|⟨L2,h2⟩
    ·omega
    rw[hocb]at h2;cases h2
  refine⟨by simp only[o2,ho1b];rw[if_pos hocb];exact hb,hp.keep b hlt hocb⟩
 have hnoroot:∀b r M,g.o b=some (r::M)→look r sets=none→∀j M',¬Qb b j M':=by
  rintro b r M hb hr j M' ⟨h1,h2⟩
  obtain⟨r',M2,hP,_⟩:=(hM.at_ j h1).head;rw[hb,hP]at h2;simp only[zF,qA,zG]at h2;have:=hM.all j r' M2 h1 hP;rw[←h2.1,hr]at this;cases this
 have hRw:∀b,g.R b→w'.heap[b]? =w.heap[b]?:=λb hb=>hp.keep b (W.R b hb).1 ((hpre.hR b hb).2);have hrowset:∀id e,look id sets=some e→∃sz fs,e= .row sz fs:=λid e he=>by
  obtain⟨sz,es,fs,_,h2,_⟩:=hM.hsets id e he;exact⟨sz,fs,h2⟩
 have hold:∀id e,happ {v:=res,set:=sets,del:=dels} h id=some e→look id sets=none→h id=some e∧id∉dels:=by
  intro id e he hl;simp only[happ,hl]at he;split at he
  ·cases he
  rename_i hd;exact⟨he,hd⟩
 refine k rv w' o2 g.ρ ⟨λb hb=>?_,λb L hb=>?_,hp.os.trans W.os,tpt hp.tape W.tape,hp.output.trans W.output,qK W.size hp.size,λb hb hw=>?_⟩ ⟨λid sz es bk he hb=>?_,λid sz es bk he hb=>?_,λid c i kk s bk he hb=>?_,λid kd es bk he hb=>?_⟩ (λ_ _ h=>h) (λ_ _ h=>.inl h) (resV_rel hrv) hRw;rotate_left 6
 ·have hl:look id sets=none:=by
   cases hl:look id sets with
   |none=>rfl
   |some e=>
    obtain⟨sz',fs,rfl⟩:=hrowset id e hl;simp only[happ,hl]at he;cases he
  obtain⟨he',hd⟩:=hold id _ he hl;exact(H.map id kd es bk he' hb).move (λb hb=>⟨hb,hRw b hb⟩) λb M h2=>o22 b _ h2 (hnoroot b id M h2 hl)
 ·have h1:=W.R b hb;refine⟨qN h1.1 hp.size,?_⟩;have hocb:=(hpre.hR b hb).2;have ho1b:o1 b=none:=by
   cases h2:o1 b with
   |none=>rfl
   |some L'=>
    rcases(ho1 b L' h2).2 with h3|⟨L2,h3⟩
    ·omega
    rw[hocb]at h3;cases h3
  show o2 b=none;simp only[o2,ho1b];rw[if_pos hocb];exact h1.2
 ·have hb2:o2 b=some L:=hb;simp only[o2]at hb2;split at hb2
  ·rename_i j M h1;obtain⟨h2,h3⟩:=ho1 b _ h1;refine⟨h2,?_⟩;rcases h3 with h3|⟨L',h3⟩
   ·exact .inl (by have:=W.size;omega)
   obtain⟨j',M',⟨_,h4⟩,_⟩:=oc2 b L' h3;exact(W.o b _ h4).2
  ·cases hb2
  split at hb2
  ·have:=W.o b L hb2;exact⟨qN this.1 hp.size,this.2⟩
  cases hb2
 ·rw[hp.keep b (by have:=W.size;omega) ?_]
  ·exact W.keep b hb hw
  cases hob:oc b with
  |none=>rfl
  |some L=>
   obtain⟨j,M,⟨_,h2⟩,_⟩:=oc2 b L hob;rcases(W.o b _ h2).2 with h3|h3
   ·omega
   exact absurd h3 hw
 ·
  have hl:look id sets=none:=by
   cases hl:look id sets with
   |none=>rfl
   |some e=>
    obtain⟨sz',fs,rfl⟩:=hrowset id e hl;simp only[happ,hl]at he;cases he
  obtain⟨he',hd⟩:=hold id _ he hl;exact(H.mix id sz es bk he' hb).mono hRw (λ_ _ h=>h) λb hbo=>o22 b _ hbo (hnoroot b id [] hbo hl)
 ·cases hl:look id sets with
  |none=>
   obtain⟨he',hd⟩:=hold id _ he hl;obtain⟨v,hv,hh⟩:=H.row id sz es bk he' hb;exact⟨v,hv.same λb M hbo=>o22 b _ hbo (hnoroot b id M hbo hl),hh⟩
  |some e=>
   obtain⟨sz',es0,fs,hr,rfl,hT⟩:=hM.hsets id e hl;simp only[happ,hl,qA,Ent.row.injEq]at he;obtain⟨rfl,rfl⟩:=he;obtain⟨v0,hv0,hh0⟩:=H.row id sz' es0 bk hr hb
   by_cases hA:∃j,j<ms.length∧Pt j=[id]
   ·obtain⟨j,hj,hPj⟩:=hA;have hat:=hM.at_ j hj;rw[hPj]at hat;obtain⟨bk',hbk1,hbk2⟩:=hρ j hj;obtain⟨v1,q1,q2⟩:=hent j bk' hj hbk2;have hroot:m.getD j 0=id∧(ms.getD j .none).sz=sz':=by
     generalize m.getD j 0=y at hat;cases hat with
     |root h1=>rw[hr]at h1;simp at h1;exact⟨rfl,h1.1.symm⟩
    rw[hroot.1,hb]at hbk1;cases hbk1;rw[hroot.2]at q1 q2;rw[hT.whole j hj hPj];exact⟨v1,q2.mono (R':=g.R) [id] λb M hbo=>⟨by have:=o21 b j M hj (by simpa using hbo);rwa[hPj]at this,rfl⟩,q1⟩
   have hB:∀j,j<ms.length→Pt j≠[id]:=λj hj h1=>hA ⟨j,hj,h1⟩;refine⟨v0,?_,hh0⟩;have hnq:∀b i k M,(∀j,j<ms.length→Pt j≠[id,i,k])→g.o b=some ([id]++[i,k]++M)→∀j M',¬Qb b j M':=by
    rintro b i k M hne hb j M' ⟨h1,h2⟩
    rw[hb]at h2;have hat:=hM.at_ j h1;have h3:id::i::k::M=Pt j++M':=(by simpa using h2);rcases hat.shape with⟨y,hy⟩|⟨r',i',k',hy⟩
    ·rw[hy]at h3;simp only[List.singleton_append,zG]at h3;exact hB j h1 (by rw[hy,h3.1])
    rw[hy]at h3;simp only[zF,zG]at h3;exact hne j h1 (by rw[hy,h3.1,h3.2.1,h3.2.2.1])
   cases hv0 with
   |nil=>
    have:fs=[]:=qQ (by rw[hT.len];rfl);rw[this];exact .nil
   |@own _ _ _ b cap cur el us a1 a2 a3 a4 a5 a6 a7 a8 a9=>
    have hbn:∀j M',¬Qb b j M':=by
     rintro j M' ⟨h1,h2⟩
     rw[a1]at h2;obtain⟨r',M2,hP,_⟩:=(hM.at_ j h1).head;rw[hP]at h2;simp only[zF,qA,zG,List.nil_eq,List.append_eq_nil_iff]at h2;exact hB j h1 (by rw[hP,h2.2.1,←h2.1])
    obtain⟨ob1,ob2⟩:=o22 b _ a1 hbn;have:=TRel.own (w:=w') (R:=g.R) (o:=o2) (L:=[id]) (sz:=sz') (es:=fs) (b:=b) (cap:=cap) (cur:=cur) (e:=el) us ob1 (ob2.trans a2) a3 (by rw[hT.len];exact a4) a5
     (λi hi=>by rw[hT.len]at hi;rw[hT.row hB i hi];exact a6 i hi) (λi k hi hk=>a7 i k (by rw[hT.len]at hi;exact hi) hk) (λi k hi hk=>a8 i k (by rw[hT.len]at hi;exact hi) hk)
     (λi k hi hk=>by
      rw[hT.len]at hi
      by_cases hhit:∃j,j<ms.length∧Pt j=[id,i,k]
      ·obtain⟨j,hj,hPj⟩:=hhit;rw[hT.hit i k j hj hPj hi hk];obtain⟨bk',hbk1,hbk2⟩:=hρ j hj;obtain⟨v1,q1,q2⟩:=hent j bk' hj hbk2;obtain⟨v2,q3,q4⟩:=(hM.at_ j hj).rel H hbk1;have hv12:v2=v1:=hdr_eq q3 q1 q4 q2 (hcon.len j hj);have hat:=hM.at_ j hj;have hus:us i k=v2:=by
        rw[hPj]at hat;generalize m.getD j 0=y at hat hbk1;cases hat with
        |cell h1 h2 h3 h4 h5=>
         obtain⟨z1,bkc,z2,z3⟩:=H.ali _ _ _ _ _ _ h1 hbk1;rw[hb]at z2;cases z2;rw[hr]at h2;cases h2;obtain⟨bc,cur2,e2,v,z4,z5,z6,z7⟩:=z3 1 sz' es0 (by simp[cont,hr]) (by rw[hr];rfl) hi hk;cases hh0;cases z4;rw[z5]at a2;obtain⟨rfl,rfl⟩:=by simpa using a2
         have hu:us i k=v:=(by have:=a7 i k hi hk;rw[z6]at this;simpa using this.symm);have ht:=a9 i k hi hk;rw[hu,h5]at ht;have hhv:=z7.resolve_right λhs=>ht.scn_lst hs;rw[hu];exact hdr_eq hhv q3 ht q4 rfl
       rw[hus,hv12];exact q2.mono (R':=g.R) _ λb M hbo=>⟨by have:=o21 b j M hj (by simpa using hbo);rw[hPj]at this;exact this,rfl⟩
      have hne:∀j,j<ms.length→Pt j≠[id,i,k]:=λj hj h1=>hhit ⟨j,hj,h1⟩;rw[hT.miss i k hi hk λj hj=>⟨hB j hj,hne j hj⟩];exact(a9 i k hi hk).same λb M hbo=>o22 b _ hbo (hnq b i k M hne hbo))
    rw[hT.len]at this;exact this
 have hl:look id sets=none:=by
  cases hl:look id sets with
  |none=>rfl
  |some e=>
   obtain⟨sz',fs,rfl⟩:=hrowset id e hl;simp only[happ,hl]at he;cases he
 obtain⟨he',hd⟩:=hold id _ he hl;have hfree:∀d r,Vc.root h d c=some r→look r sets=none:=by
  obtain⟨d0,r0,hr0,hl0⟩:=(hM.alis id c i kk s (hlim id bk hb) he').resolve_left hd;intro d r hr;rw[←Q7a _ _ _ _ _ hr0 hr];exact hl0
 obtain⟨h1,bkc,h2,h3⟩:=H.ali id c i kk s bk he' hb;refine⟨h1,bkc,h2,λd szc esc hcc hmc hi hk=>?_⟩;have keepc:∀(d c:Nat) (x:Nat×List (List AV)),(∀d r,Vc.root h d c=some r→look r sets=none)→cont (happ {v:=res,set:=sets,del:=dels} h) d c=some x→cont h d c=some x∧∃e,happ {v:=res,set:=sets,del:=dels} h c=some e∧h c=some e:=by
  intro d
  induction d with
  |zero=>intro c x _ hx;cases hx
  |succ d ih=>
   intro c x hf hx;have hcn:∃e,happ {v:=res,set:=sets,del:=dels} h c=some e:=by
    cases hh:happ {v:=res,set:=sets,del:=dels} h c with
    |none=>simp only[cont,hh]at hx;cases hx
    |some e=>exact⟨e,rfl⟩
   obtain⟨e,hce⟩:=hcn;have hcl:look c sets=none:=by
    cases hl:look c sets with
    |none=>rfl
    |some e'=>
     obtain⟨sz,es,fs,hr,_⟩:=hM.hsets c e' hl;have:=hf 1 c (by simp[Vc.root,hr]);rw[hl]at this;cases this
   obtain⟨hc',_⟩:=hold c e hce hcl;refine⟨?_,e,hce,hc'⟩;unfold cont at hx⊢;rw[hce]at hx;rw[hc'];cases e with
   |mix=>exact hx
   |row=>exact hx
   |mapE=>exact hx
   |ali c2 i2 k2 s2=>
    simp only at hx⊢;split at hx
    ·cases hx
    rename_i hm2;cases hc2:cont (happ {v:=res,set:=sets,del:=dels} h) d c2 with
    |none=>simp[hc2]at hx
    |some p=>
     obtain⟨h4,e2,h5,h6⟩:=ih c2 p (λd r hr=>hf (d+1) r (by simp[Vc.root,hc',hr])) hc2;rw[hc2]at hx;rw[h5]at hm2;rw[h6,if_neg hm2,h4];exact hx
 obtain⟨hc1,e,hc2,hc3⟩:=keepc d c _ hfree hcc;have hmc':Qm (h c)=false:=by rw[hc3,←hc2];exact hmc
 obtain⟨bc,cur,el,v,h4,h5,h6,h7⟩:=h3 d szc esc hc1 hmc' hi hk;obtain⟨_,v3,r,M,hroot,_,ht,hhd⟩:=Q5A H d c szc esc bkc hc1 hmc' h2;refine⟨bc,cur,el,v,h4,?_,h6,h7⟩;cases ht with
 |nil=>simp at hi
 |own us hob=>
  cases hhd;cases h4;exact(o22 _ _ hob (hnoroot _ r M hob (hfree d r hroot))).2.trans h5
theorem At.up{h':HP}(hs:∀id x,h id=some x→h' id=some x){mu:Mu}{id:Nat}{L:List Nat}(ha:At h mu id L):At h' mu id L:=by
 cases ha with
 |root h1=>exact .root (hs _ _ h1)
 |cell h1 h2 h3 h4 h5=>exact .cell (hs _ _ h1) (hs _ _ h2) h3 h4 h5
theorem Q8z{h':HP}(hs:∀id x,h id=some x→h' id=some x):∀(d c r:Nat),Vc.root h d c=some r→Vc.root h' d c=some r:=by
 intro d
 induction d with
 |zero=>intro c r h1;cases h1
 |succ d ih=>
  intro c r h1;unfold Vc.root at h1⊢;cases he:h c with
  |none=>simp[he]at h1
  |some e=>
   rw[hs _ _ he];rw[he]at h1;cases e with
   |ali c2 i k s=>exact ih c2 r h1
   |mix=>exact h1
   |row=>exact h1
   |mapE=>exact h1
theorem MCall.up{h':HP}(hs:∀id x,h id=some x→h' id=some x)(hlt:∀id,id<n→h' id=h id){ms:List Mu}{m:List Nat}{Pt:Nat→List Nat}{sets:List (Nat×Ent)}{dels:List Nat}(hM:MCall h n ms m Pt sets dels):MCall h' n ms m Pt sets dels:=by
 refine⟨hM.len,λj hj=>(hM.at_ j hj).up hs,hM.apart,hM.nodup,λr e hr=>?_,hM.all,hM.hdels,λid c i k s hid he=>?_⟩
 ·obtain⟨sz,es,fs,h1,h2,h3⟩:=hM.hsets r e hr;exact⟨sz,es,fs,hs _ _ h1,h2,h3⟩
 rw[hlt id hid]at he;rcases hM.alis id c i k s hid he with h1|⟨d,r,h1,h2⟩
 ·exact .inl h1
 exact .inr ⟨d,r,Q8z hs d c r h1,h2⟩
def Q2Q:Op→Bool
 | .call ⟨.value _,_,_⟩=>true
 |_=>false
def Q32:Op→Bool
 | .lookup ..=>true
 | .call cl=>match cl.callee with
  | .builtin .clear=>true
  |_=>false
 |_=>false
def isMe:Op→Bool
 | .mapEntry ..=>true
 | .entryStore ..=>true
 |_=>false
def Q4I:Op→Bool
 | .mapEntry ..=>true
 | .entryStore ..=>true
 | .mapUpdate ..=>true
 | .lookup _ _ _ false=>true
 |_=>false
structure MT where
 on:Bool
 ro:List Nat
 lk:Bool
 rd:List Nat:=[]
 bi:Bool:=false
instance:Coe Bool MT:=⟨λb=>⟨b,[],b,[],false⟩⟩
inductive RoV:AV→Prop
 |val {v}:RoV (.val v)
 |lst {u sz es}:(∀r∈es,∀c∈r,RoV c)→RoV (.lst u sz es)
 |rptr {cs}:(∀c∈cs,RoV c)→RoV (.rptr cs)
 |agg {cs}:(∀c∈cs,RoV c)→RoV (.agg cs)
 |bot:RoV .bot
theorem RoV.getD{cs:List AV}(h:∀c∈cs,RoV c)(i:Nat):RoV (cs.getD i .bot):=by
 rw[qB];cases hc:cs[i]? with
 |none=>exact .bot
 |some c=>exact h c (List.mem_of_getElem? hc)
theorem RoV.rows{es:List (List AV)}(h:∀r∈es,∀c∈r,RoV c)(i:Nat):∀c∈es.getD i [],RoV c:=by
 rw[qB];cases hc:es[i]? with
 |none=>simp
 |some r=>exact h r (List.mem_of_getElem? hc)
def rdT:Op→Option Nat
 | .load _ (.tmp t)=>some t
 | .indexAddr _ (.tmp t) _=>some t
 | .slice _ (.tmp t) _ _ none=>some t
 |_=>none
def rdL(rd:List Nat)(op:Op):Bool:=match rdT op with
 |some t=>rd.contains t
 |none=>false
theorem Q77(op:Op):rdL [] op=false:=by unfold rdL;split<;>rfl
theorem Q9k{rd:List Nat}{op:Op}(h:rdL rd op=true):∃t,rdT op=some t:=by
 unfold rdL at h;split at h
 ·rename_i t ht;exact⟨t,ht⟩
 cases h
theorem rdT_mem{op:Op}{t:Nat}(h:rdT op=some t):(Operand.tmp t)∈op.operands:=by
 unfold rdT at h;split at h<;>first|(cases h;simp[qJ];done)|cases h
def MT.may(mt:MT)(f:Nat):Bool:=mt.on&&!mt.ro.contains f
def roC(ro:List Nat):Op→Bool
 | .call ⟨.value (.func f),_,_⟩=>ro.contains f
 |_=>false
def wrM(mt:MT)(op:Op):Bool:=Q1f op||(mt.on&&((Q2Q op&&!roC mt.ro op)||(mt.lk&&Q32 op)))
def birth:Op→Bool
 | .alloc _=>true
 | .buildSlice ..=>true
 |_=>false
def isAppB:Op→Bool
 | .call cl=>match cl.callee with
  | .builtin .append=>true
  |_=>false
 |_=>false
def isSto:Op→Bool
 | .store ..=>true
 |_=>false
def lim(mt:MT)(op:Op):Bool:=(mt.on&&wrM mt op)||isSto op
theorem lim_wr{mt:MT}{op:Op}(h:lim mt op=true):wrM mt op=true:=by
 unfold lim at h;rw[Bool.or_eq_true]at h;rcases h with h|h
 ·cases hb:wrM mt op with
  |true=>rfl
  |false=>rw[hb]at h;simp at h
 cases op<;>first|(simp[isSto]at h;done)|(simp[wrM,Q1f];done)
def easy(mt:MT)(x y:Op):Bool:=mt.bi&&!mt.on&&isAppB x&&birth y
theorem easy_wr{mt:MT}{x y:Op}(h:easy mt x y=true):wrM mt y=false:=by
 unfold easy at h;simp only[qG,zH]at h;have h2:=h.1.1.2;have h4:=h.2;cases y<;>first|(simp[birth]at h4;done)|(simp[wrM,Q1f,h2];done)
theorem Q9r{mt:MT}{x y:Op}(h:easy mt x y=true):birth y=true:=by
 unfold easy at h;simp only[qG]at h;exact h.2
theorem lim_easy{mt:MT}{x y:Op}(h:lim mt x=true):easy mt x y=false:=by
 cases he:easy mt x y with
 |false=>rfl
 |true=>
  unfold easy at he;simp only[qG,zH]at he;have h2:=he.1.1.2;have h3:=he.1.2;unfold lim at h;rw[h2]at h;cases x<;>simp[isSto,isAppB]at h h3
theorem birth_wr{mt:MT}{op:Op}(h:birth op=true):(mt.on&&wrM mt op)=false:=by
 cases op<;>first|(simp[birth]at h;done)|(cases mt.on<;>simp[wrM,Q1f,Q2Q,Q32])
theorem wM{a b:Bool}(h:(a&&b)=true):b=true:=by cases a<;>simp_all
end
end Go.Vc
