/- A part of the proof. -/
import Derived.Test.YtbanpimdoabfmaaH3
import Derived.Laws.BytesString
set_option maxRecDepth 100000
set_option maxHeartbeats 4000000
set_option linter.unusedSimpArgs false
set_option linter.unusedVariables false
set_option linter.unusedSectionVars false
set_option linter.unnecessarySimpa false

open Option.some renaming injEq→qA
open List renaming getD_eq_getElem?_getD→qB
open Prod.mk renaming injEq→qC
open Array renaming getElem?_eq_getElem→zP
open Prod renaming fst→qE
open Nat renaming le_refl→qF
open Bool renaming and_eq_true→qG
open Go.Op renaming operands→qJ
open Option renaming getD_some→zQ
open Nat renaming lt_of_lt_of_le→qN
open Nat renaming lt_or_ge→zR
open Bool renaming or_eq_true→zS
open List renaming all_eq_true→qW
open Prod renaming snd→zT
open List renaming map_congr_left→zU
open List renaming mem_append→zB
open Bool renaming or_eq_false_iff→zV
open Option renaming getD_none→zW
namespace Go.Vc
open Go
def Q3Z(ns:List Int):ByteArray:=ns.foldl (λr n=>r.push (UInt8.ofNat n.toNat)) ByteArray.empty
def Us(xs:List Int):List (List AV):=xs.map λx=>[.val (.int .u8 x)]
@[simp] theorem Us_length(xs:List Int):(Us xs).length=xs.length:=by simp[Us]
@[simp] theorem Us_nil:Us []=[]:=rfl
theorem UA(xs ys:List Int):Us (xs++ys)=Us xs++Us ys:=by simp[Us]
theorem U1(x:Int)(xs:List Int):Us (x::xs)=[.val (.int .u8 x)]::Us xs:=rfl
def unU1:List AV→Int
 |[.val (.int .u8 x)]=>x
 |_=>0
def unU(es:List (List AV)):List Int:=es.map unU1
def cvsE(b:Option TypeId)(m:Nat):Option Ent→Option (Prop×Eff)
 |some (.row 1 es)=>match b with
  |some _=>some (m=es.length∧es=Us (unU es),{v:=.val (.string (Q3Z (unU es)))})
  |none=>none
 |_=>none
def convS(b:Option TypeId)(h:HP):AV→Option (Prop×Eff)
 | .own id 0 m=>cvsE b m (h id)
 |_=>none
@[simp] theorem convS_own{b:Option TypeId}{h:HP}{id m:Nat}:convS b h (.own id 0 m)=cvsE b m (h id):=rfl
@[simp] theorem cvsE_row{e:TypeId}{m:Nat}{es:List (List AV)}:cvsE (some e) m (some (.row 1 es))=some (m=es.length∧es=Us (unU es),{v:=.val (.string (Q3Z (unU es)))}):=rfl
theorem convS_eq{b:Option TypeId}{h:HP}{x:AV}{c:Prop}{e:Eff}(hx:convS b h x=some (c,e))(hc:c):∃e2 id ns,b=some e2∧x= .own id 0 ns.length∧h id=some (.row 1 (Us ns))∧e={v:=.val (.string (Q3Z ns))}:=by
 unfold convS at hx;split at hx
 ·rename_i id m;unfold cvsE at hx;split at hx
  ·rename_i es he;split at hx
   ·rename_i e2;simp only[qA,qC]at hx;obtain⟨rfl,rfl⟩:=hx;obtain⟨h1,h2⟩:=hc;refine⟨e2,id,unU es,rfl,?_,by rw[he];congr 2,rfl⟩;rw[h1];congr 1;simp[unU]
   cases hx
  cases hx
 cases hx
theorem Q89(ns:List Int):(Q3Z ns).size=ns.length:=by
 have:∀(ns:List Int) (s:ByteArray),(ns.foldl (λr n=>r.push (UInt8.ofNat n.toNat)) s).size=s.size+ns.length:=by
  intro ns
  induction ns with
  |nil=>intro s;simp
  |cons n ns ih=>intro s;simp only[List.foldl_cons,ih,ByteArray.size_push,List.length_cons];omega
 simpa[Q3Z]using this ns ByteArray.empty
def byS(P:Program)(s d:TypeId):Option TypeId:=
 match P.underlying s,P.underlying d with
 |some (.slice e),some .string=>match P.underlying e with
  |some (.int .u8)=>some e
  |_=>none
 |_,_=>none
theorem byS_some{P:Program}{s d e:TypeId}(h:byS P s d=some e):P.underlying s=some (.slice e)∧P.underlying e=some (.int .u8)∧P.underlying d=some .string:=by
 unfold byS at h;split at h
 ·rename_i e' h1 h2;split at h
  ·rename_i h3;simp only[qA]at h;subst h;exact⟨h1,h3,h2⟩
  cases h
 cases h
section
variable {P:Program}{C:Ctx}{a:Act}{w:World}{g:Gh}{h:HP}{n:Nat}{ev:Operand→AV}
theorem step_cvs(hev:∀x,XRel w g.R g.ρ (a.eval x) (ev x))(W:WF C w g)(H:HRel w g h){o:Oper}{s d e:TypeId}{x:Operand}{id:Nat}{ns:List Int}(ho:o.op= .convert s d x)(hb:byS P s d=some e)(hx:ev x= .own id 0 ns.length)(he:h id=some (.row 1 (Us ns))):
  StepR P C o a w g h n {v:=.val (.string (Q3Z ns))}:=by
 obtain⟨u1,u2,u3⟩:=byS_some hb;have hv:=hev x;rw[hx]at hv;have key:∀v,ns.length≤maxLen→a.eval x=v→(convert s d v).run P w= .ok (.string (Q3Z ns)) w→StepR P C o a w g h n {v:=.val (.string (Q3Z ns))}:=by
  intro v h0 h1 h2;refine Qn W H rfl rfl (v:=.string (Q3Z ns)) (by simp[execOp,ho,h1,h2]) (.r (.val ?_));simp only[sc,Q89];exact h0
 rcases hv.own_eq with⟨s0,c0,hb',hval,_,hm⟩|⟨b,bsz,cap,cc,x0,hb',hval,h5,h6,h7,h8,h9⟩
 ·have:ns=[]:=List.length_eq_zero_iff.1 hm;subst this;refine key _ (Nat.zero_le _) hval ?_;rw[run_convert_bytes_string w s d e none 0 0 u1 u2 u3];simp[Conv.bytesToString,Q3Z]
 refine key _ (by omega) hval ?_;have hx0:=h8 rfl;subst hx0;rw[run_convert_bytes_string w s d e _ _ _ u1 u2 u3];obtain⟨v,hT,hh⟩:=H.row id 1 (Us ns) _ he hb';cases hh;refine run_bytesToString w _ _ _ ns ?_;cases hT with
 |own us q1 q2 q3 q4 q5 q6 q7 q8 q9=>
  have hc:∀j v,(ns.map (Value.int .u8))[j]? =some v→w.cell? ((⟨b,0,none⟩:Addr).add j)=some v:=by
   intro j v hj;have hj':j<ns.length:=by
    have:=(List.getElem?_eq_some_iff.1 hj).1;simpa using this
   have r1:=q7 j 0 (by simpa using hj') (by omega);have r2:=q9 j 0 (by simpa using hj') (by omega);have e1:((Us ns).getD j []).getD 0 .bot= .val (.int .u8 ns[j]):=(by simp[Us,qB,hj']);rw[e1]at r2;have e2:us j 0= .int .u8 ns[j]:=by
    generalize us j 0=q at r2;cases r2 with|val=>rfl
   have e3:v= .int .u8 ns[j]:=(by simpa[hj']using hj.symm);rw[e3,←e2];have hadd:(⟨b,0,none⟩:Addr).add j=⟨b,j,none⟩:=(by unfold Addr.add;split<;>simp_all);rw[hadd,cell_of_row _ _ j _ _ (0,0) q2];simpa using r1
  have:=run_loadCells_list (P:=P) (w:=w) ⟨b,0,none⟩ (ns.map (Value.int .u8)) hc;simpa using this
end
def PurL(h:HP)(az bs:List AV):Prop:=az.length=bs.length∧∀k,k<az.length→PurTo h (az.getD k .bot) (bs.getD k .bot)
structure ICon(P:Program)(f:Nat)(az:List AV)(h:HP)(n:Nat)(e:Eff):Prop where
 enters:∃fn,P.funcs[f]? =some fn∧(fn.name=="runtime.NumGoroutine")=false∧fn.body.isSome=true
 fine:(∀id x,h id=some x→id<n)→e.fine n
 calls:∀(C:Ctx) (w:World) (g:Gh) (h':HP) (vals:Array Value),(∀id,id<n→h' id=h id)→(∀p∈e.new,h' p.1=some p.2)→(∀id k,g.ρ id=some k→id<n)→WF C w g→HRel w g h'→vals.size=az.length→
  (∀k,k<az.length→XRel w g.R g.ρ (vals.getD k undef) (az.getD k .bot))→
  Callz P f vals w λex w'=>∃v R' o' ρ',ex= .returned v∧RX g.R R' C.w0.heap.size∧WF C w' ⟨R',o',ρ'⟩∧HRel w' ⟨R',o',ρ'⟩ (happ e h')∧(∀id k,g.ρ id=some k→ρ' id=some k)∧
   (∀id k,ρ' id=some k→g.ρ id=some k∨(n≤id∧id<n+e.cnt))∧XRel w' R' ρ' v e.v∧(∀b,g.R b→w'.heap[b]? =w.heap[b]?)
theorem ICon.up{P:Program}{f:Nat}{az:List AV}{h h':HP}{n:Nat}{e:Eff}(hlt:∀id,id<n→h' id=h id)(hs:∀id x,h id=some x→h' id=some x)(hc:ICon P f az h n e):ICon P f az h' n e:=
 ⟨hc.enters,λhh=>hc.fine λid x hx=>hh id x (hs id x hx),λC w g h2 vals h1=>hc.calls C w g h2 vals λid hid=>(h1 id hid).trans (hlt id hid)⟩
def PurK(keep:Bool)(h:HP)(az bs:List AV):Prop:=az.length=bs.length∧∀k,k<az.length→PurTo (keepH keep h) (az.getD k .bot) (bs.getD k .bot)
structure SemOp(P:Program)(op:Op)(ev:Operand→AV)(h:HP)(n:Nat)(e:Eff):Prop where
 kind:(Q1f op||Q32 op)=true
 fine:e.fine n
 step:∀{C:Ctx} {o:Oper} {a:Act} {w:World} {g:Gh} {h':HP},o.op=op→(∀id x,h id=some x→h' id=some x)→(∀id,id<n→h' id=h id)→(∀id k,g.ρ id=some k→id<n)→
  (∀x∈op.operands,XRel w g.R g.ρ (a.eval x) (ev x))→WF C w g→HRel w g h'→(∀p∈e.new,h' p.1=some p.2)→(∀id,n≤id→id<n+e.cnt→g.ρ id=none)→Step P C o a w g h' n e
def MeEff(op:Op)(ev:Operand→AV)(h:HP)(e:Eff):Prop:=
 (∃id kd es kd' es',(∃x∈op.operands,ev x= .mp id)∧h id=some (.mapE kd es)∧e.set=[(id,.mapE kd' es')])∧∀d∈e.del,(∃x∈op.operands,ev x= .mp d)∧∃kd es,h d=some (.mapE kd es)
structure MpOp(P:Program)(op:Op)(ev:Operand→AV)(h:HP)(n:Nat)(e:Eff):Prop where
 fine:e.fine n
 calm:Q1f op=false→e.set=[]∧e.del=[]
 me:isMe op=true→MeEff op ev h e
 step:∀{C:Ctx} {o:Oper} {a:Act} {w:World} {g:Gh} {h':HP},o.op=op→(∀id x,h id=some x→h' id=some x)→
  (∀x∈op.operands,XRel w g.R g.ρ (a.eval x) (ev x))→WF C w g→HRel w g h'→(∀p∈e.new,h' p.1=some p.2)→(∀id,n≤id→id<n+e.cnt→g.ρ id=none)→Step P C o a w g h' n e
inductive AOp(P:Program)(mt:MT)(op:Op)(ev:Operand→AV)(h:HP)(n:Nat):Eff→Prop
 |blt {c e}:opF P op ev h n=some (c,e)→c→AOp P mt op ev h n e
 |call {cl x f caps bs res}:op= .call cl→cl.callee= .value x→ev x= .fn f caps→PurL h (cl.args.toList.map ev++caps) bs→Contract P f bs res→AOp P mt op ev h n (unk n res)
 | mcall {cl x f caps args ms res m Pt sets dels}:(mt.on && wrM mt op)=true→op = .call cl→cl.callee = .value x→ev x = .fn f caps→MContract P f args ms res→MCall h n ms m Pt sets dels →
   (cl.args.toList.map ev++caps).length=args.length→(∀k,k<args.length→MArg m ((cl.args.toList.map ev++caps).getD k .bot) (args.getD k .bot))→
   (∀j,j<ms.length→∃k,k<args.length∧Occ (m.getD j 0) ((cl.args.toList.map ev++caps).getD k .bot))→AOp P mt op ev h n {v:=res,set:=sets,del:=dels}
 |icall {cl x f caps e}:(mt.on&&wrM mt op)=true→op= .call cl→cl.callee= .value x→ev x= .fn f caps→ICon P f (cl.args.toList.map ev++caps) h n e→AOp P mt op ev h n e
 |mki {t x cs}:op= .makeInterface t x→sty P t=true→ev x= .agg cs→AOp P mt op ev h n {v:=.ifc t cs}
 |mkis {t x u sz es}:op= .makeInterface t x→slt P t=true→ev x= .lst u sz es→AOp P mt op ev h n {v:=.ifs t sz es}
 |tas {x xt s t sz es}:op= .typeAssert x xt s true→tas P s t=true→ev x= .ifs t sz es→AOp P mt op ev h n {v:=.tup [.ifs t sz es,.val (.bool true)]}
 |boxr {t x c e}:op= .box t x→boxr (ev x)=some (c,e)→AOp P mt op ev h n e
 |appM {t et s x c e}:op= .call {callee:=.builtin .append,args:=#[s,x],argTypes:=#[t,t]}→elm P t=some et→appM (tyi P et) (ev s) (ev x) h n=some (c,e)→c→AOp P mt op ev h n e
 |fcall {cl x f caps bs res keep}:op= .call cl→cl.callee= .value x→ev x= .fn f caps→PurK keep h (cl.args.toList.map ev++caps) bs→FContract P keep f bs res→AOp P mt op ev h n {v:=res}
 |mapo {c e}:mapF P op ev h n=some (c,e)→c→AOp P mt op ev h n e
 |mkz {t l cc et e2 c e}:op= .makeSlice t l cc→elm P t=some et→Q5h e2 (tyi P et) (ev l) (ev cc) n=some (c,e)→c→AOp P mt op ev h n e
 |sl3 {t x y z et c e}:op= .slice t x none (some y) (some z)→elm P t=some et→Q3P (tyi P et) h (ev x) (ev y) (ev z)=some (c,e)→c→AOp P mt op ev h n e
 |cvs {s d e x id ns}:op= .convert s d x→byS P s d=some e→ev x= .own id 0 (List.length ns)→h id=some (.row 1 (Us ns))→AOp P mt op ev h n {v:=.val (.string (Q3Z ns))}
 |callb {cl x f rs bs res}:op= .call cl→cl.callee= .value x→ev x= .bnd f rs→PurL h (rs++cl.args.toList.map ev) bs→Contract P f bs res→AOp P mt op ev h n (unk n res)
 |fcallb {cl x f rs bs res keep}:op= .call cl→cl.callee= .value x→ev x= .bnd f rs→PurK keep h (rs++cl.args.toList.map ev) bs→FContract P keep f bs res→AOp P mt op ev h n {v:=res}
 |sem {e}:(mt.on&&wrM mt op)=true→SemOp P op ev h n e→AOp P mt op ev h n e
 |mpx {e}:Q4I op=true→MpOp P op ev h n e→AOp P mt op ev h n e
 |mkb {f rs}:op= .makeFunc (.func f) rs #[]→AOp P mt op ev h n {v:=.bnd f (rs.toList.map ev)}
 |mkf {f caps}:op= .makeFunc (.func f) #[] caps→AOp P mt op ev h n {v:=.fn f (caps.toList.map ev)}
 | sto {t x y ty id i k b sz es ds dels}:op = .store t x y→tyi P t=some ty→ty.sz=1→ev x = .adr id i k→Sto h n id i k (ev y) b sz es ds dels →
   AOp P mt op ev h n {v:=.bot,set:=[(id,.row sz (es.set i ((es.getD i []).set k b)))],del:=ds++dels}
 | stg {t x y ty id i az bs sz es ds dels}:op = .store t x y→tyi P t=some ty→ty.sz=sz→ev x = .adr id i 0→ev y = .agg az→StoG h n id i az bs sz es ds dels →
   AOp P mt op ev h n {v:=.bot,set:=[(id,.row sz (es.set i bs))],del:=ds++dels}
section
variable {P:Program}{mt:MT}{C:Ctx}{a:Act}{w:World}{g:Gh}{h:HP}{n:Nat}{e:Eff}{ev:Operand→AV}
theorem Q6H(W:WF C w g)(H:HRel w g h){o:Oper}{f:Nat}{vals:Array Value}{az bs:List AV}{res:AV}(hnew:∀p∈(unk n res).new,h p.1=some p.2)(hfr:∀id,n≤id→id<n+(unk n res).cnt→g.ρ id=none)(hrun:(execOp a.eval o).run P w= .ok (.enter f vals) w)(hvs:vals.size=az.length)(hva:∀j,j<az.length→XRel w g.R g.ρ (vals.getD j undef) (az.getD j .bot))(hp:PurL h az bs)(hcon:Contract P f bs res):StepR P C o a w g h n (unk n res):=by
 intro K Q k;obtain⟨hpl,hpk⟩:=hp;have hR:∀b,RAll g b→b<w.heap.size:=λb hb=>by
  rcases hb with hb|⟨L,hb⟩
  ·exact(W.R b hb).1
  exact(W.o b L hb).1
 have hargs:=hcon.calls w (RAll g) vals hR (by omega) (λj hj=>(Q5Z H (hpk j (by omega)) (hva j (by omega))).1);unfold Oper.wpU;rw[hrun,Oper.uponU_enter];refine⟨rfl,?_⟩;refine hargs.mono λe w' ⟨v,o1,he,hb,ho1,hres⟩=>?_;subst he;have hlow:∀b,b<w.heap.size→w'.heap[b]? =w.heap[b]?:=λb hb'=>hb.block b hb';have ho2:∀b m M,o1 b=some (m::M)→oun n w.heap.size g.o o1 b=some ((n+m)::M):=by
  intro b m M hb';have:=(ho1 b _ hb').1;simp only[oun];rw[if_neg (by omega),hb']
 have ho3:∀b,b<w.heap.size→oun n w.heap.size g.o o1 b=g.o b:=λb hb'=>by simp only[oun];rw[if_pos hb']
 have hρ1:∀id bk,g.ρ id=some bk→ρun n (λj=>(Q2O v).getD j undef) (flat res) g.ρ id=some bk:=by
  intro id bk hid;simp only[ρun];rw[if_neg]
  ·exact hid
  intro hr;rw[hfr id hr.1 hr.2]at hid;cases hid
 have hρ2:∀id bk,ρun n (λj=>(Q2O v).getD j undef) (flat res) g.ρ id=some bk→g.ρ id=none→∃m sz es,m<(flat res).length∧id=n+m∧(flat res).getD m .bot= .lst true sz es∧bk=Q7F ((Q2O v).getD m undef) sz:=by
  intro id bk hid hn;simp only[ρun]at hid;split at hid
  ·rename_i hr;split at hid
   ·rename_i sz es hcell;simp only[qA]at hid;exact⟨id - n,sz,es,by omega,by omega,hcell,hid.symm⟩
   cases hid
  rw[hn]at hid;cases hid
 have hent:∀m sz es,m<(flat res).length→(flat res).getD m .bot= .lst true sz es→h (n+m)=some (.row sz es):=by
  intro m sz es hm he;exact hnew (n+m,.row sz es) ((Q8K n (flat res) 0 _).2 ⟨m,sz,es,hm,he,by simp⟩)
 refine k v w' (oun n w.heap.size g.o o1) (ρun n (λj=>(Q2O v).getD j undef) (flat res) g.ρ) ⟨λb hb'=>?_,λb L hb'=>?_,hb.os.trans W.os,tpt hb.tape W.tape,hb.output.trans W.output,Nat.le_trans W.size hb.size,λb hb' hw=>?_⟩ ?_ hρ1 ?_ ?_ (λb hb'=>hlow b (W.R b hb').1)
 ·have:=W.R b hb';exact⟨qN this.1 hb.size,by show oun n w.heap.size g.o o1 b=none;rw[ho3 b this.1];exact this.2⟩
 ·have hb2:oun n w.heap.size g.o o1 b=some L:=hb'
  by_cases hlt:b<w.heap.size
  ·rw[ho3 b hlt]at hb2;exact⟨qN hlt hb.size,(W.o b L hb2).2⟩
  simp only[oun]at hb2;rw[if_neg hlt]at hb2;split at hb2
  ·rename_i m M hm;exact⟨(ho1 b _ hm).2,.inl (by have:=W.size;omega)⟩
  cases hb2
 ·rw[hlow b (by have:=W.size;omega)];exact W.keep b hb' hw
 ·rw[QH rfl rfl];refine H.mono (λb hb'=>hlow b (W.R b hb').1) (λb L hb'=>⟨by rw[ho3 b (W.o b L hb').1];exact hb',hlow b (W.o b L hb').1⟩) hρ1 ?_ ?_ ?_ ?_
  ·intro id sz es bk h1 h2 h3;obtain⟨m,sz',es',hm,rfl,hcell,_⟩:=hρ2 id bk h3 h2;rw[hent m sz' es' hm hcell]at h1;cases h1
  ·intro id sz es bk h1 h2 h3;obtain⟨m,sz',es',hm,rfl,hcell,rfl⟩:=hρ2 id bk h3 h2;rw[hent m sz' es' hm hcell]at h1;cases h1;have ht:=hres.cell m hm;rw[hcell]at ht;refine⟨_,(ht.anyR (R':=g.R)).mono (R':=g.R) [n+m] λb M hb'=>⟨ho2 b m M (by simpa using hb'),rfl⟩,?_⟩;generalize (Q2O v).getD m undef=u at ht⊢;cases ht with
   |nil=>exact .nil
   |own=>exact .own
  ·intro id c i k' sz bk h1 h2 h3;obtain⟨m,sz',es',hm,rfl,hcell,_⟩:=hρ2 id bk h3 h2;rw[hent m sz' es' hm hcell]at h1;cases h1
  intro id kd es bk h1 h2 h3;obtain⟨m,sz',es',hm,rfl,hcell,_⟩:=hρ2 id bk h3 h2;rw[hent m sz' es' hm hcell]at h1;cases h1
 ·intro id bk hid;cases hg:g.ρ id with
  |some bk'=>have:=hρ1 id bk' hg;rw[hid]at this;exact .inl this.symm
  |none=>
   obtain⟨m,sz',es',hm,rfl,_⟩:=hρ2 id bk hid hg;exact .inr ⟨by omega,by simp only[unk];omega⟩
 refine un_res hres λm sz es hm hcell=>?_;simp only[ρun];rw[if_pos (by omega),show n+m - n=m by omega,hcell]
theorem step_call(hev:∀x,XRel w g.R g.ρ (a.eval x) (ev x))(W:WF C w g)(H:HRel w g h){o:Oper}{cl:Call}{x:Operand}{f:Nat}{caps bs:List AV}{res:AV}(hnew:∀p∈(unk n res).new,h p.1=some p.2)(hfr:∀id,n≤id→id<n+(unk n res).cnt→g.ρ id=none)(ho:o.op= .call cl)(hc:cl.callee= .value x)(hx:ev x= .fn f caps)(hp:PurL h (cl.args.toList.map ev++caps) bs)(hcon:Contract P f bs res):StepR P C o a w g h n (unk n res):=by
 have hxx:=hev x;rw[hx]at hxx;obtain⟨cs,hxv,hcl,hcr⟩:=hxx.fn_eq;obtain⟨fn,e1,e2,e3⟩:=hcon.enters;have hrun:(execOp a.eval o).run P w= .ok (.enter f (cl.args.map a.eval++cs)) w:=by
  obtain⟨body,e3'⟩:=Option.isSome_iff_exists.1 e3;have e2':fn.name≠"runtime.NumGoroutine" :=by simpa using e2
  simp[execOp,ho,resolve,hc,hxv,Deferred.ofValue,invoke,callFunc,e1,e2',e3']
 exact Q6H W H hnew hfr hrun (Q4B hev hcl hcr).1 (Q4B hev hcl hcr).2 hp hcon
theorem Q9S(hev:∀x,XRel w g.R g.ρ (a.eval x) (ev x))(W:WF C w g)(H:HRel w g h){o:Oper}{cl:Call}{x:Operand}{f:Nat}{caps bs:List AV}{res:AV}(hnew:∀p∈(unk n res).new,h p.1=some p.2)(hfr:∀id,n≤id→id<n+(unk n res).cnt→g.ρ id=none)(ho:o.op= .call cl)(hc:cl.callee= .value x)(hx:ev x= .bnd f caps)(hp:PurL h (caps++cl.args.toList.map ev) bs)(hcon:Contract P f bs res):StepR P C o a w g h n (unk n res):=by
 have hxx:=hev x;rw[hx]at hxx;obtain⟨cs,hxv,hcl,hcr⟩:=hxx.bnd_eq;obtain⟨fn,e1,e2,e3⟩:=hcon.enters;have hrun:(execOp a.eval o).run P w= .ok (.enter f (cs++cl.args.map a.eval)) w:=by
  obtain⟨body,e3'⟩:=Option.isSome_iff_exists.1 e3;have e2':fn.name≠"runtime.NumGoroutine" :=by simpa using e2
  simp[execOp,ho,resolve,hc,hxv,Deferred.ofValue,invoke,callFunc,e1,e2',e3']
 exact Q6H W H hnew hfr hrun (Q4C hev hcl hcr).1 (Q4C hev hcl hcr).2 hp hcon
theorem Q9V(hev:∀x,XRel w g.R g.ρ (a.eval x) (ev x))(W:WF C w g)(H:HRel w g h){o:Oper}{cl:Call}{x:Operand}{f:Nat}{caps:List AV}(hlim:∀id k,g.ρ id=some k→id<n)(hnew:∀p∈e.new,h p.1=some p.2)(ho:o.op= .call cl)(hc:cl.callee= .value x)(hx:ev x= .fn f caps)(hcon:ICon P f (cl.args.toList.map ev++caps) h n e):Step P C o a w g h n e:=by
 intro K Q k;have hxx:=hev x;rw[hx]at hxx;obtain⟨cs,hxv,hcl,hcr⟩:=hxx.fn_eq;obtain⟨fn,e1,e2,e3⟩:=hcon.enters;have hrun:(execOp a.eval o).run P w= .ok (.enter f (cl.args.map a.eval++cs)) w:=by
  obtain⟨body,e3'⟩:=Option.isSome_iff_exists.1 e3;have e2':fn.name≠"runtime.NumGoroutine" :=by simpa using e2
  simp[execOp,ho,resolve,hc,hxv,Deferred.ofValue,invoke,callFunc,e1,e2',e3']
 have hargs:=hcon.calls C w g h (cl.args.map a.eval++cs) (λ_ _=>rfl) hnew hlim W H (by simp;omega) (λj hj=>by
  by_cases hlt:j<cl.args.size
  ·have h1:(cl.args.map a.eval++cs).getD j undef=a.eval (cl.args[j]):=by
    simp[Array.getElem?_append,hlt]
   have h2:(cl.args.toList.map ev++caps).getD j .bot=ev (cl.args[j]):=by
    simp[qB,List.getElem?_append,hlt]
   rw[h1,h2];exact hev _
  have hjc:j - cl.args.size<caps.length:=by simp at hj;omega
  have h1:(cl.args.map a.eval++cs).getD j undef=cs.getD (j - cl.args.size) undef:=by
   simp[Array.getElem?_append,hlt]
  have h2:(cl.args.toList.map ev++caps).getD j .bot=caps.getD (j - cl.args.size) .bot:=by
   simp[qB,List.getElem?_append,hlt]
  rw[h1,h2];exact hcr _ hjc)
 unfold Oper.wpU;rw[hrun,Oper.uponU_enter];refine⟨rfl,?_⟩;refine hargs.mono λex w' ⟨v,R',o',ρ',he,q0,q1,q2,q3,q4,q5,q6⟩=>?_;subst he;exact k v w' R' o' ρ' q0 q1 q2 q3 q4 q5 q6
theorem AOp.step{o:Oper}(hop:AOp P mt o.op ev h n e)(hlim:lim mt o.op=true→∀id k,g.ρ id=some k→id<n)(hev:∀x,XRel w g.R g.ρ (a.eval x) (ev x))(W:WF C w g)(H:HRel w g h)(hnew:∀p∈e.new,h p.1=some p.2)(hfr:∀id,n≤id→id<n+e.cnt→g.ρ id=none):Step P C o a w g h n e:=by
 cases hop with
 |blt he hc=>exact(opF_step hev W H hnew hfr he hc).step
 |call h1 h2 h3 h4 h5=>exact(step_call hev W H hnew hfr h1 h2 h3 h4 h5).step
 |@mcall cl x f caps args ms res m Pt sets dels h0 h1 h2 h3 h4 h5 h6 h7 h8=>
  exact(step_mut hev W H (hlim (by simp[lim,h0])) h1 h2 h3 h4 h5 h6 h7 h8).step
 |@icall cl x f caps _ h0 h1 h2 h3 h4=>
  exact Q9V hev W H (hlim (by simp[lim,h0])) hnew h1 h2 h3 h4
 |boxr h1 h2=>exact step_boxr hev W H h1 h2
 |appM h1 h2 h3 h4=>exact(step_appM hev W H hnew hfr h1 h2 h3 h4).step
 |fcall h1 h2 h3 h4 h5=>exact Q9T hev W H h1 h2 h3 h4 h5
 |fcallb h1 h2 h3 h4 h5=>exact Q8F hev W H h1 h2 h3 h4 h5
 |mki h1 h2 h3=>exact(step_mki hev W H h1 h2 h3).step
 |mkis h1 h2 h3=>exact(step_mkis hev W H h1 h2 h3).step
 |tas h1 h2 h3=>exact(step_tas hev W H h1 h2 h3).step
 |callb h1 h2 h3 h4 h5=>exact(Q9S hev W H hnew hfr h1 h2 h3 h4 h5).step
 |mapo he hc=>exact(step_mapF hev W H hnew hfr he hc).step
 |mkz h1 h2 h3 h4=>exact(Q8H hev W H hnew hfr h1 h2 h3 h4).step
 |cvs h1 h2 h3 h4=>exact(step_cvs hev W H h1 h2 h3 h4).step
 |sl3 h1 h2 h3 h4=>exact(Q8I hev W H h1 h2 h3 h4).step
 |mkf h1=>exact(step_mkf hev W H h1).step
 |mkb h1=>exact(step_mkb hev W H h1).step
 |mpx h0 h1=>exact h1.step rfl (λ_ _ h=>h) (λx _=>hev x) W H hnew hfr
 |sem h0 h1=>exact h1.step rfl (λ_ _ h=>h) (λ_ _=>rfl) (hlim (by simp[lim,h0])) (λx _=>hev x) W H hnew hfr
 |sto h1 h2 h3 h4 h5=>exact(step_sto hev W H (hlim (by simp[lim,isSto,h1])) h1 h2 h3 h4 h5).step
 |stg h1 h2 h3 h4 h5 h6=>exact(step_stg hev W H (hlim (by simp[lim,isSto,h1])) h1 h2 h3 h4 h5 h6).step
theorem Q9M{ty:Option Tyi}{s y z:AV}{c:Prop}(he:Q3P ty h s y z=some (c,e)):∃v,e={v:=v}:=by
 unfold Q3P at he;split at he
 ·split at he
  ·split at he
   ·simp only[qA,qC]at he;exact⟨_,he.2.symm⟩
   cases he
  cases he
 cases he
theorem Q9N{h':HP}(hs:∀id x,h id=some x→h' id=some x){ty:Option Tyi}{s y z:AV}{c:Prop}(he:Q3P ty h s y z=some (c,e)):Q3P ty h' s y z=some (c,e):=by
 unfold Q3P at he⊢;split at he
 ·split at he
  ·rename_i hb;rw[Q24 hs hb];exact he
  cases he
 cases he
theorem PurTo.up{h':HP}(hs:∀id x,h id=some x→h' id=some x){x y:AV}(hp:PurTo h x y):PurTo h' x y:=by
 have hm:∀id,Qm (h id)=false→∀{d:Nat} {q},cont h d id=some q→Qm (h' id)=false:=by
  intro id hm d q hc;cases he:h id with
  |none=>cases d<;>simp[cont,he]at hc
  |some e=>rw[hs id e he];rw[he]at hm;exact hm
 induction hp with
 |val=>exact .val
 |nil=>exact .nil
 |lst=>exact .lst
 |rptr=>exact .rptr
 |pre=>exact .pre
 |mp h1 hk=>exact .mp (hs _ _ h1) hk
 |cmap=>exact .cmap
 |cmapM=>exact .cmapM
 |mpG h1=>exact .mpG (hs _ _ h1)
 |row h1 h2 h3 h4=>exact .row (Q24 hs h1) (hm _ h2 h1) h3 h4
 |mix h1 h2 h3 h4 _ ih=>exact .mix (hs _ _ h1) h2 h3 h4 ih
 |adr h1 h2 h3 _ ih=>exact .adr (hs _ _ h1) h2 h3 ih
 |adrRow h1 h2 h3 h4 h5=>exact .adrRow (Q24 hs h1) (hm _ h2 h1) h3 h4 h5
 |agg h1 _ ih=>exact .agg h1 ih
 |fn h1 h2 _ ih=>exact .fn h1 h2 ih
 |bnd h1 h2 _ ih=>exact .bnd h1 h2 ih
 |ifc h1 h2 _ ih=>exact .ifc h1 h2 ih
 |ifs=>exact .ifs
theorem AOp.up{op:Op}{h':HP}(hs:∀id x,h id=some x→h' id=some x)(hlt:∀id,id<n→h' id=h id)(hop:AOp P mt op ev h n e):AOp P mt op ev h' n e:=by
 cases hop with
 |blt he hc=>exact .blt (opF_up hs he) hc
 |call h1 h2 h3 h4 h5=>exact .call h1 h2 h3 ⟨h4.1,λk hk=>(h4.2 k hk).up hs⟩ h5
 |mcall h0 h1 h2 h3 h4 h5 h6 h7 h8=>exact .mcall h0 h1 h2 h3 h4 (h5.up hs hlt) h6 h7 h8
 |icall h0 h1 h2 h3 h4=>exact .icall h0 h1 h2 h3 (h4.up hlt hs)
 |boxr h1 h2=>exact .boxr h1 h2
 |appM h1 h2 h3 h4=>exact .appM h1 h2 (appM_up hs h3) h4
 |@fcall cl x f caps bs res keep h1 h2 h3 h4 h5=>exact .fcall h1 h2 h3 ⟨h4.1,λk hk=>by have:=h4.2 k hk;cases keep with|true=>exact this|false=>exact this.up hs⟩ h5
 |@fcallb cl x f rs bs res keep h1 h2 h3 h4 h5=>exact .fcallb h1 h2 h3 ⟨h4.1,λk hk=>by have:=h4.2 k hk;cases keep with|true=>exact this|false=>exact this.up hs⟩ h5
 |mki h1 h2 h3=>exact .mki h1 h2 h3
 |mkis h1 h2 h3=>exact .mkis h1 h2 h3
 |tas h1 h2 h3=>exact .tas h1 h2 h3
 |callb h1 h2 h3 h4 h5=>exact .callb h1 h2 h3 ⟨h4.1,λk hk=>(h4.2 k hk).up hs⟩ h5
 |mapo he hc=>exact .mapo (mapF_up hs he) hc
 |mkz h1 h2 h3 h4=>exact .mkz h1 h2 h3 h4
 |cvs h1 h2 h3 h4=>exact .cvs h1 h2 h3 (hs _ _ h4)
 |sl3 h1 h2 h3 h4=>exact .sl3 h1 h2 (Q9N hs h3) h4
 |mkf h1=>exact .mkf h1
 |mkb h1=>exact .mkb h1
 |mpx h0 h1=>exact .mpx h0 ⟨h1.fine,h1.calm,λq=>by obtain⟨⟨id,kd,es,kd',es',r1,r2,r3⟩,r4⟩:=h1.me q;exact⟨⟨id,kd,es,kd',es',r1,hs _ _ r2,r3⟩,λd hd=>by obtain⟨s1,kd2,es2,s2⟩:=r4 d hd;exact⟨s1,kd2,es2,hs _ _ s2⟩⟩,λq1 q2=>h1.step q1 (λid x hx=>q2 id x (hs id x hx))⟩
 |sem h0 h1=>exact .sem h0 ⟨h1.kind,h1.fine,λq1 q2 q3=>h1.step q1 (λid x hx=>q2 id x (hs id x hx)) (λid hid=>(q3 id hid).trans (hlt id hid))⟩
 |sto h1 h2 h3 h4 h5=>exact .sto h1 h2 h3 h4 (h5.up hs hlt)
 |stg h1 h2 h3 h4 h5 h6=>exact .stg h1 h2 h3 h4 h5 (h6.up hs hlt)
theorem AOp.congr{op:Op}{ev':Operand→AV}(hh:∀x∈op.operands,ev x=ev' x)(hop:AOp P mt op ev h n e):AOp P mt op ev' h n e:=by
 cases hop with
 |blt he hc=>exact .blt (by rw[←opF_congr hh];exact he) hc
 |@call cl x f caps bs res h1 h2 h3 h4 h5=>
  subst h1;have hm:cl.args.toList.map ev=cl.args.toList.map ev':=zU λy hy=>hh y (by simp[qJ,Call.operands];exact .inr (by simpa using hy));refine .call rfl h2 ?_ (by rw[←hm];exact h4) h5;rw[←hh x (by simp[qJ,Call.operands,h2])];exact h3
 |@mcall cl x f caps args ms res m Pt sets dels h0 h1 h2 h3 h4 h5 h6 h7 h8=>
  subst h1;have hm:cl.args.toList.map ev=cl.args.toList.map ev':=zU λy hy=>hh y (by simp[qJ,Call.operands];exact .inr (by simpa using hy));rw[hm]at h6 h7 h8;exact .mcall h0 rfl h2 (by rw[←hh x (by simp[qJ,Call.operands,h2])];exact h3) h4 h5 h6 h7 h8
 |@icall cl x f caps _ h0 h1 h2 h3 h4=>
  subst h1;have hm:cl.args.toList.map ev=cl.args.toList.map ev':=zU λy hy=>hh y (by simp[qJ,Call.operands];exact .inr (by simpa using hy));rw[hm]at h4;exact .icall h0 rfl h2 (by rw[←hh x (by simp[qJ,Call.operands,h2])];exact h3) h4
 |@boxr t x c e h1 h2=>
  subst h1;exact .boxr rfl (by rw[←hh x (by simp[qJ])];exact h2)
 |@appM t et s x c e h1 h2 h3 h4=>
  subst h1;exact .appM rfl h2 (by rw[←hh s (by simp[qJ,Call.operands]),←hh x (by simp[qJ,Call.operands])];exact h3) h4
 |@fcall cl x f caps bs res keep h1 h2 h3 h4 h5=>
  subst h1;have hm:cl.args.toList.map ev=cl.args.toList.map ev':=zU λy hy=>hh y (by simp[qJ,Call.operands];exact .inr (by simpa using hy));refine .fcall rfl h2 ?_ (by rw[←hm];exact h4) h5;rw[←hh x (by simp[qJ,Call.operands,h2])];exact h3
 |@fcallb cl x f caps bs res keep h1 h2 h3 h4 h5=>
  subst h1;have hm:cl.args.toList.map ev=cl.args.toList.map ev':=zU λy hy=>hh y (by simp[qJ,Call.operands];exact .inr (by simpa using hy));refine .fcallb rfl h2 ?_ (by rw[←hm];exact h4) h5;rw[←hh x (by simp[qJ,Call.operands,h2])];exact h3
 |@mki t x cs h1 h2 h3=>
  subst h1;exact .mki rfl h2 (by rw[←hh x (by simp[qJ])];exact h3)
 |@mkis t x u sz es h1 h2 h3=>
  subst h1;exact .mkis rfl h2 (by rw[←hh x (by simp[qJ])];exact h3)
 |@tas x xt s t sz es h1 h2 h3=>
  subst h1;exact .tas rfl h2 (by rw[←hh x (by simp[qJ])];exact h3)
 |@callb cl x f caps bs res h1 h2 h3 h4 h5=>
  subst h1;have hm:cl.args.toList.map ev=cl.args.toList.map ev':=zU λy hy=>hh y (by simp[qJ,Call.operands];exact .inr (by simpa using hy));refine .callb rfl h2 ?_ (by rw[←hm];exact h4) h5;rw[←hh x (by simp[qJ,Call.operands,h2])];exact h3
 |mapo he hc=>exact .mapo (by rw[←Q9E hh];exact he) hc
 |@cvs s d e x id ns h1 h2 h3 h4=>
  subst h1;exact .cvs rfl h2 (by rw[←hh x (by simp[qJ])];exact h3) h4
 |@sl3 t x y z et c e h1 h2 h3 h4=>
  subst h1;exact .sl3 rfl h2 (by rw[←hh x (by simp[qJ]),←hh y (by simp[qJ]),←hh z (by simp[qJ])];exact h3) h4
 |@mkf f caps h1=>
  subst h1;have hm:caps.toList.map ev=caps.toList.map ev':=zU λy hy=>hh y (by simpa[qJ]using hy);rw[hm];exact .mkf rfl
 |@mkb f caps h1=>
  subst h1;have hm:caps.toList.map ev=caps.toList.map ev':=zU λy hy=>hh y (by simpa[qJ]using hy);rw[hm];exact .mkb rfl
 |mpx h0 h1=>exact .mpx h0 ⟨h1.fine,h1.calm,λq=>by obtain⟨⟨id,kd,es,kd',es',⟨x,x1,x2⟩,r2⟩,r4⟩:=h1.me q;exact⟨⟨id,kd,es,kd',es',⟨x,x1,by rw[←hh x x1];exact x2⟩,r2⟩,λd hd=>by obtain⟨⟨y,y1,y2⟩,s2⟩:=r4 d hd;exact⟨⟨y,y1,by rw[←hh y y1];exact y2⟩,s2⟩⟩,λq1 q2 q5=>h1.step q1 q2 λx hx=>by rw[hh x hx];exact q5 x hx⟩
 |sem h0 h1=>exact .sem h0 ⟨h1.kind,h1.fine,λq1 q2 q3 q4 q5=>h1.step q1 q2 q3 q4 λx hx=>by rw[hh x hx];exact q5 x hx⟩
 |@mkz t l cc et e2 c e h1 h2 h3 h4=>
  subst h1;exact .mkz rfl h2 (by rw[←hh l (by simp[qJ]),←hh cc (by simp[qJ])];exact h3) h4
 |@sto t x y ty id i k b sz es ds dels h1 h2 h3 h4 h5=>
  subst h1;rw[hh x (by simp[qJ])]at h4;rw[hh y (by simp[qJ])]at h5;exact .sto rfl h2 h3 h4 h5
 |@stg t x y ty id i az bs sz es ds dels h1 h2 h3 h4 h5 h6=>
  subst h1;rw[hh x (by simp[qJ])]at h4;rw[hh y (by simp[qJ])]at h5;exact .stg rfl h2 h3 h4 h5 h6
theorem AOp.fine{op:Op}(hlt:∀id x,h id=some x→id<n)(hop:AOp P mt op ev h n e):e.fine n∧(wrM mt op=false→e.set=[]∧e.del=[]):=by
 cases hop with
 |blt he hc=>exact⟨(Q9g hlt he).1,λhw=>(Q9g hlt he).2 (by simp only[wrM,zV]at hw;exact hw.1)⟩
 |call h1 h2=>exact⟨Q9o _ _,λ_=>⟨rfl,rfl⟩⟩
 |callb h1 h2=>exact⟨Q9o _ _,λ_=>⟨rfl,rfl⟩⟩
 |@mcall cl x f caps args ms res m Pt sets dels h0 h1 h2 h3 h4 h5 h6 h7 h8=>
  refine⟨⟨by simp,by simp,h5.hdels,h5.nodup,λp hp=>?_⟩,λhw=>?_⟩
  ·obtain⟨sz,es,fs,hr,_⟩:=h5.hsets p.1 p.2 (QQ h5.nodup hp);exact hlt _ _ hr
  rw[wM h0]at hw;cases hw
 |@icall cl x f caps _ h0 h1 h2 h3 h4=>
  refine⟨h4.fine hlt,λhw=>?_⟩;rw[wM h0]at hw;cases hw
 |@boxr t x c e h1 h2=>
  unfold Vc.boxr at h2;split at h2
  ·simp only[qA,qC]at h2;obtain⟨_,rfl⟩:=h2;exact⟨⟨by simp,by simp,by simp,Q1W rfl⟩,λ_=>⟨rfl,rfl⟩⟩
  cases h2
 |appM h1 h2 h3 h4=>exact⟨appM_fine hlt h3,λhw=>by subst h1;simp[wrM,Q1f]at hw⟩
 |fcall h1 h2 h3 h4 h5=>exact⟨⟨by simp,by simp,by simp,Q1W rfl⟩,λ_=>⟨rfl,rfl⟩⟩
 |fcallb h1 h2 h3 h4 h5=>exact⟨⟨by simp,by simp,by simp,Q1W rfl⟩,λ_=>⟨rfl,rfl⟩⟩
 |mki h1=>exact⟨⟨by simp,by simp,by simp,Q1W rfl⟩,λ_=>⟨rfl,rfl⟩⟩
 |mkis h1=>exact⟨⟨by simp,by simp,by simp,Q1W rfl⟩,λ_=>⟨rfl,rfl⟩⟩
 |tas h1=>exact⟨⟨by simp,by simp,by simp,Q1W rfl⟩,λ_=>⟨rfl,rfl⟩⟩
 |mapo he hc=>exact⟨(Q7P hlt he).1,λhw=>(Q7P hlt he).2.1 (by simp only[wrM,zV]at hw;exact hw.1)⟩
 |mkz h1 h2 h3 h4=>exact⟨(Q5W h3).1,λ_=>(Q5W h3).2⟩
 |cvs h1 h2 h3 h4=>exact⟨⟨by simp,by simp,by simp,Q1W rfl⟩,λ_=>⟨rfl,rfl⟩⟩
 |sl3 h1 h2 h3 h4=>obtain⟨v,rfl⟩:=Q9M h3;exact⟨⟨by simp,by simp,by simp,Q1W rfl⟩,λ_=>⟨rfl,rfl⟩⟩
 |mkf h1=>exact⟨⟨by simp,by simp,by simp,Q1W rfl⟩,λ_=>⟨rfl,rfl⟩⟩
 |mkb h1=>exact⟨⟨by simp,by simp,by simp,Q1W rfl⟩,λ_=>⟨rfl,rfl⟩⟩
 |mpx h0 h1=>exact⟨h1.fine,λhw=>h1.calm (by simp only[wrM,zV]at hw;exact hw.1)⟩
 |sem h0 h1=>
  refine⟨h1.fine,λhw=>?_⟩;rw[wM h0]at hw;cases hw
 |sto h1 h2 h3 h4 h5=>exact⟨⟨by simp,by simp,h5.lt,Q9m rfl (hlt _ _ h5.ent)⟩,λhw=>by simp[wrM,h1,Q1f]at hw⟩
 |stg h1 h2 h3 h4 _ h5=>exact⟨⟨by simp,by simp,h5.lt,Q9m rfl (hlt _ _ h5.ent)⟩,λhw=>by simp[wrM,h1,Q1f]at hw⟩
def Q1b:Op→Bool
 | .move _|.assign _|.nilCheck _|.fieldAddr ..|.load ..|.indexAddr ..=>true
 | .slice _ _ _ _ none=>true
 |_=>false
theorem AOp.plain{op:Op}(hp:Q1b op=true)(hop:AOp P mt op ev h n e):∃c,opF P op ev h n=some (c,e)∧c:=by
 cases hop with
 |blt he hc=>exact⟨_,he,hc⟩
 |mpx h0 h1=>cases op<;>simp_all[Q4I,Q1b]
 |sem h0 h1=>have:=h1.kind;cases op<;>simp_all[Q1f,Q32,Q1b]
 |mapo he hc=>cases op<;>simp_all[Q1b,mapF]
 |mcall _ h1=>subst h1;simp[Q1b]at hp
 |icall _ h1=>subst h1;simp[Q1b]at hp
 |call h1=>subst h1;simp[Q1b]at hp
 |mki h1=>subst h1;simp[Q1b]at hp
 |mkis h1=>subst h1;simp[Q1b]at hp
 |tas h1=>subst h1;simp[Q1b]at hp
 |boxr h1=>subst h1;simp[Q1b]at hp
 |appM h1=>subst h1;simp[Q1b]at hp
 |fcall h1=>subst h1;simp[Q1b]at hp
 |mkz h1=>subst h1;simp[Q1b]at hp
 |sl3 h1=>subst h1;simp[Q1b]at hp
 |cvs h1=>subst h1;simp[Q1b]at hp
 |callb h1=>subst h1;simp[Q1b]at hp
 |fcallb h1=>subst h1;simp[Q1b]at hp
 |mkb h1=>subst h1;simp[Q1b]at hp
 |mkf h1=>subst h1;simp[Q1b]at hp
 |sto h1=>subst h1;simp[Q1b]at hp
 |stg h1=>subst h1;simp[Q1b]at hp
theorem Q6Z{ty:Option Tyi}{a:AV}(hr:RoV a)(h h':HP)(n:Nat):Q1X ty a h n=Q1X ty a h' n∧∀c e,Q1X ty a h n=some (c,e)→e.calm∧RoV e.v:=by
 cases ty with
 |none=>exact⟨rfl,λc e he=>by simp[Q1X]at he⟩
 |some T=>
  cases hr with
  |rptr hc=>
   refine⟨rfl,λc e he=>?_⟩;simp only[Q1X,qA,qC]at he;obtain⟨_,rfl⟩:=he;refine⟨⟨rfl,rfl,rfl,rfl⟩,?_⟩;cases T.agg with
   |true=>exact .agg λc hc'=>hc c (List.mem_of_mem_take hc')
   |false=>exact RoV.getD hc 0
  |_=>exact⟨rfl,λc e he=>by simp[Q1X]at he⟩
theorem Q53{ty:Option Tyi}{x i:AV}(hr:RoV x)(h h':HP):QY ty x i h=QY ty x i h'∧∀c e,QY ty x i h=some (c,e)→e.calm∧RoV e.v:=by
 cases ty with
 |none=>exact⟨rfl,λc e he=>by simp[QY]at he⟩
 |some T=>
  cases hr with
  |lst hc=>
   cases i with
   |val v=>
    cases v with
    |int k j=>
     refine⟨rfl,λc e he=>?_⟩;simp only[QY]at he;split at he
     ·simp only[qA,qC]at he;obtain⟨_,rfl⟩:=he;exact⟨⟨rfl,rfl,rfl,rfl⟩,.rptr (RoV.rows hc _)⟩
     cases he
    |_=>exact⟨rfl,λc e he=>by simp[QY]at he⟩
   |_=>exact⟨rfl,λc e he=>by simp[QY]at he⟩
  |_=>cases i with
   |val v=>cases v<;>exact⟨rfl,λc e he=>by simp[QY]at he⟩
   |_=>exact⟨rfl,λc e he=>by simp[QY]at he⟩
theorem Q9O{T:Tyi}{x:AV}(hr:RoV x)(h h':HP)(lo hi:Int):Q1E T h x lo hi=Q1E T h' x lo hi∧∀c e,Q1E T h x lo hi=some (c,e)→e.calm∧RoV e.v:=by
 cases hr with
 |lst hc=>
  refine⟨rfl,λc e he=>?_⟩;simp only[Q1E]at he;split at he
  ·simp only[qA,qC]at he;obtain⟨_,rfl⟩:=he;exact⟨⟨rfl,rfl,rfl,rfl⟩,.lst λr hr=>hc r (List.mem_of_mem_drop (List.mem_of_mem_take hr))⟩
  cases he
 |_=>exact⟨rfl,λc e he=>by simp[Q1E]at he⟩
theorem Q64{ty:Option Tyi}{x:AV}{lo hi:Option AV}(hr:RoV x)(h h':HP):Q46 ty h x lo hi=Q46 ty h' x lo hi∧∀c e,Q46 ty h x lo hi=some (c,e)→e.calm∧RoV e.v:=by
 unfold Q46;split<;>first|exact Q9O hr h h' _ _|exact⟨rfl,λc e he=>by cases he⟩
theorem AOp.calmR{op:Op}{t:Nat}(ht:rdT op=some t)(hr:RoV (ev (.tmp t)))(hop:AOp P mt op ev h n e):e.calm∧∀h',AOp P mt op ev h' n e:=by
 unfold rdT at ht;split at ht
 ·rename_i ty t';cases ht;obtain⟨c,he,hc⟩:=hop.plain rfl;exact⟨((Q6Z hr h h n).2 c e he).1,λh'=>.blt (show Q1X (tyi P ty) (ev (.tmp t)) h' n=some (c,e) from(Q6Z hr h h' n).1▸he) hc⟩
 ·rename_i ty t' i;cases ht;obtain⟨c,he,hc⟩:=hop.plain rfl;simp only[opF]at he;split at he
  ·rename_i et hel;exact⟨((Q53 hr h h).2 c e he).1,λh'=>.blt (by simp only[opF,hel];rw[←(Q53 hr h h').1];exact he) hc⟩
  cases he
 ·rename_i ty t' lo hi;cases ht;obtain⟨c,he,hc⟩:=hop.plain rfl;simp only[opF]at he;split at he
  ·rename_i et hel;exact⟨((Q64 hr h h).2 c e he).1,λh'=>.blt (by simp only[opF,hel];rw[←(Q64 hr h h').1];exact he) hc⟩
  cases he
 cases ht
def gives(LA:List Nat):Op→Bool
 | .move (.tmp t)=>LA.contains t
 | .assign (.tmp t)=>LA.contains t
 | .nilCheck (.tmp t)=>LA.contains t
 | .fieldAddr _ (.tmp t) _=>LA.contains t
 | .load _ (.tmp t)=>LA.contains t
 | .indexAddr _ (.tmp t) _=>LA.contains t
 | .slice _ (.tmp t) _ _ none=>LA.contains t
 |_=>false
theorem AOp.roVal{op:Op}{LA:List Nat}(hg:gives LA op=true)(hr:∀t∈LA,RoV (ev (.tmp t)))(hop:AOp P mt op ev h n e):RoV e.v:=by
 unfold gives at hg;split at hg
 ·rename_i t;obtain⟨c,he,hc⟩:=hop.plain rfl;have hv:=hr t (by simpa using hg);simp only[opF,qA,qC]at he;obtain⟨_,rfl⟩:=he;exact hv
 ·rename_i t;obtain⟨c,he,hc⟩:=hop.plain rfl;have hv:=hr t (by simpa using hg);simp only[opF,qA,qC]at he;obtain⟨_,rfl⟩:=he;exact hv
 ·rename_i t;obtain⟨c,he,hc⟩:=hop.plain rfl;have hv:=hr t (by simpa using hg);simp only[opF]at he;unfold nilCheck at he;generalize ev (.tmp t)=v at he hv;split at he
  ·simp only[qA,qC]at he;obtain⟨_,rfl⟩:=he;exact hv
  ·simp only[qA,qC]at he;obtain⟨_,rfl⟩:=he;exact hv
  ·simp only[qA,qC]at he;obtain⟨_,rfl⟩:=he;exact hv
  cases he
 ·rename_i ty t k;obtain⟨c,he,hc⟩:=hop.plain rfl;have hv:=hr t (by simpa using hg);simp only[opF]at he;unfold fieldAddr at he;generalize ev (.tmp t)=v at he hv;split at he
  ·cases hv
  ·simp only[qA,qC]at he;obtain⟨_,rfl⟩:=he;cases hv with
   |rptr hcs=>exact .rptr λc hc'=>hcs c (List.mem_of_mem_drop hc')
  cases he
 ·rename_i ty t;obtain⟨c,he,hc⟩:=hop.plain rfl;have hv:=hr t (by simpa using hg);exact((Q6Z hv h h n).2 c e he).2
 ·rename_i ty t i;obtain⟨c,he,hc⟩:=hop.plain rfl;have hv:=hr t (by simpa using hg);simp only[opF]at he;split at he
  ·exact((Q53 hv h h).2 c e he).2
  cases he
 ·rename_i ty t lo hi;obtain⟨c,he,hc⟩:=hop.plain rfl;have hv:=hr t (by simpa using hg);simp only[opF]at he;split at he
  ·exact((Q64 hv h h).2 c e he).2
  cases he
 cases hg
theorem AOp.birth{op:Op}(hb:birth op=true)(hop:AOp P mt op ev h n e)(h':HP):AOp P mt op ev h' n e:=by
 have hw:(mt.on&&wrM mt op)=false:=birth_wr hb;cases hop with
 |blt he hc=>
  refine .blt ?_ hc;cases op<;>first|(simp[Go.Vc.birth]at hb;done)|exact he
 |mapo he hc=>
  cases op<;>first|(simp[Go.Vc.birth]at hb;done)|(simp[mapF]at he;done)
 |mcall h0=>rw[h0]at hw;cases hw
 |icall h0=>rw[h0]at hw;cases hw
 |mpx h0=>cases op<;>simp_all[Q4I,Go.Vc.birth]
 |sem h0=>rw[h0]at hw;cases hw
 |call h1=>subst h1;simp[Go.Vc.birth]at hb
 |mki h1=>subst h1;simp[Go.Vc.birth]at hb
 |mkis h1=>subst h1;simp[Go.Vc.birth]at hb
 |tas h1=>subst h1;simp[Go.Vc.birth]at hb
 |boxr h1=>subst h1;simp[Go.Vc.birth]at hb
 |appM h1=>subst h1;simp[Go.Vc.birth]at hb
 |fcall h1=>subst h1;simp[Go.Vc.birth]at hb
 |mkz h1=>subst h1;simp[Go.Vc.birth]at hb
 |sl3 h1=>subst h1;simp[Go.Vc.birth]at hb
 |cvs h1=>subst h1;simp[Go.Vc.birth]at hb
 |callb h1=>subst h1;simp[Go.Vc.birth]at hb
 |fcallb h1=>subst h1;simp[Go.Vc.birth]at hb
 |mkb h1=>subst h1;simp[Go.Vc.birth]at hb
 |mkf h1=>subst h1;simp[Go.Vc.birth]at hb
 |sto h1=>subst h1;simp[Go.Vc.birth]at hb
 |stg h1=>subst h1;simp[Go.Vc.birth]at hb
theorem AOp.me{op:Op}(hq:isMe op=true)(hop:AOp P mt op ev h n e)(hm:mt.on=false):MeEff op ev h e:=by
 cases hop with
 |mpx h0 h1=>exact h1.me hq
 |sem h0=>rw[hm]at h0;cases h0
 |blt h1=>cases op<;>simp_all[isMe,opF]
 |call h1=>subst h1;cases hq
 |mcall h0 h1=>subst h1;cases hq
 |icall h0 h1=>subst h1;cases hq
 |boxr h1=>subst h1;cases hq
 |appM h1=>subst h1;cases hq
 |fcall h1=>subst h1;cases hq
 |fcallb h1=>subst h1;cases hq
 |callb h1=>subst h1;cases hq
 |mapo h1=>cases op<;>simp_all[isMe,mapF]
 |mkz h1=>subst h1;cases hq
 |cvs h1=>subst h1;cases hq
 |sl3 h1=>subst h1;cases hq
 |mkf h1=>subst h1;cases hq
 |mkb h1=>subst h1;cases hq
 |mki h1=>subst h1;cases hq
 |mkis h1=>subst h1;cases hq
 |tas h1=>subst h1;cases hq
 |sto h1=>subst h1;cases hq
 |stg h1=>subst h1;cases hq
theorem AOp.mk{t:TypeId}(hop:AOp P mt (.makeMap t none) ev h n e)(h':HP):AOp P mt (.makeMap t none) ev h' n e:=by
 cases hop with
 |mapo h1 hc=>exact .mapo h1 hc
 |mpx h0=>cases h0
 |sem h0 h1=>have:=h1.kind;simp[Q1f,Q32]at this
 |blt h1=>simp[opF]at h1
 |call h1=>cases h1
 |mcall h0 h1=>cases h1
 |icall h0 h1=>cases h1
 |boxr h1=>cases h1
 |appM h1=>cases h1
 |fcall h1=>cases h1
 |fcallb h1=>cases h1
 |callb h1=>cases h1
 |mkz h1=>cases h1
 |cvs h1=>cases h1
 |sl3 h1=>cases h1
 |mkf h1=>cases h1
 |mkb h1=>cases h1
 |mki h1=>cases h1
 |mkis h1=>cases h1
 |tas h1=>cases h1
 |sto h1=>cases h1
 |stg h1=>cases h1
theorem AOp.calm{op:Op}(ht:Q14 op=false)(hop:AOp P mt op ev h n e):e.calm∧∀h',AOp P mt op ev h' n e:=by
 cases hop with
 |blt he hc=>
  obtain⟨h1,h2⟩:=Q9h ht he;exact⟨h1,λh'=>.blt (h2 h' n) hc⟩
 |@call cl x f caps bs res h1 h2=>
  subst h1;simp[Q14,h2]at ht
 |@mcall cl x f caps args ms res m Pt sets dels h0 h1 h2=>
  subst h1;simp[Q14,h2]at ht
 |@icall cl x f caps _ h0 h1 h2=>
  subst h1;simp[Q14,h2]at ht
 |boxr h1=>subst h1;simp[Q14]at ht
 |appM h1=>subst h1;simp[Q14]at ht
 |@fcall cl x f caps bs res keep h1 h2=>
  subst h1;simp[Q14,h2]at ht
 |@fcallb cl x f caps bs res keep h1 h2=>
  subst h1;simp[Q14,h2]at ht
 |mki h1=>subst h1;simp[Q14]at ht
 |mkis h1=>subst h1;simp[Q14]at ht
 |tas h1=>subst h1;simp[Q14]at ht
 |@callb cl x f caps bs res h1 h2=>
  subst h1;simp[Q14,h2]at ht
 |mapo he hc=>rw[Q9F he]at ht;cases ht
 |mkz h1=>subst h1;simp[Q14]at ht
 |cvs h1=>subst h1;simp[Q14]at ht
 |sl3 h1=>subst h1;simp[Q14]at ht
 |mkf h1=>subst h1;simp[Q14]at ht
 |mkb h1=>subst h1;simp[Q14]at ht
 |mpx h0=>cases op<;>simp_all[Q4I,Q14]
 |sem h0 h1=>
  have hk:=h1.kind;cases op<;>simp_all[Q14,Q1f,Q32];rename_i cl;obtain⟨ce,az,ts⟩:=cl;cases ce with
  |builtin b=>cases b<;>simp_all
  |_=>simp_all
 |sto h1=>subst h1;simp[Q14]at ht
 |stg h1=>subst h1;simp[Q14]at ht
end
def Q4v(ops:Array Oper)(o:Oper):List Nat:=
 (o.op.operands.toList.filterMap fun|.tmp t=>some t|_=>none)++
 (match o.guard with
  |some (j,_)=>((ops[j]?).bind (·.dst)).toList
  |none=>[])
def tch(mt:MT)(op:Op):Bool:=Q14 op&&!rdL mt.rd op
theorem tch0(op:Op):tch (false:Bool) op=Q14 op:=by
 have:rdL [] op=false:=by
  unfold rdL;split<;>rfl
 simp[tch,this]
def Q3m(mt:MT)(ops:Array Oper)(x y:Oper):Bool:=
 (match x.dst with
  |some d=>(Q4v ops y).contains d||y.dst==some d
  |none=>false)||
 (match y.dst with
  |some d=>(Q4v ops x).contains d
  |none=>false)||
 (wrM mt x.op&&tch mt y.op&&!easy mt x.op y.op)||(tch mt x.op&&wrM mt y.op)
def Q3i:List Oper→List Nat→List Nat
 |[],acc=>acc
 |o::r,acc=>Q3i r (acc++[o.after.toList.foldl (λs e=>if Region.binds .any e then s|||2 ^ e.on|||acc.getD e.on 0 else s) 0])
def Q4N(mt:MT)(ops:Array Oper):Bool:=
 let ms:=Q3i ops.toList []
 (List.range ops.size).all λj=>(List.range j).all λi=>
  match ops[i]?,ops[j]? with
  |some x,some y=>!Q3m mt ops x y||(ms.getD j 0).testBit i
  |_,_=>true
def Q2b(ops:Array Oper):Bool:=ops.toList.zipIdx.all λp=>p.1.after.toList.all λe=>!Region.binds .any e||decide (e.on<p.2)
def okN(N:Nat)(ops:Array Oper):Bool:=ops.toList.all λo=>match o.dst with
 |some d=>decide (d<N)
 |none=>true
theorem Q7Q:∀(os:List Oper) (acc:List Nat) (j:Nat),j<acc.length→(Q3i os acc).getD j 0=acc.getD j 0:=by
 intro os
 induction os with
 |nil=>intro acc j _;rfl
 |cons o r ih=>
  intro acc j hj;simp only[Q3i];rw[ih _ j (by simp;omega)];simp[qB,List.getElem?_append_left hj]
theorem fold_bit(acc:List Nat)(i:Nat):∀(es:List Edge) (s:Nat),(es.foldl (λs e=>if Region.binds .any e then s|||2 ^ e.on|||acc.getD e.on 0 else s) s).testBit i=true→
  s.testBit i=true∨∃e∈es,Region.binds .any e=true∧(e.on=i∨(acc.getD e.on 0).testBit i=true):=by
 intro es
 induction es with
 |nil=>intro s h;exact .inl h
 |cons e es ih=>
  intro s h;simp only[List.foldl_cons]at h;rcases ih _ h with h1|⟨e',he',hb,hx⟩
  ·split at h1
   ·rename_i hb;simp only[Nat.testBit_or,zS]at h1;rcases h1 with(h1|h1)|h1
    ·exact .inl h1
    ·refine .inr ⟨e,by simp,hb,.inl ?_⟩;rw[Nat.testBit_two_pow]at h1;simpa using h1
    exact .inr ⟨e,by simp,hb,.inr h1⟩
   exact .inl h1
  exact .inr ⟨e',by simp[he'],hb,hx⟩
theorem Q5X:∀(os:List Oper) (acc:List Nat) (j i:Nat),acc.length≤j→((Q3i os acc).getD j 0).testBit i=true→
  ∃o,os[j - acc.length]? =some o∧∃e∈o.after.toList,Region.binds .any e=true∧(e.on=i∨(e.on<j∧((Q3i os acc).getD e.on 0).testBit i=true)):=by
 intro os
 induction os with
 |nil=>
  intro acc j i hj h;rw[Q4f (by simpa[Q3i]using hj)]at h;simp at h
 |cons o r ih=>
  intro acc j i hj h;simp only[Q3i]at h
  by_cases hje:j=acc.length
  ·subst hje;rw[Q7Q _ _ _ (by simp)]at h;have h1:(acc++[o.after.toList.foldl (λs e=>if Region.binds .any e then s|||2 ^ e.on|||acc.getD e.on 0 else s) 0]).getD acc.length 0=o.after.toList.foldl (λs e=>if Region.binds .any e then s|||2 ^ e.on|||acc.getD e.on 0 else s) 0:=by
    simp[qB]
   rw[h1]at h;refine⟨o,by simp,?_⟩;rcases fold_bit acc i _ _ h with h2|⟨e,he,hb,hx⟩
   ·simp at h2
   refine⟨e,he,hb,hx.imp (λx=>x) λhx=>?_⟩;have hlt:e.on<acc.length:=by
    rcases zR e.on acc.length with h'|h'
    ·exact h'
    rw[Q4f h']at hx;simp at hx
   refine⟨hlt,?_⟩;simp only[Q3i];rw[Q7Q _ _ _ (by simp;omega)];simpa[qB,List.getElem?_append_left hlt]using hx
  obtain⟨o',h1,e,he,hb,hx⟩:=ih _ j i (by simp;omega) h;refine⟨o',?_,e,he,hb,by simpa[Q3i]using hx⟩;simp only[List.length_append,List.length_singleton]at h1;rw[show j - acc.length=(j - (acc.length+1))+1 by omega];simpa using h1
theorem Q6B{mt:MT}{ops:Array Oper}(h:Q4N mt ops=true){i j:Nat}{x y:Oper}(hij:i<j)(hx:ops[i]? =some x)(hy:ops[j]? =some y)(hc:Q3m mt ops x y=true):((Q3i ops.toList []).getD j 0).testBit i=true:=by
 unfold Q4N at h;simp only[qW,List.mem_range]at h;have hj:j<ops.size:=by
  rcases zR j ops.size with h'|h'
  ·exact h'
  simp[Array.getElem?_eq_none h']at hy
 have:=h j hj i hij;rw[hx,hy]at this;simpa[hc]using this
theorem Q3n{mt:MT}{ops:Array Oper}{x y:Oper}(h:Q3m mt ops x y=false):(∀d,x.dst=some d→d∉Q4v ops y∧y.dst≠some d)∧(∀d,y.dst=some d→d∉Q4v ops x)∧(wrM mt x.op=true→tch mt y.op=false∨easy mt x.op y.op=true)∧(wrM mt y.op=true→tch mt x.op=false):=by
 unfold Q3m at h;simp only[zV,Bool.and_eq_false_iff]at h;obtain⟨⟨⟨h1,h2⟩,h3⟩,h4⟩:=h;have h3:(wrM mt x.op=false∨tch mt y.op=false)∨easy mt x.op y.op=true:=h3.imp_right λq=>by simpa using q
 refine⟨λd hd=>?_,λd hd=>?_,λhw=>?_,λhw=>?_⟩
 ·rw[hd]at h1;simp only[zV]at h1;refine⟨by simpa using h1.1,?_⟩;intro hy;rw[hy]at h1;simp at h1
 ·rw[hd]at h2;simpa using h2
 ·rcases h3 with(h3|h3)|h3
  ·rw[hw]at h3;cases h3
  ·exact .inl h3
  exact .inr h3
 rcases h4 with h4|h4
 ·exact h4
 rw[hw]at h4;cases h4
def St.hp(st:St):HP:=λid=>look id st.h
theorem Q25{α:Type}(k:Nat):∀(a b:List (Nat×α)),look k (a++b)=match look k a with|some x=>some x|none=>look k b:=by
 intro a b
 induction a with
 |nil=>rfl
 |cons p r ih=>
  obtain⟨i,x⟩:=p;simp only[List.cons_append,look];split
  ·rfl
  exact ih
theorem look_setH(id:Nat)(e:Ent):∀(h:List (Nat×Ent)) (k:Nat),look k (setH id e h)=if k=id then some e else look k h:=by
 intro h k
 induction h with
 |nil=>
  simp only[setH,look]
  by_cases hk:k=id
  ·subst hk;simp
  rw[if_neg (Ne.symm hk),if_neg hk]
 |cons p r ih=>
  obtain⟨i,x⟩:=p;simp only[setH]
  by_cases hi:i=id
  ·subst hi;rw[if_pos rfl];simp only[look]
   by_cases hk:i=k
   ·subst hk;simp
   rw[if_neg hk,if_neg (Ne.symm hk),if_neg hk]
  rw[if_neg hi];simp only[look]
  by_cases hk:i=k
  ·subst hk;rw[if_pos rfl,if_neg hi,if_pos rfl]
  rw[if_neg hk,ih,if_neg hk]
theorem look_delH(id:Nat):∀(h:List (Nat×Ent)) (k:Nat),look k (delH id h)=if k=id then none else look k h:=by
 intro h k
 induction h with
 |nil=>simp[delH,look]
 |cons p r ih=>
  obtain⟨i,x⟩:=p;simp only[delH]
  by_cases hi:i=id
  ·subst hi;rw[if_pos rfl,ih];simp only[look]
   by_cases hk:k=i
   ·rw[if_pos hk,if_pos hk]
   rw[if_neg hk,if_neg hk,if_neg (Ne.symm hk)]
  rw[if_neg hi];simp only[look]
  by_cases hk:i=k
  ·subst hk;rw[if_pos rfl,if_neg hi,if_pos rfl]
  rw[if_neg hk,ih,if_neg hk]
theorem Q8r:∀(ds:List Nat) (h:List (Nat×Ent)) (k:Nat),look k (Q4D ds h)=if k∈ds then none else look k h:=by
 intro ds
 induction ds with
 |nil=>intro h k;simp[Q4D]
 |cons d ds ih=>
  intro h k;simp only[Q4D];rw[ih,look_delH]
  by_cases h1:k∈ds
  ·simp[h1]
  by_cases h2:k=d
  ·simp[h2]
  simp[h1,h2]
theorem Q8t:∀(s:List (Nat×Ent)) (h:List (Nat×Ent)) (k:Nat),(s.map qE).Nodup→look k (Q5k s h)=match look k s with|some x=>some x|none=>look k h:=by
 intro s
 induction s with
 |nil=>intro h k _;rfl
 |cons p s ih=>
  obtain⟨i,x⟩:=p;intro h k hn;simp only[List.map_cons,List.nodup_cons]at hn;simp only[Q5k,look];rw[ih _ _ hn.2,look_setH]
  by_cases hk:i=k
  ·subst hk;rw[if_pos rfl,if_pos rfl,Q3q hn.1]
  rw[if_neg hk,if_neg (Ne.symm hk)]
theorem Q2k(st:St)(dst:Option Nat){e:Eff}(hf:e.fine st.n)(k:Nat):look k (st.app dst e).h=match happ e st.hp k with|some x=>some x|none=>look k e.new:=by
 simp only[St.app,Q25];have:look k (Q5k e.set (Q4D e.del st.h))=happ e st.hp k:=by
  rw[Q8t _ _ _ hf.sets.1,Q8r];simp only[happ,St.hp];cases look k e.set<;>rfl
 rw[this];cases happ e st.hp k<;>rfl
def St.ok(st:St):Prop:=∀id x,look id st.h=some x→id<st.n
theorem Q7N{e:Eff}{n:Nat}(hf:e.fine n){k:Nat}{x:Ent}(h:look k e.new=some x):n≤k∧k<n+e.cnt:=by
 have hm:=Q2l h;obtain⟨p,hp,rfl⟩:=List.mem_map.1 hm;exact hf.new p hp
theorem St.ok.app{st:St}(h:st.ok)(dst:Option Nat){e:Eff}(hf:e.fine st.n):(st.app dst e).ok:=by
 intro id x hx;rw[Q2k st dst hf]at hx;have hn:(st.app dst e).n=st.n+e.cnt:=rfl;rw[hn];cases hh:happ e st.hp id with
 |none=>rw[hh]at hx;have:=Q7N hf hx;omega
 |some y=>
  simp only[happ]at hh;split at hh
  ·rename_i z hz;obtain⟨p,hp,rfl⟩:=List.mem_map.1 (Q2l hz);have:=hf.sets.2 p hp;omega
  split at hh
  ·cases hh
  have:=h id y hh;omega
theorem look_putS(t:Nat)(a:AV):∀(s:List (Nat×AV)) (k:Nat),look k (putS t a s)=if k=t then some a else look k s:=by
 intro s k
 induction s with
 |nil=>
  simp only[putS,look]
  by_cases hk:k=t
  ·subst hk;simp
  rw[if_neg (Ne.symm hk),if_neg hk]
 |cons p r ih=>
  obtain⟨i,x⟩:=p;simp only[putS]
  by_cases hi:i=t
  ·subst hi;rw[if_pos rfl];simp only[look]
   by_cases hk:i=k
   ·subst hk;simp
   rw[if_neg hk,if_neg (Ne.symm hk),if_neg hk]
  rw[if_neg hi];simp only[look]
  by_cases hk:i=k
  ·subst hk;rw[if_pos rfl,if_neg hi,if_pos rfl]
  rw[if_neg hk,ih,if_neg hk]
theorem Q2P(st:St)(dst:Option Nat)(e:Eff)(t:Nat):(st.app dst e).get t=if dst=some t then e.v else st.get t:=by
 cases dst with
 |none=>simp[St.get,St.app]
 |some d=>
  simp only[St.get,St.app,look_putS]
  by_cases hk:t=d
  ·subst hk;simp
  rw[if_neg hk,if_neg (by intro h;cases h;exact hk rfl)]
def Q2f(ops:Array Oper)(o:Oper)(st:St):Option Bool:=
 match o.guard with
 |none=>some true
 |some (j,want)=>match(ops[j]?).bind (·.dst)with
  |some t=>match st.get t with
   | .val (.bool b)=>some (b==want)
   | .tup []=>some false
   |_=>none
  |none=>none
structure Tr(P:Program)(mt:MT)(ops:Array Oper)(S:Nat→St)(E:Nat→Option Eff):Prop where
 ok:(S 0).ok
 rd:∀(k:Nat) (o:Oper),ops[k]? =some o→rdL mt.rd o.op=true→∀t,rdT o.op=some t→RoV ((S k).get t)
 run:∀k o,ops[k]? =some o→match E k with
  |some e=>Q2f ops o (S k)=some true∧AOp P mt o.op (S k).ev (S k).hp (S k).n e∧S (k+1)=(S k).app o.dst e
  |none=>Q2f ops o (S k)=some false∧S (k+1)=(S k).app o.dst {v:=.tup []}
def eff(E:Nat→Option Eff)(k:Nat):Eff:=(E k).getD {v:=.tup []}
def roStep(LA:List Nat)(o:Oper):List Nat:=match o.dst with
 |some d=>if o.guard=none∧gives LA o.op=true then d::LA else LA.filter (· !=d)
 |none=>LA
def roAtL(rd0:List Nat):List Oper→Nat→List Nat
 |_,0=>rd0
 |[],_=>rd0
 |o::os,k+1=>roAtL (roStep rd0 o) os k
def roAt(rd0:List Nat)(ops:Array Oper)(i:Nat):Bool:=match ops[i]? with
 |some o=>match rdT o.op with
  |some t=>(roAtL rd0 ops.toList i).contains t
  |none=>false
 |none=>false
theorem Q8y{P:Program}{mt:MT}{all:Array Oper}:∀(os:List Oper) (rd0:List Nat) (S:Nat→St) (E:Nat→Option Eff),(∀t∈rd0,RoV ((S 0).get t))→
  (∀k o,os[k]? =some o→match E k with
  |some e=>Q2f all o (S k)=some true∧AOp P mt o.op (S k).ev (S k).hp (S k).n e∧S (k+1)=(S k).app o.dst e
  |none=>Q2f all o (S k)=some false∧S (k+1)=(S k).app o.dst {v:=.tup []})→
  ∀k,k≤os.length→∀t∈roAtL rd0 os k,RoV ((S k).get t):=by
 intro os
 induction os with
 |nil=>
  intro rd0 S E h0 _ k hk t ht;have:k=0:=by simpa using hk
  subst this;exact h0 t ht
 |cons o os ih=>
  intro rd0 S E h0 hr k hk t ht;cases k with
  |zero=>exact h0 t ht
  |succ k=>
   refine ih (roStep rd0 o) (λk=>S (k+1)) (λk=>E (k+1)) (λt ht=>?_) (λk o' ho=>hr (k+1) o' (by simpa using ho)) k (by simpa using hk) t ht;have h1:=hr 0 o (by simp);unfold roStep at ht;cases hd:o.dst with
   |none=>
    rw[hd]at ht h1;simp only at ht;cases hE:E 0 with
    |some e=>rw[hE]at h1;show RoV ((S (0+1)).get t);rw[h1.2.2,Q2P,if_neg (by simp)];exact h0 t ht
    |none=>rw[hE]at h1;show RoV ((S (0+1)).get t);rw[h1.2,Q2P,if_neg (by simp)];exact h0 t ht
   |some d=>
    rw[hd]at ht h1;simp only at ht;split at ht
    ·rename_i hq;cases hE:E 0 with
     |none=>
      rw[hE]at h1;have:=h1.1;simp[Q2f,hq.1]at this
     |some e=>
      rw[hE]at h1;show RoV ((S (0+1)).get t);rw[h1.2.2,Q2P];split
      ·exact h1.2.1.roVal hq.2 h0
      rename_i hn;rcases List.mem_cons.1 ht with rfl|ht
      ·exact absurd rfl hn
      exact h0 t ht
    simp only[List.mem_filter,bne_iff_ne,ne_eq]at ht;cases hE:E 0 with
    |some e=>rw[hE]at h1;show RoV ((S (0+1)).get t);rw[h1.2.2,Q2P,if_neg (by simpa using Ne.symm ht.2)];exact h0 t ht.1
    |none=>rw[hE]at h1;show RoV ((S (0+1)).get t);rw[h1.2,Q2P,if_neg (by simpa using Ne.symm ht.2)];exact h0 t ht.1
theorem Q6D{P:Program}{mt:MT}{ops:Array Oper}{rd0:List Nat}{S:Nat→St}{E:Nat→Option Eff}(h0:∀t∈rd0,RoV ((S 0).get t))(hr:∀k o,ops.toList[k]? =some o→match E k with
  |some e=>Q2f ops o (S k)=some true∧AOp P mt o.op (S k).ev (S k).hp (S k).n e∧S (k+1)=(S k).app o.dst e
  |none=>Q2f ops o (S k)=some false∧S (k+1)=(S k).app o.dst {v:=.tup []}){i:Nat}{o:Oper}(hi:ops[i]? =some o)(h:roAt rd0 ops i=true):∃t,rdT o.op=some t∧RoV ((S i).get t):=by
 unfold roAt at h;rw[hi]at h;simp only at h;split at h
 ·rename_i t ht;exact⟨t,ht,Q8y ops.toList rd0 S E h0 hr i (by have:=(Array.getElem?_eq_some_iff.1 hi).1;simp;omega) t (by simpa using h)⟩
 cases h
def rdChk(rd0 rd:List Nat)(ops:Array Oper):Bool:=(List.range ops.size).all λk=>match ops[k]? with
 |some o=>!rdL rd o.op||roAt rd0 ops k
 |none=>true
theorem Q9J{rd0 rd:List Nat}{ops:Array Oper}(h:rdChk rd0 rd ops=true){k:Nat}{o:Oper}(hk:ops[k]? =some o)(hr:rdL rd o.op=true):roAt rd0 ops k=true:=by
 unfold rdChk at h;have:=List.all_eq_true.1 h k (List.mem_range.2 (Array.getElem?_eq_some_iff.1 hk).1);rw[hk]at this;simpa[hr]using this
section
variable {P:Program}{mt:MT}{ops:Array Oper}{S:Nat→St}{E:Nat→Option Eff}
theorem Q8T(n:Nat):({v:=.tup []}:Eff).fine n:=⟨by simp,by simp,by simp,Q1W rfl⟩
theorem Tr.all(T:Tr P mt ops S E):∀k,k≤ops.size→(S k).ok:=by
 intro k
 induction k with
 |zero=>intro _;exact T.ok
 |succ k ih=>
  intro hk;have hok:=ih (by omega);have:=T.run k _ (zP (show k<ops.size by omega));split at this
  ·rename_i e he;obtain⟨_,h2,h3⟩:=this;rw[h3];exact hok.app _ (h2.fine hok).1
  obtain⟨_,h3⟩:=this;rw[h3];exact hok.app _ (Q8T _)
theorem Tr.step(T:Tr P mt ops S E){k:Nat}{o:Oper}(ho:ops[k]? =some o):(eff E k).fine (S k).n∧S (k+1)=(S k).app o.dst (eff E k)∧(wrM mt o.op=false→(eff E k).set=[]∧(eff E k).del=[])∧(tch mt o.op=false→(eff E k).calm):=by
 have hk:k<ops.size:=(Array.getElem?_eq_some_iff.1 ho).1;have hok:=T.all k (by omega);have:=T.run k o ho;cases hE:E k with
 |some e=>
  rw[hE]at this;obtain⟨_,h2,h3⟩:=this;have hf:=h2.fine hok;simp only[eff,hE,zQ];refine⟨hf.1,h3,hf.2,λht=>?_⟩;cases ht0:Q14 o.op with
  |false=>exact(h2.calm ht0).1
  |true=>
   have hr:rdL mt.rd o.op=true:=(by simpa[tch,ht0]using ht);obtain⟨t,htr⟩:=Q9k hr;exact(h2.calmR htr (T.rd k o ho hr t htr)).1
 |none=>
  rw[hE]at this;obtain⟨_,h3⟩:=this;simp only[eff,hE,zW];exact⟨Q8T _,h3,λ_=>by simp,λ_=>⟨rfl,rfl,rfl,rfl⟩⟩
theorem Tr.n(T:Tr P mt ops S E){k:Nat}(hk:k<ops.size):(S (k+1)).n=(S k).n+(eff E k).cnt:=by
 rw[(T.step (zP hk)).2.1];rfl
theorem Tr.nle(T:Tr P mt ops S E){i j:Nat}(hij:i≤j)(hj:j≤ops.size):(S i).n≤(S j).n:=by
 induction j with
 |zero=>
  have:i=0:=by omega
  subst this;exact qF _
 |succ j ih=>
  rcases zR i (j+1)with h|h
  ·have:=ih (by omega) (by omega);rw[T.n (by omega)];omega
  have:i=j+1:=by omega
  subst this;exact qF _
def Q2E(E:Nat→Option Eff):Nat→Nat→List (Nat×Ent)
 |_,0=>[]
 |k,m+1=>(eff E k).new++Q2E E (k+1) m
theorem Q3I(T:Tr P mt ops S E):∀(m k:Nat),k+m≤ops.size→∀p∈Q2E E k m,(S k).n≤p.1∧p.1<(S (k+m)).n:=by
 intro m
 induction m with
 |zero=>intro k _ p hp;simp[Q2E]at hp
 |succ m ih=>
  intro k hk p hp;simp only[Q2E,zB]at hp;have h1:=T.n (show k<ops.size by omega);have h2:=T.nle (show k+1≤k+(m+1) by omega) hk;rcases hp with hp|hp
  ·have:=((T.step (zP (show k<ops.size by omega))).1).new p hp;omega
  have:=ih (k+1) (by omega) p hp;rw[show k+1+m=k+(m+1) by omega]at this;omega
def HS(S:Nat→St)(E:Nat→Option Eff)(m k:Nat):HP:=λid=>match look id (S k).h with|some x=>some x|none=>look id (Q2E E k (m - k))
theorem Q8s{l:List (Nat×Ent)}{n id:Nat}{x:Ent}(hl:∀p∈l,n≤p.1)(h:look id l=some x):n≤id:=by
 have hm:=Q2l h;obtain⟨p,hp,rfl⟩:=List.mem_map.1 hm;exact hl p hp
theorem Q3Y(T:Tr P mt ops S E){k:Nat}(hk:k<ops.size):HS S E ops.size (k+1)=happ (eff E k) (HS S E ops.size k):=by
 obtain⟨hf,hS,_⟩:=T.step (zP hk);have hok:=T.all k (by omega)
 funext id
 have hlat:Q2E E k (ops.size - k)=(eff E k).new++Q2E E (k+1) (ops.size - (k+1)):=by
  rw[show ops.size - k=(ops.size - (k+1))+1 by omega];rfl
 have hge:=Q3I T (ops.size - (k+1)) (k+1) (by omega);have hnl:∀x,look id ((eff E k).new++Q2E E (k+1) (ops.size - (k+1)))=some x→(S k).n≤id:=by
  intro x hx;rw[Q25]at hx;cases hn:look id (eff E k).new with
  |some y=>exact(Q7N hf hn).1
  |none=>
   rw[hn]at hx;have h1:=Q8s (λp hp=>(hge p hp).1) hx;have h2:=T.nle (show k≤k+1 by omega) (by omega);omega
 have e1:HS S E ops.size (k+1) id=match happ (eff E k) (S k).hp id with|some x=>some x|none=>look id ((eff E k).new++Q2E E (k+1) (ops.size - (k+1))):=by
  simp only[HS,hS,Q25];rw[Q2k _ _ hf];cases happ (eff E k) (S k).hp id with
  |some x=>rfl
  |none=>cases look id (eff E k).new<;>rfl
 have e2:HS S E ops.size k id=match(S k).hp id with|some x=>some x|none=>look id ((eff E k).new++Q2E E (k+1) (ops.size - (k+1))):=by
  simp only[HS,hlat,St.hp]
 rw[e1];simp only[happ];cases hset:look id (eff E k).set with
 |some x=>rfl
 |none=>
  simp only
  by_cases hd:id∈(eff E k).del
  ·simp only[hd,if_true];cases hl:look id ((eff E k).new++Q2E E (k+1) (ops.size - (k+1)))with
   |none=>rfl
   |some x=>have h1:=hnl x hl;have h2:=hf.del id hd;omega
  simp only[hd,if_false];rw[e2]
theorem HS_keep(T:Tr P mt ops S E):∀(d k:Nat),k+d≤ops.size→∀{id:Nat},(S (k+d)).n≤id→HS S E ops.size k id=HS S E ops.size (k+d) id:=by
 intro d
 induction d with
 |zero=>intro k _ id _;rfl
 |succ d ih=>
  intro k hk id hid;have h1:=T.nle (show k≤k+(d+1) by omega) hk;have h2:=Q3Y T (show k<ops.size by omega);obtain⟨hf,_⟩:=T.step (zP (show k<ops.size by omega));have h3:HS S E ops.size (k+1) id=HS S E ops.size k id:=by
   rw[h2];simp only[happ];have hs:look id (eff E k).set=none:=by
    cases hl:look id (eff E k).set with
    |none=>rfl
    |some x=>
     obtain⟨p,hp,hpe⟩:=List.mem_map.1 (Q2l hl);have:=hf.sets.2 p hp;omega
   rw[hs];simp only;rw[if_neg (λhd=>by have:=hf.del id hd;omega)]
  rw[←h3,show k+(d+1)=(k+1)+d by omega];exact ih (k+1) (by omega) (by rw[show(k+1)+d=k+(d+1) by omega];exact hid)
def envU(ops:Array Oper)(S:Nat→St)(E:Nat→Option Eff)(L:Nat→Bool):Nat→Nat→AV
 |0,t=>(S 0).get t
 |k+1,t=>if L k=true∧(ops[k]?).bind (·.dst)=some t then(eff E k).v else envU ops S E L k t
def hU(mt:MT)(ops:Array Oper)(S:Nat→St)(E:Nat→Option Eff)(L:Nat→Bool):Nat→HP
 |0=>HS S E ops.size 0
 |k+1=>if L k=true∧((ops[k]?).map (wrM mt ·.op)).getD false=true then HS S E ops.size (k+1)else hU mt ops S E L k
theorem Q6R(T:Tr P mt ops S E)(L:Nat→Bool)(t i:Nat)(hi:i≤ops.size)(h1:∀k,k<i→(ops[k]?).bind (·.dst)=some t→L k=true):envU ops S E L i t=(S i).get t:=by
 induction i with
 |zero=>rfl
 |succ i ih=>
  have h0:=ih (by omega) λk hk=>h1 k (by omega);obtain⟨_,hS,_⟩:=T.step (zP (show i<ops.size by omega));rw[hS,Q2P];simp only[envU];have hd:(ops[i]?).bind (·.dst)=(ops[i]).dst:=by rw[zP (show i<ops.size by omega)];rfl
  rw[hd]
  by_cases hdt:(ops[i]).dst=some t
  ·rw[if_pos ⟨h1 i (by omega) (by rw[hd];exact hdt),hdt⟩,if_pos hdt]
  rw[if_neg (λh=>hdt h.2),if_neg hdt];exact h0
theorem Q5O(L:Nat→Bool)(t i:Nat):∀m,i≤m→(∀k,i≤k→k<m→L k=true→(ops[k]?).bind (·.dst)≠some t)→envU ops S E L m t=envU ops S E L i t:=by
 intro m
 induction m with
 |zero=>
  intro h _;have:i=0:=by omega
  subst this;rfl
 |succ m ih=>
  intro h hk;rcases zR i (m+1)with h'|h'
  ·simp only[envU];rw[if_neg]
   ·exact ih (by omega) λk h1 h2=>hk k h1 (by omega)
   intro hh;exact hk m (by omega) (by omega) hh.1 hh.2
  have:i=m+1:=by omega
  subst this;rfl
theorem hU_some(L:Nat→Bool):∀i:Nat,∃m,m≤i∧hU mt ops S E L i=HS S E ops.size m
 |0=>⟨0,qF _,rfl⟩
 |i+1=>by
  simp only[hU];split
  ·exact⟨i+1,qF _,rfl⟩
  obtain⟨m,h1,h2⟩:=hU_some L i;exact⟨m,by omega,h2⟩
def isW(mt:MT)(ops:Array Oper)(k:Nat):Bool:=((ops[k]?).map (wrM mt ·.op)).getD false
theorem Q9w(T:Tr P mt ops S E)(L:Nat→Bool)(i:Nat)(hi:i≤ops.size)(h1:∀k,k<i→isW mt ops k=true→L k=true):hU mt ops S E L i=HS S E ops.size i:=by
 induction i with
 |zero=>rfl
 |succ i ih=>
  have h0:=ih (by omega) λk hk=>h1 k (by omega);simp only[hU]
  by_cases hw:isW mt ops i=true
  ·rw[if_pos ⟨h1 i (by omega) hw,hw⟩]
  rw[if_neg (λh=>hw h.2),h0,Q3Y T (by omega)];have hg:=zP (show i<ops.size by omega);obtain⟨_,_,hcalm,_⟩:=T.step hg;have:wrM mt (ops[i]).op=false:=by simpa[isW,hg]using hw
  obtain⟨h2,h3⟩:=hcalm this;rw[QH h2 h3]
theorem Q52(L:Nat→Bool)(i:Nat):∀m,i≤m→(∀k,i≤k→k<m→L k=true→isW mt ops k=false)→hU mt ops S E L m=hU mt ops S E L i:=by
 intro m
 induction m with
 |zero=>
  intro h _;have:i=0:=by omega
  subst this;rfl
 |succ m ih=>
  intro h hk;rcases zR i (m+1)with h'|h'
  ·simp only[hU];rw[if_neg]
   ·exact ih (by omega) λk h1 h2=>hk k h1 (by omega)
   intro hh;have:=hk m (by omega) (by omega) hh.1;simp only[isW]at this;rw[this]at hh;exact absurd hh.2 (by simp)
  have:i=m+1:=by omega
  subst this;rfl
def Giv(ops:Array Oper)(S:Nat→St)(L:Nat→Bool)(q:Nat):Prop:=q<(S 0).n∨∃j,j<ops.size∧L j=true∧(S j).n≤q∧q<(S (j+1)).n
structure Mid(mt:MT)(C:Ctx)(R:Nat→Prop)(N:Nat)(ops:Array Oper)(S:Nat→St)(E:Nat→Option Eff)(w0:World)(L:Nat→Bool)(a:Act)(w:World):Prop where
 size:a.tmps.size=N
 defers:a.defers=[]
 ex:∃o ρ,WF C w ⟨R,o,ρ⟩∧HRel w ⟨R,o,ρ⟩ (hU mt ops S E L ops.size)∧(∀t,XRel w R ρ (a.tmps.getD t undef) (envU ops S E L ops.size t))∧
  (∀id k,ρ id=some k→id<(S 0).n∨∃j,j<ops.size∧L j=true∧(S j).n≤id∧id<(S (j+1)).n)∧(∀id,id<C.n0→ρ id=C.ρ0 id)∧C.n0≤(S 0).n
 me:mt.on=false→∀(k:Nat) (o:Oper),ops[k]? =some o→isMe o.op=true→L k=true→(∀p∈(eff E k).set,Giv ops S L p.1)∧∀d∈(eff E k).del,Giv ops S L d
 cl:∀k k':Nat,k<k'→k'<ops.size→isW mt ops k=true→isW mt ops k'=true→L k'=true→L k=true
def upL(L:Nat→Bool)(i:Nat):Nat→Bool:=λk=>if k=i then true else L k
theorem Q6S{L:Nat→Bool}{i:Nat}(hL:L i=false)(t:Nat):∀m,(∀k,i<k→k<m→L k=true→(ops[k]?).bind (·.dst)≠(ops[i]?).bind (·.dst)∨(ops[i]?).bind (·.dst)=none)→
  envU ops S E (upL L i) m t=if i<m∧(ops[i]?).bind (·.dst)=some t then(eff E i).v else envU ops S E L m t:=by
 intro m
 induction m with
 |zero=>intro _;rw[if_neg (by omega)];rfl
 |succ m ih=>
  intro hk;have h0:=ih λk h1 h2=>hk k h1 (by omega);simp only[envU]
  by_cases hm:m=i
  ·subst hm;have hu:upL L m m=true:=(by simp[upL]);rw[h0,hu,hL,if_neg (show¬(m<m∧_) by omega)]
   by_cases hd:(ops[m]?).bind (·.dst)=some t
   ·rw[if_pos ⟨rfl,hd⟩,if_pos ⟨by omega,hd⟩]
   rw[if_neg (λh=>hd h.2),if_neg (λh=>hd h.2),if_neg (by simp)]
  have hu:upL L i m=L m:=by simp[upL,hm]
  rw[hu,h0]
  by_cases hLm:L m=true∧(ops[m]?).bind (·.dst)=some t
  ·rw[if_pos hLm]
   by_cases him:i<m+1∧(ops[i]?).bind (·.dst)=some t
   ·rcases hk m (by omega) (by omega) hLm.1 with h2|h2
    ·exact absurd (hLm.2.trans him.2.symm) h2
    rw[h2]at him;cases him.2
   rw[if_neg him,if_pos hLm]
  rw[if_neg hLm,if_neg hLm]
  by_cases hd:(ops[i]?).bind (·.dst)=some t
  ·by_cases him:i<m
   ·rw[if_pos ⟨him,hd⟩,if_pos ⟨by omega,hd⟩]
   rw[if_neg (by omega),if_neg (by omega)]
  rw[if_neg (λh=>hd h.2),if_neg (λh=>hd h.2)]
theorem hU_upL(T:Tr P mt ops S E){L:Nat→Bool}{i:Nat}(hi:i<ops.size)(hL:L i=false)(hA:isW mt ops i=true→(∀k,k<i→isW mt ops k=true→L k=true)∧∀k,i<k→k<ops.size→L k=true→isW mt ops k=false):
  hU mt ops S E (upL L i) ops.size=happ (bif isW mt ops i then eff E i else{v:=.tup []}) (hU mt ops S E L ops.size):=by
 by_cases hw:isW mt ops i=true
 ·obtain⟨h1,h2⟩:=hA hw;rw[hw,cond_true];have e1:hU mt ops S E L ops.size=HS S E ops.size i:=by
   rw[Q52 L i ops.size (by omega) λk hk1 hk2 hk3=>by
    by_cases hki:k=i
    ·subst hki;rw[hL]at hk3;cases hk3
    exact h2 k (by omega) hk2 hk3]
   exact Q9w T L i (by omega) h1
  have e2:hU mt ops S E (upL L i) ops.size=HS S E ops.size (i+1):=by
   rw[Q52 (upL L i) (i+1) ops.size (by omega) λk hk1 hk2 hk3=>by
    have:upL L i k=L k:=(by simp[upL,show k≠i by omega]);rw[this]at hk3;exact h2 k (by omega) hk2 hk3]
   exact Q9w T (upL L i) (i+1) (by omega) λk hk1 hk2=>by
    by_cases hki:k=i
    ·simp[upL,hki]
    simp only[upL];rw[if_neg hki];exact h1 k (by omega) hk2
  rw[e1,e2,Q3Y T hi]
 have hw':isW mt ops i=false:=by simpa using hw
 rw[hw',cond_false,QH rfl rfl];have:∀m,hU mt ops S E (upL L i) m=hU mt ops S E L m:=by
  intro m
  induction m with
  |zero=>rfl
  |succ m ih=>
   simp only[hU]
   by_cases hm:m=i
   ·subst hm;rw[if_neg (λh=>hw h.2),if_neg (λh=>hw h.2)];exact ih
   have hu:upL L i m=L m:=(by simp[upL,hm]);rw[hu,ih]
 exact this _
end
theorem Mid.rly{mt:MT}{C:Ctx}{R:Nat→Prop}{N:Nat}{ops:Array Oper}{S:Nat→St}{E:Nat→Option Eff}{w0:World}{L:Nat→Bool}{a:Act}{w w₁:World}(M:Mid mt C R N ops S E w0 L a w)(r:Rly w w₁):Mid mt C R N ops S E w0 L a w₁:=by cases r;exact M
section
variable {P:Program}{mt:MT}{ops:Array Oper}{S:Nat→St}{E:Nat→Option Eff}{C:Ctx}{R:Nat→Prop}{N:Nat}{w0:World}
theorem Q3y{o:Oper}{t:Nat}(h:(.tmp t:Operand)∈o.op.operands):t∈Q4v ops o:=by
 simp only[Q4v,zB];left;refine List.mem_filterMap.2 ⟨.tmp t,by simpa using h,rfl⟩
theorem Q2v{o:Oper}{j:Nat}{want:Bool}{t:Nat}(h:o.guard=some (j,want))(ht:(ops[j]?).bind (·.dst)=some t):t∈Q4v ops o:=by
 simp only[Q4v,zB];right;rw[h];simp[ht]
theorem Q75(a:Act)(d:Option Tmp)(v:Value):(a.put d v).tmps.size=a.tmps.size:=by cases d<;>simp[Act.put]
theorem put_get(a:Act)(d:Option Tmp)(v:Value)(t:Nat)(hd:∀x,d=some x→x<a.tmps.size):(a.put d v).tmps.getD t undef=if d=some t then v else a.tmps.getD t undef:=by
 cases d with
 |none=>simp[Act.put]
 |some x=>
  have:=hd x rfl;simp only[Act.put]
  by_cases hx:x=t
  ·subst hx;simp[this]
  rw[if_neg (by intro h;cases h;exact hx rfl)];simp[Array.getElem?_setIfInBounds,hx]
theorem Q9e(T:Tr P mt ops S E)(hN:∀o∈ops.toList,∀d,o.dst=some d→d<N){L:Nat→Bool}{i:Nat}{oi:Oper}(hi:ops[i]? =some oi)(hL:L i=false)(hA:∀k o,k<i→ops[k]? =some o→Q3m mt ops o oi=true→L k=true)(hB:∀k o,i<k→ops[k]? =some o→L k=true→Q3m mt ops oi o=false){a:Act}{w:World}(M:Mid mt C R N ops S E w0 L a w){K:Act→World→Prop}(hK:∀R' a' w',RX R R' C.w0.heap.size→Mid mt C R' N ops S E w0 (upL L i) a' w'→K a' w'):wpOp P ops i K a w:=by
 classical
 have hin:i<ops.size:=(Array.getElem?_eq_some_iff.1 hi).1;obtain⟨o,ρ,W,H,hx,hρ,hpin⟩:=M.ex;obtain⟨hf,hS,hnw,hnt⟩:=T.step hi;have hd:(ops[i]?).bind (·.dst)=oi.dst:=by rw[hi];rfl
 have hslot:∀t,t∈Q4v ops oi→envU ops S E L ops.size t=(S i).get t:=by
  intro t ht;rw[Q5O L t i ops.size (by omega) λk hk1 hk2 hk3=>?_]
  ·refine Q6R T L t i (by omega) λk hk1 hk2=>?_;have hk:k<ops.size:=(by omega);refine hA k _ hk1 (zP hk) ?_;rw[zP hk]at hk2;have hk2:(ops[k]).dst=some t:=hk2;simp only[Q3m,hk2,zS];left;left;left;left;simpa using ht
  intro hdk
  by_cases hki:k=i
  ·subst hki;rw[hL]at hk3;cases hk3
  have hk:k<ops.size:=hk2;have h1:=hB k _ (by omega) (zP hk) hk3;rw[zP hk]at hdk;exact(Q3n h1).2.1 t hdk ht
 have hown:∀t,envU ops S E (upL L i) ops.size t=if oi.dst=some t then(eff E i).v else envU ops S E L ops.size t:=by
  intro t;rw[Q6S hL t ops.size λk h1 h2 h3=>?_,hd]
  ·by_cases hdt:oi.dst=some t
   ·rw[if_pos ⟨hin,hdt⟩,if_pos hdt]
   rw[if_neg (λh=>hdt h.2),if_neg hdt]
  cases hdi:oi.dst with
  |none=>right;rw[hd,hdi]
  |some d=>
   left;rw[hd,hdi,zP h2];have h4:=hB k _ h1 (zP h2) h3;exact((Q3n h4).1 d hdi).2
 have hdN:∀x,oi.dst=some x→x<a.tmps.size:=λx hx=>by
  rw[M.size];exact hN oi (by rw[←Array.getElem?_toList]at hi;exact List.mem_of_getElem? hi) x hx
 have hW:isW mt ops i=true→(∀k,k<i→isW mt ops k=true→L k=true)∧∀k,i<k→k<ops.size→L k=true→isW mt ops k=false:=by
  intro hw;have hwi:wrM mt oi.op=true:=by simpa[isW,hi]using hw
  have htw:∀x:Op,wrM mt x=true→tch mt x=true:=by
   intro x hx;unfold tch;cases x with
   |call cl=>
    obtain⟨ce,args,ts⟩:=cl;cases ce with
    |builtin b=>cases b<;>simp_all[wrM,Q2Q,roC,Q32,Q1f,Q14,rdL,rdT]
    |value=>rfl
    |invoke=>simp[wrM,Q2Q,roC,Q32,Q1f]at hx
   |_=>first|rfl|(simp[wrM,Q2Q,roC,Q32,Q1f]at hx;done)
  refine⟨λk hk hwk=>?_,λk hk hk2 hLk=>?_⟩
  ·have hks:k<ops.size:=(by omega);have hg:=zP hks;have hwk':wrM mt (ops[k]).op=true:=(by simpa[isW,hg]using hwk);refine hA k _ hk hg ?_;simp only[Q3m,zS,qG];left;right;refine⟨⟨hwk',htw _ hwi⟩,?_⟩;cases he:easy mt (ops[k]).op oi.op with
   |false=>rfl
   |true=>have:=easy_wr he;rw[hwi]at this;cases this
  have hg:=zP hk2;have h1:=hB k _ hk hg hLk;have h2:=(Q3n h1).2.2.1 hwi;cases hwk:isW mt ops k with
  |false=>rfl
  |true=>
   have hwk':wrM mt (ops[k]).op=true:=(by simpa[isW,hg]using hwk);rcases h2 with h2|h2
   ·rw[htw _ hwk']at h2;cases h2
   have:=easy_wr h2;rw[hwk']at this;cases this
 have hcl:∀k k':Nat,k<k'→k'<ops.size→isW mt ops k=true→isW mt ops k'=true→upL L i k'=true→upL L i k=true:=by
  intro k k' h1 h2 h3 h4 h5;simp only[upL]at h5⊢
  by_cases hk:k=i
  ·rw[if_pos hk]
  rw[if_neg hk]
  by_cases hk':k'=i
  ·exact(hW (by rw[←hk'];exact h4)).1 k (by omega) h3
  rw[if_neg hk']at h5;exact M.cl k k' h1 h2 h3 h4 h5
 have hme:MT.on mt=false→∀(k:Nat) (o:Oper),ops[k]? =some o→isMe o.op=true→upL L i k=true→(∀p∈(eff E k).set,Giv ops S (upL L i) p.1)∧∀d∈(eff E k).del,Giv ops S (upL L i) d:=by
  intro hmt k o2 hk hm hLk;have up:∀{q:Nat},Giv ops S L q→Giv ops S (upL L i) q:=by
   rintro q (h|⟨j,j1,j2,j3⟩)
   ·exact .inl h
   exact .inr ⟨j,j1,by simp only[upL];split<;>simp_all,j3⟩
  by_cases hki:k=i
  ·subst hki;rw[hi]at hk;cases hk;have hrun:=T.run k oi hi;cases hE:E k with
   |none=>simp[eff,hE]
   |some e=>
    rw[hE]at hrun;obtain⟨_,hop,_⟩:=hrun;obtain⟨⟨id,kd,es,kd',es',r1,r2,r3⟩,r4⟩:=hop.me hm hmt;have he:eff E k=e:=(by simp[eff,hE]);have giv:∀id,(∃x∈oi.op.operands,(S k).ev x= .mp id)→Giv ops S (upL L k) id:=by
     rintro id ⟨x,x1,x2⟩
     cases x with
     |tmp t1=>
      have h1:=hx t1;rw[hslot t1 (Q3y x1),show(S k).get t1= .mp id from x2]at h1;obtain⟨b,_,hb⟩:∃b,a.tmps.getD t1 undef= .map (some b)∧ρ id=some ⟨some b,0,0⟩:=by
       generalize a.tmps.getD t1 undef=vv at h1;cases h1 with
       |r h=>cases h
       |mp h=>exact⟨_,rfl,h⟩
      exact up (hρ id _ hb)
     |const v=>simp only[St.ev,cst]at x2;split at x2<;>cases x2
     |global=>cases x2
     |func f=>cases x2
    rw[he];refine⟨λp hp=>?_,λd hd=>giv d (r4 d hd).1⟩;rw[r3]at hp;simp only[List.mem_singleton]at hp;subst hp;exact giv id r1
  have hLk':L k=true:=by simpa[upL,hki]using hLk
  obtain⟨g1,g2⟩:=M.me hmt k o2 hk hm hLk';exact⟨λp hp=>up (g1 p hp),λd hd=>up (g2 d hd)⟩
 have fin:∀v w' R' o' ρ',RX R R' C.w0.heap.size→WF C w' ⟨R',o',ρ'⟩→HRel w' ⟨R',o',ρ'⟩ (hU mt ops S E (upL L i) ops.size)→(∀id k,ρ id=some k→ρ' id=some k)→(∀id k,ρ' id=some k→ρ id=some k∨((S i).n≤id∧id<(S i).n+(eff E i).cnt))→
   XRel w' R' ρ' v (eff E i).v→(∀b,R b→w'.heap[b]? =w.heap[b]?)→K (a.put oi.dst v) w':=by
  intro v w' R' o' ρ' hX W' H' h1 h2 hv h3;refine hK R' _ _ hX ⟨by rw[Q75];exact M.size,by rw[←M.defers];cases oi.dst<;>rfl,⟨o',ρ',W',H',λt=>?_,λid k hk=>?_,λid hid=>?_,hpin.2⟩,λhmt=>hme hmt,hcl⟩
  ·rw[put_get a oi.dst v t hdN,hown];split
   ·exact hv
   exact(hx t).mono (λb hb=>⟨hX.1 b hb,h3 b hb⟩) h1
  ·rcases h2 id k hk with h4|h4
   ·rcases hρ id k h4 with h5|⟨j,hj,hLj,h5⟩
    ·exact .inl h5
    exact .inr ⟨j,hj,by simp only[upL];split<;>simp_all,h5⟩
   exact .inr ⟨i,hin,by simp[upL],h4.1,by rw[T.n hin];exact h4.2⟩
  rw[←hpin.1 id hid];cases hr:ρ id with
  |some k=>exact h1 id k hr
  |none=>
   cases hr':ρ' id with
   |none=>rfl
   |some k=>
    exfalso;rcases h2 id k hr' with h4|h4
    ·rw[hr]at h4;cases h4
    have:=T.nle (show 0≤i by omega) (by omega);have:=hpin.2;omega
 have hhU:=hU_upL T hin hL hW;have hguard:∀b,Q2f ops oi (S i)=some b→Region.wanted oi (yielded ops a.tmps)=b:=by
  intro b hb;unfold Q2f at hb;unfold Region.wanted;split at hb
  ·rename_i hg;rw[hg];simpa using hb
  rename_i j want hg;rw[hg];split at hb
  ·rename_i t ht;split at hb
   ·rename_i bb hbb;have h1:=hx t;rw[hslot t (Q2v hg ht),hbb]at h1;have h2:=h1.val_eq.1;have h3:a.tmps[t]? =some (.bool bb):=by
     cases hh:a.tmps[t]? with
     |none=>simp[hh,undef]at h2
     |some x=>simp[hh]at h2;rw[h2]
    simp only[yielded,ht,Option.bind_some,h3];simp only[qA]at hb;rw[←hb];cases bb<;>cases want<;>rfl
   ·rename_i htt;have h1:=hx t;rw[hslot t (Q2v hg ht),htt]at h1;obtain⟨cs,h2,h3,_⟩:=h1.tup_eq;have h4:cs=#[]:=(by simpa using h3);subst h4;simp only[qA]at hb;rw[←hb];have h5:a.tmps[t]? =none∨a.tmps[t]? =some (.tuple #[]):=by
     cases hh:a.tmps[t]? with
     |none=>exact .inl rfl
     |some x=>simp[hh]at h2;rw[h2];exact .inr rfl
    rcases h5 with h5|h5<;>simp[yielded,ht,h5]
   cases hb
  cases hb
 have hrun:=T.run i oi hi;unfold wpOp;rw[hi];simp only;cases hE:E i with
 |none=>
  rw[hE]at hrun;rw[hguard false hrun.1];simp only[Bool.false_eq_true,if_false];have heff:eff E i={v:=.tup []}:=by simp[eff,hE]
  refine fin undef w R o ρ .refl W ?_ (λ_ _ h=>h) (λ_ _ h=>.inl h) (by rw[heff];exact .tup rfl λk hk=>by simp at hk) (λ_ _=>rfl);rw[hhU,heff];cases isW mt ops i<;>simpa[QH]using H
 |some e=>
  rw[hE]at hrun;obtain⟨hwant,hop,_⟩:=hrun;have heff:eff E i=e:=by simp[eff,hE]
  rw[hguard true hwant];simp only[if_true]
  let ev:Operand→AV:=λx=>if x∈oi.op.operands then(S i).ev x else .bot
  have hev:∀x,XRel w R ρ (a.eval x) (ev x):=by
   intro x;simp only[ev];split
   ·rename_i hmem;cases x with
    |tmp t=>
     have:=hx t;rw[hslot t (Q3y hmem)]at this;exact this
    |const v=>
     simp only[St.ev,cst,Act.eval];split
     ·rename_i hsc;exact .r (.val (Q6F hsc))
     exact .bot
    |global=>exact .bot
    |func f=>exact .fn (by simp) (λk hk=>by simp at hk)
   exact .bot
  have hop1:AOp P mt oi.op ev (S i).hp (S i).n e:=hop.congr λx hx=>by simp only[ev];rw[if_pos hx]
  have hop2:AOp P mt oi.op ev (hU mt ops S E L ops.size) (S i).n e∧(∀p∈e.new,hU mt ops S E L ops.size p.1=some p.2):=by
   cases ht:tch mt oi.op with
   |false=>
    have hc:e.calm∧∀h',AOp P mt oi.op ev h' (S i).n e:=by
     cases ht0:Q14 oi.op with
     |false=>exact hop1.calm ht0
     |true=>
      have hr:rdL mt.rd oi.op=true:=(by simpa[tch,ht0]using ht);obtain⟨t,htr⟩:=Q9k hr;refine hop1.calmR htr ?_;simp only[ev];rw[if_pos (rdT_mem htr)];exact T.rd i oi hi hr t htr
    exact⟨hc.2 _,by rw[hc.1.2.2.1];simp⟩
   |true=>
    have hpast:hU mt ops S E L ops.size=hU mt ops S E L i:=by
     refine Q52 L i ops.size (by omega) λk hk1 hk2 hk3=>?_
     by_cases hki:k=i
     ·subst hki;rw[hL]at hk3;cases hk3
     have hg:=zP hk2;have h1:=hB k _ (by omega) hg hk3;cases hwk:isW mt ops k with
     |false=>rfl
     |true=>
      have hwk':wrM mt (ops[k]).op=true:=(by simpa[isW,hg]using hwk);have:=(Q3n h1).2.2.2 hwk';rw[ht]at this;cases this
    have hnewat:∀p∈e.new,HS S E ops.size i p.1=some p.2:=by
     intro p hp;have hok:=T.all i (by omega);have hfe:e.fine (S i).n:=(by rw[←heff];exact hf);have hlt:=(hfe.new p hp).1;have hnone:look p.1 (S i).h=none:=by
      cases hh:look p.1 (S i).h with
      |none=>rfl
      |some x=>have:=hok _ _ hh;omega
     simp only[HS,hnone];have hlat:Q2E E i (ops.size - i)=(eff E i).new++Q2E E (i+1) (ops.size - (i+1)):=by
      rw[show ops.size - i=(ops.size - (i+1))+1 by omega];rfl
     rw[hlat,Q25,heff,QQ hfe.nodup hp]
    cases hbo:birth oi.op with
    |true=>
     refine⟨hop1.birth hbo _,λp hp=>?_⟩;have hfe:e.fine (S i).n:=(by rw[←heff];exact hf);obtain⟨m,hm,hme⟩:=hU_some (mt:=mt) (ops:=ops) (S:=S) (E:=E) L i;rw[hpast,hme,HS_keep T (i - m) m (by omega) (by rw[show m+(i - m)=i by omega];exact(hfe.new p hp).1),show m+(i - m)=i by omega];exact hnewat p hp
    |false=>
    have e1:hU mt ops S E L ops.size=HS S E ops.size i:=by
     rw[Q52 L i ops.size (by omega) λk hk1 hk2 hk3=>?_]
     ·refine Q9w T L i (by omega) λk hk hwk=>?_;have hks:k<ops.size:=(by omega);have hg:=zP hks;have hwk':wrM mt (ops[k]).op=true:=(by simpa[isW,hg]using hwk);refine hA k _ hk hg ?_;simp only[Q3m,zS,qG];left;right;refine⟨⟨hwk',ht⟩,?_⟩;cases he:easy mt (ops[k]).op oi.op with
      |false=>rfl
      |true=>have:=Q9r he;rw[hbo]at this;cases this
     by_cases hki:k=i
     ·subst hki;rw[hL]at hk3;cases hk3
     have hg:=zP hk2;have h1:=hB k _ (by omega) hg hk3;cases hwk:isW mt ops k with
     |false=>rfl
     |true=>
      have hwk':wrM mt (ops[k]).op=true:=(by simpa[isW,hg]using hwk);have:=(Q3n h1).2.2.2 hwk';rw[ht]at this;cases this
    have hok:=T.all i (by omega);refine⟨?_,λp hp=>?_⟩
    ·rw[e1];refine hop1.up (λid x hid=>?_) λid hid=>?_
     ·have hid':look id (S i).h=some x:=hid;simp only[HS,hid']
     simp only[HS,St.hp];cases hh:look id (S i).h with
     |some x=>rfl
     |none=>
      cases hl:look id (Q2E E i (ops.size - i))with
      |none=>rfl
      |some x=>
       obtain⟨p,hp,hpe⟩:=List.mem_map.1 (Q2l hl);have:=(Q3I T (ops.size - i) i (by omega) p hp).1;omega
    rw[e1];have hfe:e.fine (S i).n:=(by rw[←heff];exact hf);have hlt:=(hfe.new p hp).1;have hnone:look p.1 (S i).h=none:=by
     cases hh:look p.1 (S i).h with
     |none=>rfl
     |some x=>have:=hok _ _ hh;omega
    simp only[HS,hnone];have hlat:Q2E E i (ops.size - i)=(eff E i).new++Q2E E (i+1) (ops.size - (i+1)):=by
     rw[show ops.size - i=(ops.size - (i+1))+1 by omega];rfl
    rw[hlat,Q25,heff,QQ hfe.nodup hp]
  have hfr:∀id,(S i).n≤id→id<(S i).n+e.cnt→ρ id=none:=by
   intro id h1 h2;cases hh:ρ id with
   |none=>rfl
   |some k=>
    have hni:=T.n hin;rw[heff]at hni;rcases hρ id k hh with h3|⟨j,hj,hLj,h3,h4⟩
    ·have:=T.nle (show 0≤i by omega) (by omega);omega
    rcases Nat.lt_trichotomy j i with hji|hji|hji
    ·have:=T.nle (show j+1≤i by omega) (by omega);omega
    ·subst hji;rw[hL]at hLj;cases hLj
    have:=T.nle (show i+1≤j by omega) (by omega);omega
  have hlim:lim mt oi.op=true→∀id k,ρ id=some k→id<(S i).n:=by
   intro hl id k hk;have hw:=lim_wr hl;rcases hρ id k hk with h3|⟨j,hj,hLj,h3,h4⟩
   ·exact qN h3 (T.nle (by omega) (by omega))
   rcases Nat.lt_trichotomy j i with hji|hji|hji
   ·have:=T.nle (show j+1≤i by omega) (by omega);omega
   ·subst hji;rw[hL]at hLj;cases hLj
   have hg:=zP hj;have h5:=((Q3n (hB j _ hji hg hLj)).2.2.1 hw).resolve_right (by rw[lim_easy hl];simp);have h6:=(T.step hg).2.2.2 h5;have:=T.n hj;rw[h6.2.2.2]at this;omega
  have hstep:=hop2.1.step hlim hev W H hop2.2 hfr;refine hstep K (λ_ _ _=>True) λv w' R' o' ρ' hX W' H' h1 h2 hv h3=>?_;have hv':XRel w' R' ρ' v (eff E i).v:=by rw[heff];exact hv
  refine fin v w' R' o' ρ' hX W' ?_ h1 (by rw[heff];exact h2) hv' h3;rw[hhU,heff];cases hw:isW mt ops i with
  |true=>exact H'
  |false=>
   have hwf:wrM mt oi.op=false:=(by simpa[isW,hi]using hw);have:=hnw hwf;rw[heff]at this;rw[QH this.1 this.2]at H';rw[cond_false,QH rfl rfl];exact H'
end
structure Rel(C:Ctx)(R:Nat→Prop)(N:Nat)(a:Act)(w:World)(st:St):Prop where
 size:a.tmps.size=N
 defers:a.defers=[]
 ok:st.ok
 ex:∃o ρ,WF C w ⟨R,o,ρ⟩∧HRel w ⟨R,o,ρ⟩ st.hp∧(∀t,XRel w R ρ (a.tmps.getD t undef) (st.get t))∧(∀id k,ρ id=some k→id<st.n)∧(∀id,id<C.n0→ρ id=C.ρ0 id)∧C.n0≤st.n
theorem Rel.drew{C:Ctx}{R:Nat→Prop}{N:Nat}{a:Act}{w:World}{st:St}(h:Rel C R N a w st):Rel C R N a w.drew st:=by
 obtain⟨h1,h2,h3,o,ρ,W,H,hx,hρ⟩:=h;exact⟨h1,h2,h3,o,ρ,W.drew,H.heap_eq rfl,λt=>XRel.mono (w:=w) (w':=w.drew) (λb hb=>⟨hb,rfl⟩) (λ_ _ h=>h) (hx t),hρ⟩
theorem Rel.rly{C:Ctx}{R:Nat→Prop}{N:Nat}{a:Act}{w w₁:World}{st:St}(h:Rel C R N a w st)(r:Rly w w₁):Rel C R N a w₁ st:=by
 cases r;exact h
section
variable {P:Program}{mt:MT}{ops:Array Oper}{S:Nat→St}{E:Nat→Option Eff}{C:Ctx}{R:Nat→Prop}{N:Nat}
theorem HRel.grow{w:World}{g:Gh}{h h':HP}(H:HRel w g h)(hn:∀id k,g.ρ id=some k→h' id=h id):HRel w g h':=by
 have hc:∀(d c:Nat) (k:Bk),g.ρ c=some k→cont h' d c=cont h d c:=by
  intro d
  induction d with
  |zero=>intro c k _;rfl
  |succ d ih=>
   intro c k hk;unfold cont;rw[hn c k hk];cases he:h c with
   |none=>rfl
   |some e=>
    cases e with
    |mix=>rfl
    |row=>rfl
    |mapE=>rfl
    |ali c2 i j s=>
     obtain⟨_,bkc,h2,_⟩:=H.ali c c2 i j s k he hk;simp only;rw[hn c2 _ h2,ih c2 _ h2]
 refine⟨λid sz es bk he hb=>H.mix id sz es bk (by rw[←hn id bk hb];exact he) hb,λid sz es bk he hb=>H.row id sz es bk (by rw[←hn id bk hb];exact he) hb,λid c i k sz bk he hb=>?_,λid kd es bk he hb=>H.map id kd es bk (by rw[←hn id bk hb];exact he) hb⟩;obtain⟨h1,bkc,h2,h3⟩:=H.ali id c i k sz bk (by rw[←hn id bk hb];exact he) hb;exact⟨h1,bkc,h2,λd szc esc hcc hmc hi hk=>h3 d szc esc (by rw[←hc d c _ h2];exact hcc) (by rw[←hn c _ h2];exact hmc) hi hk⟩
theorem Q4L(T:Tr P mt ops S E){a:Act}{w:World}(h:Rel C R N a w (S 0)){L:Nat→Bool}(hL:∀k,L k=false):Mid mt C R N ops S E w L a w:=by
 obtain⟨h1,h2,h3,o,ρ,W,H,hx,hρ,hpin⟩:=h;have e1:∀m t,envU ops S E L m t=(S 0).get t:=by
  intro m t
  induction m with
  |zero=>rfl
  |succ m ih=>simp only[envU];rw[if_neg (by simp[hL])];exact ih
 have e2:∀m,hU mt ops S E L m=HS S E ops.size 0:=by
  intro m
  induction m with
  |zero=>rfl
  |succ m ih=>simp only[hU];rw[if_neg (by simp[hL])];exact ih
 refine⟨h1,h2,⟨o,ρ,W,?_,λt=>by rw[e1];exact hx t,λid k hk=>.inl (hρ id k hk),hpin⟩,λ_ k o _ _ hk=>(by rw[hL]at hk;cases hk),λk k' _ _ _ _ hk=>(by rw[hL]at hk;cases hk)⟩;rw[e2];refine H.grow (λid k hk=>?_);have hlt:=hρ id k hk;have hno:look id (Q2E E 0 (ops.size - 0))=none:=by
  cases hl:look id (Q2E E 0 (ops.size - 0))with
  |none=>rfl
  |some x=>
   have:=Q8s (λp hp=>(Q3I T (ops.size - 0) 0 (by omega) p hp).1) hl;omega
 simp only[HS,hno,St.hp];cases look id (S 0).h<;>rfl
theorem Q4u(T:Tr P mt ops S E){a:Act}{w0 w:World}{L:Nat→Bool}(h:Mid mt C R N ops S E w0 L a w)(hL:∀k,k<ops.size→L k=true):Rel C R N a w (S ops.size):=by
 obtain⟨o,ρ,W,H,hx,hρ,hpin⟩:=h.ex;refine⟨h.size,h.defers,T.all _ (qF _),o,ρ,W,?_,λt=>?_,λid k hk=>?_,hpin.1,Nat.le_trans hpin.2 (T.nle (Nat.zero_le _) (qF _))⟩
 ·have e1:hU mt ops S E L ops.size=(S ops.size).hp:=by
   rw[Q9w T L ops.size (qF _) λk hk _=>hL k hk]
   funext id
   simp only[HS,Nat.sub_self,Q2E,look,St.hp];cases look id (S ops.size).h<;>rfl
  rw[←e1];exact H
 ·rw[←Q6R T L t ops.size (qF _) λk hk _=>hL k hk];exact hx t
 rcases hρ id k hk with h1|⟨j,hj,_,h1,h2⟩
 ·have:=T.nle (Nat.zero_le ops.size) (qF _);omega
 have:=T.nle (show j+1≤ops.size by omega) (qF _);omega
theorem Q5F(h:okN N ops=true):∀o∈ops.toList,∀d,o.dst=some d→d<N:=by
 intro o ho d hd;unfold okN at h;simp only[qW]at h;have:=h o ho;rw[hd]at this;simpa using this
theorem Mid.congrL{L L':Nat→Bool}{a:Act}{w0 w:World}(hL:∀k,L k=L' k)(h:Mid mt C R N ops S E w0 L a w):Mid mt C R N ops S E w0 L' a w:=by
 have:L=L':=funext hL;rw[←this];exact h
theorem Q8x(T:Tr P mt ops S E)(hN:okN N ops=true){id:Nat}{Q:Exit→Act→World→Prop}{a:Act}{w:World}(h:Rel C R N a w (S 0))(hQ:∀R' a' w',RX R R' C.w0.heap.size→Rel C R' N a' w' (S ops.size)→Q .normal a' w'):
  (Code.region id ops false).wpT P Q a w:=by
 refine wp_region ?_;have key:∀(m k:Nat) (R':Nat→Prop) (a:Act) (w':World),RX R R' C.w0.heap.size→k+m=ops.size→Mid mt C R' N ops S E w (λj=>decide (j<k)) a w'→OpsT P ops (List.range' k m) Q a w':=by
  intro m
  induction m with
  |zero=>
   intro k R' a w' hX hk M;have:k=ops.size:=(by omega);subst this;exact opsT_nil (hQ _ _ _ hX (Q4u T M λj hj=>by simpa using hj))
  |succ m ih=>
   intro k R' a w' hX hk M;rw[List.range'_succ];refine opsT_cons λw₁ hrl1=>?_;have hks:k<ops.size:=(by omega);refine Q9e T (Q5F hN) (zP hks) (by simp) (λj o hj _ _=>by simpa using hj) (λj o hj _ hLj=>by simp at hLj;omega) (M.rly hrl1) λR'' a' w'' hX' M'=>?_;refine ih (k+1) R'' a' w'' (hX.trans hX' (qF _)) (by omega) (M'.congrL λj=>?_);simp only[upL]
   by_cases hjk:j=k
   ·subst hjk;simp
   rw[if_neg hjk]
   by_cases h':j<k
   ·simp[h',show j<k+1 by omega]
   simp[h',show¬j<k+1 by omega]
 have:=key ops.size 0 R a w .refl (by omega) (Q4L T h (L:=λj=>decide (j<0)) (by simp))
 rwa[←List.range_eq_range']at this
def left(L:Nat→Bool):Nat→Nat
 |0=>0
 |m+1=>left L m+(if L m=true then 0 else 1)
theorem Q5U{L:Nat→Bool}:∀m,left L m=0→∀k,k<m→L k=true:=by
 intro m
 induction m with
 |zero=>intro _ k hk;omega
 |succ m ih=>
  intro h k hk;simp only[left]at h
  by_cases hm:L m=true
  ·rw[if_pos hm]at h
   by_cases hkm:k=m
   ·subst hkm;exact hm
   exact ih (by omega) k (by omega)
  rw[if_neg hm]at h;omega
theorem Q8o{L:Nat→Bool}{i:Nat}(hL:L i=false):∀m,left (upL L i) m+(if i<m then 1 else 0)=left L m:=by
 intro m
 induction m with
 |zero=>simp[left]
 |succ m ih=>
  simp only[left]
  by_cases hm:m=i
  ·subst hm;have h1:upL L m m=true:=(by simp[upL]);have h2:m<m+1:=(by omega);simp only[Nat.lt_irrefl,if_false,Nat.add_zero]at ih;simp[h1,hL,h2,ih]
  have h1:upL L i m=L m:=by simp[upL,hm]
  rw[h1]
  by_cases h2:i<m
  ·have h3:i<m+1:=(by omega);simp only[h2,if_true]at ih;simp only[h3,if_true];omega
  have h3:¬i<m+1:=by omega
  simp only[h2,if_false]at ih;simp only[h3,if_false];omega
theorem Q9K(T:Tr P mt ops S E)(hN:okN N ops=true)(hreg:Q4N mt ops=true)(hback:Q2b ops=true)(hm:P.follows .mixedOrders=true){id:Nat}{Q:Exit→Act→World→Prop}{a:Act}{w:World}(h:Rel C R N a w (S 0))(hQ:∀R' a' w',RX R R' C.w0.heap.size→Rel C R' N a' w' (S ops.size)→Q .normal a' w'):(Code.region id ops true).wpT P Q a w:=by
 refine wp_region_any hm λwr hrl=>?_;have key:∀(fuel:Nat) (listed:Array Bool) (R':Nat→Prop) (a:Act) (w':World),RX R R' C.w0.heap.size→listed.size=ops.size→left (λk=>listed.getD k false) ops.size≤fuel→
   (∀j,listed.getD j false=true→∀i,((Q3i ops.toList []).getD j 0).testBit i=true→listed.getD i false=true)→Mid mt C R' N ops S E wr.drew (λk=>listed.getD k false) a w'→wpAny P .any ops Q fuel listed a w':=by
  intro fuel
  induction fuel with
  |zero=>
   intro listed R' a w' hX hsz hleft hanc M;have hall:=Q5U _ (show left (λk=>listed.getD k false) ops.size=0 by omega);refine⟨?_,hQ _ _ _ hX (Q4u T M hall)⟩;cases hr:Region.ready .any ops listed with
   |nil=>rfl
   |cons x xs=>
    have hx:x∈Region.ready .any ops listed:=(by rw[hr];simp);obtain⟨hf,o,ho,_⟩:=mem_ready.1 hx;have hxs:=(Array.getElem?_eq_some_iff.1 ho).1;have h1:listed.getD x false=true:=hall x hxs;have:listed.getD x true=listed.getD x false:=(by simp[show x<listed.size by omega]);rw[this,h1]at hf;cases hf
  |succ fuel ih=>
   intro listed R' a w' hX hsz hleft hanc M;refine⟨λhr=>?_,λi hi w₁ hrl1=>?_⟩
   ·
    have hall:∀k,k<ops.size→listed.getD k false=true:=by
     intro k
     induction k using Nat.strongRecOn with
     |_ k ihk=>
      intro hk;cases hl:listed.getD k false with
      |true=>rfl
      |false=>
       have:k∈Region.ready .any ops listed:=by
        refine mem_ready.2 ⟨?_,ops[k],zP hk,λe he hb=>?_⟩
        ·have:listed.getD k true=listed.getD k false:=(by simp[show k<listed.size by omega]);rw[this,hl]
        have h1:=hback;unfold Q2b at h1;simp only[qW]at h1;have h2:=h1 (ops[k],k) (List.mk_mem_zipIdx_iff_getElem?.2 (by simp[hk])) e (by simpa using he);rw[hb]at h2;have hlt:e.on<k:=(by simpa using h2);exact ihk e.on hlt (by omega)
       rw[hr]at this;cases this
    exact hQ _ _ _ hX (Q4u T M hall)
   obtain⟨hf,oi,hoi,hafter⟩:=mem_ready.1 hi;have hin:=(Array.getElem?_eq_some_iff.1 hoi).1;have hLi:listed.getD i false=false:=by
    have:listed.getD i true=listed.getD i false:=(by simp[show i<listed.size by omega]);rw[←this];exact hf
   have hanci:∀k,((Q3i ops.toList []).getD i 0).testBit k=true→listed.getD k false=true:=by
    intro k hk;obtain⟨o',ho',e,he,hb,hx⟩:=Q5X ops.toList [] i k (by simp) hk;have hoo:o'=oi:=by
     simp only[List.length_nil,Nat.sub_zero]at ho';rw[Array.getElem?_toList,hoi]at ho';simpa using ho'.symm
    subst hoo;have h1:=hafter e (by simpa using he) hb;rcases hx with hx|⟨_,hx⟩
    ·rw[←hx];exact h1
    exact hanc _ h1 _ hx
   refine Q9e T (Q5F hN) hoi hLi (λk o hk ho hc=>hanci k (Q6B hreg hk ho hoi hc)) (λk o hk ho hLk=>?_) (M.rly hrl1) λR'' a' w'' hX' M'=>?_
   ·cases hcl:Q3m mt ops oi o with
    |false=>rfl
    |true=>
     have:=hanc k hLk i (Q6B hreg hk hoi ho hcl);rw[hLi]at this;cases this
   have hset:∀k,(listed.setIfInBounds i true).getD k false=upL (λk=>listed.getD k false) i k:=by
    intro k;simp only[upL]
    by_cases hk:k=i
    ·subst hk;simp[show k<listed.size by omega]
    rw[if_neg hk,getD_set_ne false (Ne.symm hk)]
   refine ih _ R'' a' w'' (hX.trans hX' (qF _)) (by simpa using hsz) ?_ ?_ (M'.congrL λk=>(hset k).symm)
   ·have h1:=Q8o (L:=λk=>listed.getD k false) hLi ops.size;rw[if_pos hin]at h1;have h2:left (λk=>(listed.setIfInBounds i true).getD k false) ops.size=left (upL (λk=>listed.getD k false) i) ops.size:=by
     congr 1;funext k;exact hset k
    omega
   intro j hj k hk;rw[hset]at hj⊢;simp only[upL]at hj⊢
   by_cases hki:k=i
   ·rw[if_pos hki]
   rw[if_neg hki]
   by_cases hji:j=i
   ·subst hji;exact hanci k hk
   rw[if_neg hji]at hj;exact hanc j hj k hk
 refine key ops.size _ R a _ .refl (by simp) ?_ ?_ ?_
 ·have:∀m,left (λk=>(Array.replicate ops.size false).getD k false) m≤m:=by
   intro m
   induction m with
   |zero=>simp[left]
   |succ m ih=>simp only[left];split<;>omega
  exact this _
 ·intro j hj;exfalso
  by_cases hjs:j<ops.size
  ·simp[hjs]at hj
  simp[hjs]at hj
 refine Q4L T (h.rly hrl).drew λk=>?_
 by_cases hk:k<ops.size
 ·simp[hk]
 simp[hk]
end
structure Fx where
 C:Ctx
 R:Nat→Prop
 N:Nat
 pins:Nat:=0
 hpin:C.n0=pins
def RelX(F:Fx)(a:Act)(w:World)(st:St):Prop:=∃R',RX F.R R' F.C.w0.heap.size∧Rel F.C R' F.N a w st
theorem RelX.of{F:Fx}{a:Act}{w:World}{st:St}(h:Rel F.C F.R F.N a w st):RelX F a w st:=⟨_,.refl,h⟩
def conc(F:Fx)(AQ:Exit→St→Prop):Exit→Act→World→Prop:=λe a w=>∃st,RelX F a w st∧AQ e st
def Wp(P:Program)(F:Fx)(c:Code)(AQ:Exit→St→Prop)(st:St):Prop:=∀a w,RelX F a w st→c.wpT P (conc F AQ) a w
def Q81(K:St→Prop)(AQ:Exit→St→Prop):Exit→St→Prop
 | .normal,st=>K st
 |e,st=>AQ e st
def Q5L(id:Nat)(AQ:Exit→St→Prop):Exit→St→Prop
 | .exit i,st=>if i=id then AQ .normal st else AQ (.exit i) st
 |e,st=>AQ e st
def Q38(P:Program)(mt:MT)(all:Array Oper):List Oper→St→(St→Prop)→Prop
 |[],st,K=>K st
 |o::os,st,K=>(Q2f all o st=some true∧∃e,AOp P mt o.op st.ev st.hp st.n e∧Q38 P mt all os (st.app o.dst e) K)∨(Q2f all o st=some false∧Q38 P mt all os (st.app o.dst {v:=.tup []}) K)
theorem Q4t{P:Program}{mt:MT}(all:Array Oper):∀(os:List Oper) (st:St) (K:St→Prop),Q38 P mt all os st K→∃(S:Nat→St) (E:Nat→Option Eff),S 0=st∧K (S os.length)∧
  ∀k o,os[k]? =some o→match E k with
   |some e=>Q2f all o (S k)=some true∧AOp P mt o.op (S k).ev (S k).hp (S k).n e∧S (k+1)=(S k).app o.dst e
   |none=>Q2f all o (S k)=some false∧S (k+1)=(S k).app o.dst {v:=.tup []}:=by
 intro os
 induction os with
 |nil=>intro st K h;exact⟨λ_=>st,λ_=>none,rfl,h,λk o ho=>by simp at ho⟩
 |cons o os ih=>
  intro st K h;rcases h with⟨hw,e,hop,h⟩|⟨hw,h⟩
  ·obtain⟨S,E,h1,h2,h3⟩:=ih _ K h;refine⟨λk=>match k with|0=>st|k+1=>S k,λk=>match k with|0=>some e|k+1=>E k,rfl,h2,λk o' ho=>?_⟩;cases k with
   |zero=>simp at ho;subst ho;exact⟨hw,hop,h1⟩
   |succ k=>exact h3 k o' (by simpa using ho)
  obtain⟨S,E,h1,h2,h3⟩:=ih _ K h;refine⟨λk=>match k with|0=>st|k+1=>S k,λk=>match k with|0=>none|k+1=>E k,rfl,h2,λk o' ho=>?_⟩;cases k with
  |zero=>simp at ho;subst ho;exact⟨hw,h1⟩
  |succ k=>exact h3 k o' (by simpa using ho)
section
variable {P:Program}{mt:MT}{F:Fx}{AQ:Exit→St→Prop}{st:St}
theorem Q0{x y:Code}(h:Wp P F x (Q81 (Wp P F y AQ) AQ) st):Wp P F (.seq x y) AQ st:=by
 intro a w hr;refine wp_seq (wp_mono (h a w hr) λe a w he=>?_);obtain⟨st',h1,h2⟩:=he;cases e with
 |normal=>exact h2 a w h1
 |_=>exact⟨st',h1,h2⟩
theorem Q8(h:AQ .normal st):Wp P F .skip AQ st:=λa w hr=>wp_skip ⟨st,hr,h⟩
theorem Qe(h:AQ .ret st):Wp P F .ret AQ st:=λa w hr=>wp_ret ⟨st,hr,h⟩
theorem Ql{id:Nat}(h:AQ (.exit id) st):Wp P F (.exit id) AQ st:=λa w hr=>wp_exit ⟨st,hr,h⟩
theorem Q5{id:Nat}{c:Code}(h:Wp P F c (Q5L id AQ) st):Wp P F (.block id c) AQ st:=by
 intro a w hr;refine wp_block (wp_mono (h a w hr) λe a w he=>?_);obtain⟨st',h1,h2⟩:=he;cases e with
 |exit i=>
  simp only[Q5L]at h2;simp only[Exit.inBlock];split
  ·rename_i hi;rw[if_pos hi]at h2;exact⟨st',h1,h2⟩
  rename_i hi;rw[if_neg hi]at h2;exact⟨st',h1,h2⟩
 |_=>exact⟨st',h1,h2⟩
theorem ev_rel{a:Act}{w:World}(hr:RelX F a w st)(x:Operand){v:Value}(hx:st.ev x= .val v):a.eval x=v:=by
 obtain⟨_,_,_,_,_,o,ρ,_,_,hs,_⟩:=hr;cases x with
 |tmp t=>have:=hs t;rw[show st.get t= .val v from hx]at this;exact this.val_eq.1
 |const u=>
  simp only[St.ev,cst]at hx;split at hx
  ·simp only[AV.val.injEq]at hx;exact hx
  cases hx
 |global=>cases hx
 |func=>cases hx
theorem Q7{c:Operand}{x y:Code}{b:Bool}(hc:st.ev c= .val (.bool b))(h1:b=true→Wp P F x AQ st)(h2:b=false→Wp P F y AQ st):Wp P F (.cond c x y) AQ st:=by
 intro a w hr;exact wp_cond_split (ev_rel hr c hc) (λhb=>h1 hb a w hr) (λhb=>h2 hb a w hr)
theorem Q84{id:Nat}{ops:Array Oper}{d:Bool}(rd0:List Nat)(hrd:∀t∈rd0,RoV (st.get t))(hck:rdChk rd0 mt.rd ops=true)(hm:P.follows .mixedOrders=true)(hok:(okN F.N ops&&(!d||(Q4N mt ops&&Q2b ops)))=true)(h:∀K:St→Prop,(∀st',AQ .normal st'→K st')→Q38 P mt ops ops.toList st K):Wp P F (.region id ops d) AQ st:=by
 intro a w hr;obtain⟨S,E,h0,hend,htr⟩:=Q4t ops _ _ _ (h (AQ .normal) λ_ h=>h);subst h0;obtain⟨R',hX,hr⟩:=hr;have T:Tr P mt ops S E:=by
  refine⟨hr.ok,λk o ho hrl t ht=>?_,λk o ho=>htr k o (by simpa using ho)⟩;obtain⟨t',ht',hv⟩:=Q6D hrd htr ho (Q9J hck ho hrl);rw[ht]at ht';cases ht';exact hv
 simp only[qG,zS,Bool.not_eq_true']at hok;have hend':AQ .normal (S ops.size):=by simpa using hend
 cases d with
 |false=>exact Q8x T hok.1 hr λR'' a' w' hX' h'=>⟨_,⟨R'',hX.trans hX' (qF _),h'⟩,hend'⟩
 |true=>
  have:=hok.2.resolve_left (by simp);exact Q9K T hok.1 this.1 this.2 hm hr λR'' a' w' hX' h'=>⟨_,⟨R'',hX.trans hX' (qF _),h'⟩,hend'⟩
theorem Q7g{id:Nat}{ops:Array Oper}{d:Bool}(hm:P.follows .mixedOrders=true)(hok:(okN F.N ops&&(!d||(Q4N mt ops&&Q2b ops)))=true)(h:∀K:St→Prop,(∀st',AQ .normal st'→K st')→Q38 P mt ops ops.toList st K)(h0:mt.rd=[]:=by rfl):Wp P F (.region id ops d) AQ st:=
 Q84 [] (by simp) (by rw[h0];unfold rdChk;simp only[qW];intro k _;split<;>simp[Q77]) hm hok h
def Wk(F:Fx)(st st':St):Prop:=∀a w,RelX F a w st→RelX F a w st'
theorem Wk.mk{st st':St}(h:∀R a w,Rel F.C R F.N a w st→Rel F.C R F.N a w st'):Wk F st st':=λa w ⟨R',hX,hr⟩=>⟨R',hX,h R' a w hr⟩
theorem Q2{c:Code}{st':St}(hk:Wk F st st')(h:Wp P F c AQ st'):Wp P F c AQ st:=λa w hr=>h a w (hk a w hr)
def roundA{α:Type}(F:Fx)(S:α→St)(I:α→Prop)(m:α→Nat)(x:α)(AQ:Exit→St→Prop):Exit→St→Prop
 | .normal,st=>∃y,I y∧m y<m x∧Wk F st (S y)
 |e,st=>AQ e st
theorem Q2s{α:Type}(S:α→St)(I:α→Prop)(m:α→Nat)(x0:α){c:Code}(h0:I x0)(hk:Wk F st (S x0))(round:∀x,I x→Wp P F c (roundA F S I m x AQ) (S x)):Wp P F (.loop c) AQ st:=by
 intro a w hr b k cs;have key:∀(n:Nat) (x:α) (a:Act) (w:World),m x=n→I x→RelX F a w (S x)→
   ∃e a' w',conc F AQ e a' w'∧Arrives P (lone (b.at a (.code c::.inLoop c::k)) cs w) b k cs e a' w':=by
  intro n
  induction n using Nat.strongRecOn with
  |_ n ih=>
   intro x a w hn hI hrel;obtain⟨e,a₁,w₁,⟨st₁,hr₁,hq⟩,harr⟩:=round x hI a w hrel b (.inLoop c::k) cs;cases e with
   |normal=>
    obtain⟨y,hIy,hlt,hwk⟩:=hq;obtain⟨e₂,a₂,w₂,hq₂,harr₂⟩:=ih (m y) (hn▸hlt) y a₁ w₁ rfl hIy (hwk _ _ hr₁);exact⟨e₂,a₂,w₂,hq₂,.of_steps (Steps.trans harr (.one step_inLoop)) harr₂⟩
   |exit id=>exact⟨_,a₁,w₁,⟨st₁,hr₁,hq⟩,.pass (x:=.inLoop c) rfl (λ_ _=>.inl (by simp)) harr⟩
   |goto l=>exact⟨_,a₁,w₁,⟨st₁,hr₁,hq⟩,.pass (x:=.inLoop c) rfl (λ_ _=>.inl (by simp)) harr⟩
   |ret=>exact⟨_,a₁,w₁,⟨st₁,hr₁,hq⟩,.pass (x:=.inLoop c) rfl (λ_ _=>.inl (by simp)) harr⟩
   |panic ch=>exact⟨_,a₁,w₁,⟨st₁,hr₁,hq⟩,.pass (x:=.inLoop c) rfl (λ_ _=>.inl (by simp)) harr⟩
   |outgrown=>exact⟨_,a₁,w₁,⟨st₁,hr₁,hq⟩,.pass (x:=.inLoop c) rfl (λ_ _=>.inl (by simp)) harr⟩
 obtain⟨e,a',w',hq,harr⟩:=key _ x0 a w rfl h0 (hk a w hr);exact⟨e,a',w',hq,.of_steps (.one step_loop) harr⟩
theorem Wk.cut{st st':St}(hs:∀p∈st'.s,st.get p.1=p.2∨p.2= .bot)(hh:st'.h=st.h)(hn:st'.n=st.n):Wk F st st':=by
 refine Wk.mk λR a w hr=>?_;obtain⟨h1,h2,h3,o,ρ,W,H,hx,hρ⟩:=hr;have hp:st'.hp=st.hp:=by funext id;simp only[St.hp,hh]
 refine⟨h1,h2,λid x hx=>by rw[hh]at hx;rw[hn];exact h3 id x hx,o,ρ,W,by rw[hp];exact H,λt=>?_,by rw[hn];exact hρ.1,hρ.2.1,by rw[hn];exact hρ.2.2⟩;cases hl:look t st'.s with
 |none=>simp only[St.get,hl,zW];exact .bot
 |some v=>
  simp only[St.get,hl,zQ];have:∃p∈st'.s,p=(t,v):=by
   have go:∀(s:List (Nat×AV)),look t s=some v→(t,v)∈s:=by
    intro s
    induction s with
    |nil=>intro h;cases h
    |cons p r ih=>
     obtain⟨i,x⟩:=p;intro h;simp only[look]at h;split at h
     ·rename_i hi;subst hi;cases h;simp
     exact List.mem_cons_of_mem _ (ih h)
   exact⟨_,go _ hl,rfl⟩
  obtain⟨p,hp,rfl⟩:=this;rcases hs _ hp with h|h
  ·have:=hx t;rw[h]at this;exact this
  simp only at h;rw[h];exact .bot
end
mutual
def rl(m:List (Nat×Nat)):AV→AV
 | .own id off n=>match look id m with|some j=>.own j off n|none=>.bot
 | .adr id i k=>match look id m with|some j=>.adr j i k|none=>.bot
 | .agg cs=>.agg (rlL m cs)
 | .tup vs=>.tup (rlL m vs)
 | .fn f cs=>.fn f (rlL m cs)
 | .bnd f cs=>.bnd f (rlL m cs)
 | .ifc t cs=>.ifc t (rlL m cs)
 | .ifs t sz es=>.ifs t sz es
 | .val v=>.val v
 | .lst u sz es=>.lst u sz es
 | .rptr cs=>.rptr cs
 | .mp id=>match look id m with|some j=>.mp j|none=>.bot
 | .cmap kd es=>.cmap kd es
 | .cmapM kd kd2 ks=>.cmapM kd kd2 ks
 | .sub id c=>match look id m with|some j=>.sub j c|none=>.bot
 | .bot=>.bot
def rlL(m:List (Nat×Nat)):List AV→List AV
 |[]=>[]
 |a::r=>rl m a::rlL m r
end
def rlLL(m:List (Nat×Nat)):List (List AV)→List (List AV)
 |[]=>[]
 |a::r=>rlL m a::rlLL m r
def rlE(m:List (Nat×Nat)):Ent→Option Ent
 | .mix sz es=>some (.mix sz (rlLL m es))
 | .row sz es=>some (.row sz es)
 | .ali c i k sz=>match look c m with|some d=>some (.ali d i k sz)|none=>none
 | .mapE kd es=>some (.mapE kd es)
theorem QD(m:List (Nat×Nat)):∀az,(rlL m az).length=az.length:=by
 intro az
 induction az with
 |nil=>rfl
 |cons a r ih=>simp[rlL,ih]
theorem Q2m(m:List (Nat×Nat)):∀(az:List AV) (k:Nat),(rlL m az).getD k .bot=rl m (az.getD k .bot):=by
 intro az
 induction az with
 |nil=>intro k;simp[rlL,rl]
 |cons a r ih=>
  intro k;cases k with
  |zero=>simp[rlL]
  |succ k=>simpa[rlL]using ih k
theorem Q1q(m:List (Nat×Nat)):∀es,(rlLL m es).length=es.length:=by
 intro es
 induction es with
 |nil=>rfl
 |cons a r ih=>simp[rlLL,ih]
theorem Q4O(m:List (Nat×Nat)):∀(es:List (List AV)) (k:Nat),(rlLL m es).getD k []=rlL m (es.getD k []):=by
 intro es
 induction es with
 |nil=>intro k;simp[rlLL,rlL]
 |cons a r ih=>
  intro k;cases k with
  |zero=>simp[rlLL]
  |succ k=>simpa[rlLL]using ih k
theorem Qg{α:Type}{l:List (Nat×α)}{k:Nat}{v:α}(h:look k l=some v):(k,v)∈l:=by
 induction l with
 |nil=>cases h
 |cons p r ih=>
  obtain⟨i,x⟩:=p;simp only[look]at h;split at h
  ·rename_i hi;subst hi;cases h;simp
  exact List.mem_cons_of_mem _ (ih h)
def back(m:List (Nat×Nat)):List (Nat×Nat):=m.map λp=>(p.2,p.1)
theorem Q1H{m:List (Nat×Nat)}(h2:(m.map zT).Nodup){i j:Nat}(h:look i m=some j):look j (back m)=some i:=by
 have:((back m).map qE).Nodup:=by simpa[back,List.map_map,Function.comp_def]using h2
 exact QQ this (p:=(j,i)) (List.mem_map.2 ⟨(i,j),Qg h,rfl⟩)
def rlρ(m:List (Nat×Nat))(ρ:Nat→Option Bk):Nat→Option Bk:=λj=>match look j (back m)with|some i=>ρ i|none=>none
def rlo(m:List (Nat×Nat))(o:Nat→Option (List Nat)):Nat→Option (List Nat):=λb=>match o b with
 |some (x::M)=>match look x m with|some j=>some (j::M)|none=>none
 |_=>none
theorem rl_rrel{w:World}{R:Nat→Prop}{m:List (Nat×Nat)}{v:Value}{a:AV}(h:RRel w R v a):RRel w R v (rl m a):=by
 induction h with
 |val h=>simp only[rl];exact .val h
 |nil h=>simp only[rl];exact .nil h
 |lst us a1 a2 a3 a4 a5 a6 a7 a8=>simp only[rl];exact .lst us a1 a2 a3 a4 a5 a6 a7 a8
 |rptr us a1 a2 a3 a4 a5=>simp only[rl];exact .rptr us a1 a2 a3 a4 a5
 |fn a1 _ ih=>
  simp only[rl];refine .fn (by rw[QD];exact a1) λk hk=>?_;rw[QD]at hk;rw[Q2m];exact ih k hk
 |bnd a1 _ ih=>
  simp only[rl];refine .bnd (by rw[QD];exact a1) λk hk=>?_;rw[QD]at hk;rw[Q2m];exact ih k hk
 |ifc a1 _ ih=>
  simp only[rl];refine .ifc (by rw[QD];exact a1) λk hk=>?_;rw[QD]at hk;rw[Q2m];exact ih k hk
 |nilm=>simp only[rl];exact .nilm
 |cmap a1 a2 a3=>simp only[rl];exact .cmap a1 a2 a3
 |cmapM a1 a2 a3 a4 a5 a6 a7=>simp only[rl];exact .cmapM a1 a2 a3 a4 a5 a6 a7
 |ifs a1=>simp only[rl];exact .ifs a1
 |bot h=>simp only[rl];exact .bot h
theorem Q7V{w:World}{R:Nat→Prop}{ρ:Nat→Option Bk}{m:List (Nat×Nat)}(h2:(m.map zT).Nodup){v:Value}{a:AV}(h:XRel w R ρ v a):XRel w R (rlρ m ρ) v (rl m a):=by
 have hρ:∀i j,look i m=some j→rlρ m ρ j=ρ i:=λi j hij=>by simp only[rlρ,Q1H h2 hij]
 induction h with
 |r h=>exact .r (rl_rrel h)
 |@own0 id sz cap h=>
  simp only[rl];cases hl:look id m with
  |none=>exact .bot
  |some j=>exact .own0 (by rw[hρ _ _ hl];exact h)
 |@own id b sz cap off n c x h a1 a2 a3 a4 a5=>
  simp only[rl];cases hl:look id m with
  |none=>exact .bot
  |some j=>exact .own (by rw[hρ _ _ hl];exact h) a1 a2 a3 a4 a5
 |@adr id b sz cap i k h=>
  simp only[rl];cases hl:look id m with
  |none=>exact .bot
  |some j=>exact .adr (by rw[hρ _ _ hl];exact h)
 |agg a1 a2 _ ih=>
  simp only[rl];exact .agg (by rw[QD];exact a1) (λk hk=>by rw[QD]at hk;exact a2 k hk) λk hk=>by
   rw[QD]at hk;rw[Q2m];exact ih k hk
 |ifc a1 a2 _ ih=>
  simp only[rl];exact .ifc (by rw[QD];exact a1) (λk hk=>by rw[QD]at hk;exact a2 k hk) λk hk=>by
   rw[QD]at hk;rw[Q2m];exact ih k hk
 |tup a1 _ ih=>
  simp only[rl];exact .tup (by rw[QD];exact a1) λk hk=>by
   rw[QD]at hk;rw[Q2m];exact ih k hk
 |fn a1 _ ih=>
  simp only[rl];exact .fn (by rw[QD];exact a1) λk hk=>by
   rw[QD]at hk;rw[Q2m];exact ih k hk
 |bnd a1 _ ih=>
  simp only[rl];exact .bnd (by rw[QD];exact a1) λk hk=>by
   rw[QD]at hk;rw[Q2m];exact ih k hk
 |@mp id b h=>
  simp only[rl];cases hl:look id m with
  |none=>exact .bot
  |some j=>exact .mp (by rw[hρ _ _ hl];exact h)
 |@sub id b c h=>
  simp only[rl];cases hl:look id m with
  |none=>exact .bot
  |some j=>exact .sub (by rw[hρ _ _ hl];exact h)
 |bot=>simp only[rl];exact .bot
theorem Q2M{m:List (Nat×Nat)}(h1:(m.map qE).Nodup){i j:Nat}(h:look j (back m)=some i):look i m=some j:=by
 have hm:=Qg h;obtain⟨p,hp,he⟩:=List.mem_map.1 hm;simp only[qC]at he;obtain⟨rfl,rfl⟩:=he;exact QQ h1 hp
theorem Q70{m:List (Nat×Nat)}(h2:(m.map zT).Nodup){i i' j:Nat}(h:look i m=some j)(h':look i' m=some j):i=i':=by
 have a:=Q1H h2 h;have b:=Q1H h2 h';rw[a]at b;simpa using b
theorem HRel.relabel{w:World}{R:Nat→Prop}{o:Nat→Option (List Nat)}{ρ:Nat→Option Bk}{h h':HP}(H:HRel w ⟨R,o,ρ⟩ h)(m:List (Nat×Nat))(h2:(m.map zT).Nodup)(hent:∀id' e',h' id'=some e'→∃i e,look i m=some id'∧h i=some e∧rlE m e=some e'):HRel w ⟨R,rlo m o,rlρ m ρ⟩ h':=by
 have hρ1:∀i j,look i m=some j→rlρ m ρ j=ρ i:=λi j hij=>by simp only[rlρ,Q1H h2 hij]
 have ho1:∀b i j M,look i m=some j→o b=some (i::M)→rlo m o b=some (j::M):=by
  intro b i j M hij hb;simp only[rlo,hb,hij]
 have hcont:∀(d c c':Nat) (x:Nat×List (List AV)),look c m=some c'→Qm (h' c')=false→cont h' d c'=some x→cont h d c=some x∧Qm (h c)=false:=by
  intro d
  induction d with
  |zero=>intro c c' x _ _ hx;cases hx
  |succ d ih=>
   intro c c' x hc hm hx;unfold cont at hx⊢;cases he':h' c' with
   |none=>simp[he']at hx
   |some e'=>
    obtain⟨i,e,g1,g2,g3⟩:=hent c' e' he';have:=Q70 h2 g1 hc;subst this;rw[g2];rw[he']at hx hm;cases e with
    |mix sz es=>simp only[rlE,qA]at g3;subst g3;cases hm
    |row sz es=>simp only[rlE,qA]at g3;subst g3;exact⟨hx,rfl⟩
    |mapE kd es=>simp only[rlE,qA]at g3;subst g3;cases hx
    |ali c2 i2 k2 s2=>
     simp only[rlE]at g3;split at g3
     ·rename_i d2 hd2;simp only[qA]at g3;subst g3;simp only at hx⊢;split at hx
      ·cases hx
      rename_i hm2;cases hc2:cont h' d d2 with
      |none=>simp[hc2]at hx
      |some p=>
       obtain⟨q1,q2⟩:=ih c2 d2 p hd2 (by simpa using hm2) hc2;rw[hc2]at hx;rw[q2,q1];exact⟨hx,rfl⟩
     cases g3
 refine⟨λid sz es bk he hb=>?_,λid sz es bk he hb=>?_,λid c i k sz bk he hb=>?_,λid kd es bk he hb=>?_⟩
 ·obtain⟨i,e,g1,g2,g3⟩:=hent id _ he;cases e with
  |mix s2 e2=>
   simp only[rlE,qA,Ent.mix.injEq]at g3;obtain⟨rfl,rfl⟩:=g3;have hb':ρ i=some bk:=(by rw[←hρ1 i id g1];exact hb);rcases(H.mix i _ _ bk g2 hb').ex0 with⟨rfl,h0⟩|⟨b,cur,el,us,cpm,q1,q2,q3,q4,q5,q5',q6,q7,q8,q9⟩
   ·exact⟨.inl ⟨rfl,h0⟩⟩
   refine .mk' ⟨b,cur,el,us,cpm,q1,ho1 b i id [] g1 q2,q3,q4,by rw[Q1q];exact q5,q5',λj hj=>?_,λj l hj hl=>?_,λj l hj hl=>?_,λj l hj hl=>?_⟩
   ·rw[Q1q]at hj;rw[Q4O,QD];exact q6 j hj
   ·rw[Q1q]at hj;exact q7 j l hj hl
   ·rw[Q1q]at hj;exact q8 j l hj hl
   rw[Q1q]at hj;rw[Q4O,Q2m];exact Q7V h2 (q9 j l hj hl)
  |row=>simp[rlE]at g3
  |mapE=>simp[rlE]at g3
  |ali c2 i2 k2 s2=>simp only[rlE]at g3;split at g3<;>simp at g3
 ·obtain⟨i,e,g1,g2,g3⟩:=hent id _ he;cases e with
  |mix=>simp[rlE]at g3
  |row s2 e2=>
   simp only[rlE,qA,Ent.row.injEq]at g3;obtain⟨rfl,rfl⟩:=g3;have hb':ρ i=some bk:=(by rw[←hρ1 i id g1];exact hb);obtain⟨v,hv,hh2⟩:=H.row i _ _ bk g2 hb';exact⟨v,hv.mono (R':=R) [id] λb M hbo=>⟨ho1 b i id M g1 hbo,rfl⟩,hh2⟩
  |mapE=>simp[rlE]at g3
  |ali c2 i2 k2 s2=>simp only[rlE]at g3;split at g3<;>simp at g3
 ·obtain⟨i0,e,g1,g2,g3⟩:=hent id _ he;cases e with
  |mix=>simp[rlE]at g3
  |row=>simp[rlE]at g3
  |mapE=>simp[rlE]at g3
  |ali c2 i2 k2 s2=>
   simp only[rlE]at g3;split at g3
   ·rename_i d2 hd2;simp only[qA,Ent.ali.injEq]at g3;obtain⟨rfl,rfl,rfl,rfl⟩:=g3;have hb':ρ i0=some bk:=(by rw[←hρ1 i0 id g1];exact hb);obtain⟨q1,bkc,q2,q3⟩:=H.ali i0 _ _ _ _ bk g2 hb';refine⟨q1,bkc,by show rlρ m ρ d2=some bkc;rw[hρ1 c2 d2 hd2];exact q2,λd szc esc hc hm hi hk=>?_⟩;obtain⟨q4,q5⟩:=hcont d c2 d2 _ hd2 hm hc;exact q3 d szc esc q4 q5 hi hk
   cases g3
 obtain⟨i,e,g1,g2,g3⟩:=hent id _ he;cases e with
 |mix=>simp[rlE]at g3
 |row=>simp[rlE]at g3
 |ali c2 i2 k2 s2=>simp only[rlE]at g3;split at g3<;>simp at g3
 |mapE kd2 e2=>
  simp only[rlE,qA,Ent.mapE.injEq]at g3;obtain⟨rfl,rfl⟩:=g3;have hb':ρ i=some bk:=by rw[←hρ1 i id g1];exact hb
  exact(H.map i _ _ bk g2 hb').move (λb hb=>⟨hb,rfl⟩) λb M h2=>⟨ho1 b i id M g1 h2,rfl⟩
theorem Wk.relabelZ{F:Fx}{st st':St}(fz:List (Nat×List AV))(hW:fz=[]∨∀b,¬F.C.wrb b)(m:List (Nat×Nat))(hz:∀q∈fz,look q.1 m=none∧look q.1 st.h=some (.mix q.2.length [q.2])∧∀c∈q.2,∀{w:World} {R:Nat→Prop} {ρ:Nat→Option Bk} {v:Value},XRel w R ρ v c→RRel w R v c)(h1:(m.map qE).Nodup)(h2:(m.map zT).Nodup)(hm:∀p∈m,p.2<F.pins→p.1=p.2)(hnp:F.pins≤st'.n)(hn:∀p∈m,p.2<st'.n)(hok:∀p∈st'.h,p.1<st'.n)(hs:∀p∈st'.s,p.2=rl m (st.get p.1)∨p.2= .bot∨∃q∈fz,st.get p.1= .adr q.1 0 0∧p.2= .rptr q.2)(hh:∀p∈st'.h,∃i e,look i m=some p.1∧look i st.h=some e∧rlE m e=some p.2):Wk F st st':=by
 intro a w ⟨R,hX,hr⟩;obtain⟨r1,r2,r3,o,ρ,W,H,hx,hρ,hp⟩:=hr
 let R2:Nat→Prop:=λb=>R b∨∃q∈fz,∃sz cap,ρ q.1=some ⟨some b,sz,cap⟩
 have hfz:∀b,(∃q∈fz,∃sz cap,ρ q.1=some ⟨some b,sz,cap⟩)→b<w.heap.size∧F.C.w0.heap.size≤b∧rlo m o b=none:=by
  intro b ⟨q,hq,sz,cap,hb⟩;obtain⟨z1,z2,_⟩:=hz q hq;obtain⟨b',cur,el,us,cpm,p1,p2,_⟩:=(H.mix q.1 _ _ _ z2 hb).ex (by simp);simp only[Bk.mk.injEq,qA]at p1;obtain⟨rfl,rfl,rfl⟩:=p1;obtain⟨w1,w2⟩:=W.o b _ p2;have p2':o b=some [q.1]:=p2;refine⟨w1,?_,by simp only[rlo,p2',z1]⟩;rcases w2 with w2|w2
  ·exact w2
  rcases hW with rfl|hW
  ·cases hq
  exact absurd w2 (hW b)
 refine⟨R2,⟨λb hb=>.inl (hX.1 b hb),λb hb=>hb.elim (hX.2 b) λh=>.inr (hfz b h).2.1⟩,?_⟩;have hRR:∀b,R b→R2 b∧w.heap[b]? =w.heap[b]?:=λb hb=>⟨.inl hb,rfl⟩;have hent:∀id' e',st'.hp id'=some e'→∃i e,look i m=some id'∧st.hp i=some e∧rlE m e=some e':=λid' e' h=>hh (id',e') (Qg h);have hρ':∀j bk,rlρ m ρ j=some bk→∃i,look i m=some j∧ρ i=some bk:=by
  intro j bk h;simp only[rlρ]at h;split at h
  ·rename_i i hi;exact⟨i,Q2M h1 hi,h⟩
  cases h
 have hρ1:∀i j,look i m=some j→rlρ m ρ j=ρ i:=λi j hij=>by simp only[rlρ,Q1H h2 hij]
 have ho2:∀b L,rlo m o b=some L→∃L',o b=some L':=by
  intro b L hb;simp only[rlo]at hb;split at hb
  ·rename_i h;exact⟨_,h⟩
  cases hb
 have HH:HRel w ⟨R,rlo m o,rlρ m ρ⟩ st'.hp:=H.relabel m h2 hent
 let ρ2:Nat→Option Bk:=λj=>if j<F.C.n0 then ρ j else rlρ m ρ j
 have hρ2:∀j bk,rlρ m ρ j=some bk→ρ2 j=some bk:=by
  intro j bk hj
  by_cases hlt:j<F.C.n0
  ·obtain⟨i,hi,hb⟩:=hρ' j bk hj;have:=hm _ (Qg hi) (by rw[←F.hpin];exact hlt);simp only at this;subst this;simp only[ρ2,if_pos hlt];exact hb
  simp only[ρ2,if_neg hlt];exact hj
 have hno:∀id e bk,st'.hp id=some e→rlρ m ρ id=none→ρ2 id=some bk→False:=by
  intro id e bk he h1' h2'
  by_cases hlt:id<F.C.n0
  ·obtain⟨i,_,hi,_⟩:=hent id e he;have:=hm _ (Qg hi) (by rw[←F.hpin];exact hlt);simp only at this;subst this;simp only[ρ2,if_pos hlt]at h2';rw[hρ1 i i hi,h2']at h1';cases h1'
  simp only[ρ2,if_neg hlt,h1']at h2';cases h2'
 have HH2:HRel w ⟨R,rlo m o,ρ2⟩ st'.hp:=HH.mono (λ_ _=>rfl) (λb L hb=>⟨hb,rfl⟩) hρ2 (λid sz es bk h1 h2 h3=>(hno id _ bk h1 h2 h3).elim) (λid sz es bk h1 h2 h3=>(hno id _ bk h1 h2 h3).elim)
  (λid c i k sz bk h1 h2 h3=>(hno id _ bk h1 h2 h3).elim) (λid kd es bk h1 h2 h3=>(hno id _ bk h1 h2 h3).elim)
 have WR:∀b,R b→rlo m o b=none:=by
  intro b hb;have h3:o b=none:=(W.R b hb).2;simp only[rlo,h3]
 refine⟨r1,r2,λid x hx=>hok (id,x) (Qg hx),rlo m o,ρ2,⟨λb hb=>hb.elim (λhb=>⟨(W.R b hb).1,WR b hb⟩) λhb=>⟨(hfz b hb).1,(hfz b hb).2.2⟩,λb L hb=>?_,W.os,W.tape,W.output,W.size,W.keep⟩,HH2.growR λb hb=>.inl hb,λt=>?_,λid k hk=>?_,λid hid=>?_,?_⟩
 ·obtain⟨L',h3⟩:=ho2 b L hb;exact W.o b L' h3
 ·cases hl:look t st'.s with
  |none=>simp only[St.get,hl,zW];exact .bot
  |some v=>
   simp only[St.get,hl,zQ];rcases hs _ (Qg hl)with h|h|⟨q,hq,h,h'⟩
   ·simp only at h;rw[h];exact(Q7V h2 (hx t)).mono hRR hρ2
   ·simp only at h;rw[h];exact .bot
   simp only at h h';obtain⟨z1,z2,z3⟩:=hz q hq;have hxt:=hx t;rw[h]at hxt;obtain⟨b,sz,cap,hb,hv⟩:=hxt.adr_eq;obtain⟨b',cur,el,us,cpm,p1,p2,p3,p4,p5,p5',p6,p7,p8,p9⟩:=(H.mix q.1 _ _ _ z2 hb).ex (by simp);simp only[Bk.mk.injEq,qA]at p1;obtain⟨rfl,rfl,rfl⟩:=p1;rw[hv,h'];refine .r (.rptr (us 0) (.inr ⟨q,hq,_,_,hb⟩) p3 (λk hk=>?_) (λk hk=>p8 0 k (by simp) hk) λk hk=>?_)
   ·simpa using p7 0 k (by simp) hk
   refine RRel.mono hRR (z3 _ ?_ (p9 0 k (by simp) hk));have:q.2.getD k .bot=q.2[k]:=(by simp[qB,List.getElem?_eq_getElem hk]);show q.2.getD k .bot∈q.2;rw[this];exact List.getElem_mem hk
 ·by_cases hlt:id<F.C.n0
  ·rw[F.hpin]at hlt;omega
  have hk':rlρ m ρ id=some k:=by simpa only[ρ2,if_neg hlt]using hk
  obtain⟨i,hi,_⟩:=hρ' id k hk';exact hn _ (Qg hi)
 ·show ρ2 id=F.C.ρ0 id;simp only[ρ2,if_pos hid];exact hp.1 id hid
 rw[F.hpin];exact hnp
theorem pin_of{F:Fx}{st':St}{m:List (Nat×Nat)}(h1:(m.map qE).Nodup)(h2:(m.map zT).Nodup)(hpin:∀id,id<F.pins→look id m=some id)(hn:∀p∈m,p.2<st'.n):(∀p∈m,p.2<F.pins→p.1=p.2)∧F.pins≤st'.n:=by
 refine⟨λp hp hlt=>Q70 h2 (QQ h1 hp) (hpin _ hlt),?_⟩;rcases Nat.eq_zero_or_pos F.pins with h0|h0
 ·omega
 have:=hn _ (Qg (hpin (F.pins - 1) (by omega)));simp only at this;omega
theorem Wk.relabel{F:Fx}{st st':St}(m:List (Nat×Nat))(h1:(m.map qE).Nodup)(h2:(m.map zT).Nodup)(hpin:∀id,id<F.pins→look id m=some id)(hn:∀p∈m,p.2<st'.n)(hok:∀p∈st'.h,p.1<st'.n)(hs:∀p∈st'.s,p.2=rl m (st.get p.1)∨p.2= .bot)(hh:∀p∈st'.h,∃i e,look i m=some p.1∧look i st.h=some e∧rlE m e=some p.2):Wk F st st':=
 Wk.relabelZ [] (.inl rfl) m (λq hq=>by cases hq) h1 h2 (pin_of h1 h2 hpin hn).1 (pin_of h1 h2 hpin hn).2 hn hok (λp hp=>(hs p hp).imp id .inl) hh
end Go.Vc
