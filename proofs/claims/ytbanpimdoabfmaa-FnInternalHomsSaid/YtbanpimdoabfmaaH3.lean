/- A part of the proof. -/
import Derived.Test.YtbanpimdoabfmaaH2
import Derived.WideKeyRuns
import Derived.MapKept
set_option maxRecDepth 100000
set_option maxHeartbeats 4000000
set_option linter.unusedSimpArgs false
set_option linter.unusedVariables false
set_option linter.unusedSectionVars false
set_option linter.unnecessarySimpa false

open Option.some renaming injEq→qA
open List renaming getD_eq_getElem?_getD→qB
open Prod.mk renaming injEq→qC
open List renaming replicate→zL
open Go.Op renaming operands→qJ
open List renaming map_cons→qP
open Bool renaming false_eq_true→zM
open List renaming mem_singleton→zN
open List renaming mem_cons_of_mem→zO
open List renaming nodup_cons→zE
noncomputable section
namespace Go.Vc
open Go
def MK.is:MK→Value→Bool
 | .int k,.int k' _=>decide (k'=k)
 | .str,.string _=>true
 | .st n,.agg cs=>decide (cs.size=n)
 |_,_=>false
def MK.plain:MK→Bool
 | .ext _=>false
 |_=>true
theorem MK.plain_ne{kd:MK}(h:kd.plain=true):∀x,kd≠.ext x:=by rintro x rfl;cases h
@[simp] theorem MK.plain_str:MK.str.plain=true:=rfl
@[simp] theorem MK.plain_int{k:IntKind}:(MK.int k).plain=true:=rfl
@[simp] theorem MK.plain_st{n:Nat}:(MK.st n).plain=true:=rfl
theorem MK.plain_of{kd:MK}{v:Value}(h:kd.is v=true):kd.plain=true:=by cases kd<;>simp_all[MK.is,MK.plain]
def MK.desc:MK→TypeDesc
 | .int k=>.int k
 | .str=>.string
 | .st _=>.bool
 | .ext _=>.bool
def MK.flat:MK→Bool
 | .st _=>false
 | .ext _=>false
 |_=>true
theorem MK.ok_of{kd:MK}{v:Value}(h:kd.is v=true)(hs:sc v):kd.ok v:=by
 cases kd<;>cases v<;>simp_all[MK.is,MK.ok,sc]
theorem MK.key_of{kd:MK}{v:Value}(hf:kd.flat=true)(h:kd.ok v):MapKept.IsKey kd.desc v:=by
 cases kd<;>cases v<;>simp_all[MK.ok,MapKept.IsKey,MK.desc,MK.flat]
structure KeyRun(P:Program)(kt:TypeId)(kd:MK):Prop where
 check:∀(w:World) (em:Bool) {v:Value},kd.ok v→(Instr.checkKey em 10000 kt v).run P w= .ok () w
 find:∀(w:World) {x:Value},kd.ok x→∀es:List MapEntry,(∀e∈es,kd.ok e.key)→
  ((Instr.findKey kt x es).run P w= .ok none w∧∀e∈es,e.key≠x)∨∃j e,(Instr.findKey kt x es).run P w= .ok (some (j,e.val)) w∧es[j]? =some e∧e.key=x
 stays:∀(w:World) {v:Value},kd.ok v→(Instr.keyThatStays v v).run P w= .ok v w
theorem KeyRun.plain{P:Program}{kt:TypeId}{kd:MK}(hf:kd.flat=true)(h:P.underlying kt=some kd.desc):KeyRun P kt kd where
 check w em v hv:=MapKept.run_checkKey h (MK.key_of hf hv) em 9999
 find w x hx es hes:=by
  rcases MapKept.findNow_spec (MK.key_of hf hx) es 0 (λe he=>MK.key_of hf (hes e he))with⟨h1,h2⟩|⟨j,e,h1,h2,h3⟩
  ·exact .inl ⟨MapKept.run_findKey h h1,h2⟩
  exact .inr ⟨j,e,MapKept.run_findKey h (by simpa using h1),h2,h3⟩
 stays w v hv:=MapKept.run_keyThatStays (MK.key_of hf hv)
theorem Q6X(l:List Int){k:Nat}(hk:k<l.length):((l.map (Value.int .i64)).toArray)[k]? =some (.int .i64 (l.getD k 0)):=by
 simp[hk,qB]
theorem ints_inj{l m:List Int}(h:(l.map (Value.int .i64)).toArray=(m.map (Value.int .i64)).toArray):l=m:=by
 have h2:l.map (Value.int .i64)=m.map (Value.int .i64):=by simpa using congrArg Array.toList h
 refine(List.map_inj_right (f:=Value.int .i64) λa b e=>?_).1 h2;cases e;rfl
theorem KeyRun.st{P:Program}{kt:TypeId}{n:Nat}(h:eqT P kt=n+2):KeyRun P kt (.st n):=by
 obtain⟨fs,f1,f2,f3,f4,f5⟩:=Q6r h;have hfo:P.fieldsOf kt=fs:=by unfold Program.fieldsOf;rw[f1]
 have heq:∀(w:World) (l m:List Int),l.length=n→m.length=n→(Op.equal kt (.agg (l.map (Value.int .i64)).toArray) (.agg (m.map (Value.int .i64)).toArray)).run P w= .ok (l==m) w:=by
  intro w l m hl hm;show(Op.equalIn 10000 kt _ _).run P w=_;rw[run_equalIn_struct (P:=P) w 9999 kt _ _ (by rw[hfo];exact f1) f3,hfo];have:=Q5j (P:=P) (w:=w) 9998 (l.map (Value.int .i64)).toArray (m.map (Value.int .i64)).toArray l m (λk hk=>Q6X l hk) (λk hk=>Q6X m hk) fs.toList 0 f5 (by simp;omega) (by simp;omega);simpa using this
 refine⟨λw em v hv=>?_,λw x hx es hes=>?_,λw v hv=>?_⟩
 ·cases v<;>simp only[MK.ok]at hv;obtain⟨l,rfl,hl⟩:=hv;rw[show(10000:Nat)=9999+1 from rfl,Instr.checkKey];simp only[Sem.run_bind,run_underlying f1,Result.andThen_ok];rw[←Array.forIn_toList];have each:∀f∈fs.toList,f.name≠"_" ∧f.offset<n∧P.underlying f.type=some (.int .i64):=by
   intro f hf;obtain⟨k,hk,rfl⟩:=List.mem_iff_getElem.1 hf;obtain⟨q1,q2,q3⟩:=f5 (fs.toList[k],k) (by
    rw[List.mem_iff_getElem?];exact⟨k,by simp[List.getElem?_zipIdx]⟩)
   simp only at q1 q2 q3;refine⟨q1,?_,q3⟩;rw[q2];have:k<fs.size:=by simpa using hk
   omega
  clear f5;generalize fs.toList=L at each
  induction L with
  |nil=>simp
  |cons f L ih=>
   obtain⟨q1,q2,q3⟩:=each f (by simp);have hag:(isAgg f.type).run P w= .ok false w:=Q3s q3;have hgk:=Q6X l (k:=f.offset) (by omega);have hck:(Instr.checkKey em 9999 f.type (.int .i64 (l.getD f.offset 0))).run P w= .ok () w:=by
    rw[show(9999:Nat)=9998+1 from rfl,Instr.checkKey];simp[run_underlying q3]
   simp only[List.forIn_cons,Sem.run_bind,q1,ne_eq,not_false_eq_true,if_true,part,hag,Result.andThen_ok,zM,if_false,hgk,Sem.run_pure,hck];exact ih λy hy=>each y (by simp[hy])
 ·cases x<;>simp only[MK.ok]at hx;obtain⟨l,rfl,hl⟩:=hx;have hw:(match P.underlying kt with|some (.array _ _)|some (.struct _)=>true|_=>false)=true:=by rw[f1]
  rw[run_findKey_eq w hw]
  suffices H:∀(es:List MapEntry) (i:Nat),(∀e∈es,MK.ok (.st n) e.key)→
    ((Instr.findAsking kt (.agg (l.map (Value.int .i64)).toArray) es i).run P w= .ok none w∧∀e∈es,e.key≠.agg (l.map (Value.int .i64)).toArray)∨
    ∃j e,(Instr.findAsking kt (.agg (l.map (Value.int .i64)).toArray) es i).run P w= .ok (some (i+j,e.val)) w∧es[j]? =some e∧e.key= .agg (l.map (Value.int .i64)).toArray by
   rcases H es 0 hes with h1|⟨j,e,h1,h2,h3⟩
   ·exact .inl h1
   exact .inr ⟨j,e,by simpa using h1,h2,h3⟩
  intro es
  induction es with
  |nil=>intro i _;exact .inl ⟨by simp[Instr.findAsking],by simp⟩
  |cons e es ih=>
   intro i hall;have he:=hall e (by simp);obtain⟨ek,ev,eb⟩:=e;simp only at he;cases ek<;>simp only[MK.ok]at he;obtain⟨m,rfl,hm⟩:=he;have hq:=heq w l m hl hm
   by_cases q:l=m
   ·subst q;exact .inr ⟨0,_,by simp only[Instr.findAsking,Sem.run_bind,hq,beq_self_eq_true,Result.andThen_ok,if_true,Sem.run_pure,Nat.add_zero],rfl,rfl⟩
   have hb:(l==m)=false:=(by simpa using q);rw[hb]at hq;rcases ih (i+1) (λy hy=>hall y (by simp[hy]))with⟨h1,h2⟩|⟨j,e',h1,h2,h3⟩
   ·refine .inl ⟨by simp only[Instr.findAsking,Sem.run_bind,hq,Result.andThen_ok,zM,if_false,h1],λy hy=>?_⟩;rcases List.mem_cons.1 hy with rfl|hy
    ·intro e;simp only[Value.agg.injEq]at e;exact q (ints_inj e).symm
    exact h2 y hy
   exact .inr ⟨j+1,e',by simp only[Instr.findAsking,Sem.run_bind,hq,Result.andThen_ok,zM,if_false,h1,Nat.add_assoc,Nat.add_comm 1 j],by simpa using h2,h3⟩
 cases v<;>simp only[MK.ok]at hv;obtain⟨l,rfl,hl⟩:=hv;have hs:Instr.sameBits 10000 (.agg (l.map (Value.int .i64)).toArray) (.agg (l.map (Value.int .i64)).toArray)=true:=by
  rw[show(10000:Nat)=9999+1 from rfl,Instr.sameBits];simp only[beq_self_eq_true,Bool.true_and,List.all_eq_true];intro p hp;obtain⟨k,hk,hpk⟩:=List.mem_iff_getElem.1 hp;subst hpk;simp[Instr.sameBits]
 simp[Instr.keyThatStays,hs]
def mkOf:TypeDesc→Option MK
 | .int k=>some (.int k)
 | .string=>some .str
 |_=>none
theorem mkOf_desc{d:TypeDesc}{kd:MK}(h:mkOf d=some kd):d=kd.desc:=by
 unfold mkOf at h;split at h<;>simp only[qA,reduceCtorEq]at h<;>(subst h;rfl)
def mkT(P:Program)(kt:TypeId):Option MK:=
 match(P.underlying kt).bind mkOf with
 |some kd=>some kd
 |none=>match eqT P kt with
  |n+2=>some (.st n)
  |_=>none
theorem mkOf_flat{d:TypeDesc}{kd:MK}(h:mkOf d=some kd):kd.flat=true:=by
 unfold mkOf at h;split at h<;>simp only[qA,reduceCtorEq]at h<;>(subst h;rfl)
theorem mkT_run{P:Program}{kt:TypeId}{kd:MK}(h:mkT P kt=some kd):KeyRun P kt kd:=by
 unfold mkT at h;split at h
 ·rename_i kd' hk;simp only[qA]at h;subst h;obtain⟨d,h4,h5⟩:=Option.bind_eq_some_iff.1 hk;exact .plain (mkOf_flat h5) (by rw[h4,mkOf_desc h5])
 split at h
 ·rename_i m hm;simp only[qA]at h;subst h;exact .st hm
 cases h
theorem mkT_plain{P:Program}{kt:TypeId}{kd:MK}(h:mkT P kt=some kd):kd.plain=true:=by
 unfold mkT at h;split at h
 ·rename_i kd' hk;simp only[qA]at h;subst h;obtain⟨d,h4,h5⟩:=Option.bind_eq_some_iff.1 hk;unfold mkOf at h5;split at h5<;>simp only[qA,reduceCtorEq]at h5<;>(subst h5;rfl)
 split at h
 ·simp only[qA]at h;subst h;rfl
 cases h
def mty(P:Program)(t:TypeId):Option (MK×Value):=
 match P.underlying t with
 |some (.map kt et)=>match mkT P kt,(P.info? et).bind (·.zero)with
  |some kd,some z=>if scB z then some (kd,z)else none
  |_,_=>none
 |_=>none
theorem mty_plain{P:Program}{t:TypeId}{kd:MK}{z:Value}(h:mty P t=some (kd,z)):kd.plain=true:=by
 unfold mty at h;split at h
 ·split at h
  ·rename_i hk _;split at h
   ·simp only[qA,qC]at h;obtain⟨rfl,_⟩:=h;exact mkT_plain hk
   cases h
  cases h
 cases h
open Classical in
def Q2x(k:Value):List (Value×Value)→Option Value
 |[]=>none
 |(a,v)::r=>if a=k then some v else Q2x k r
open Classical in
def mset(k v:Value):List (Value×Value)→List (Value×Value)
 |[]=>[(k,v)]
 |(a,x)::r=>if a=k then(a,v)::r else(a,x)::mset k v r
theorem mset_len(k v:Value):∀es:List (Value×Value),(mset k v es).length≤es.length+1:=by
 intro es
 induction es with
 |nil=>simp[mset]
 |cons p r ih=>
  obtain⟨a,x⟩:=p;simp only[mset];split<;>simp<;>omega
theorem Q9I(k v:Value):∀es:List (Value×Value),(es.map Prod.fst).Nodup→((mset k v es).map Prod.fst).Nodup:=by
 intro es
 induction es with
 |nil=>simp[mset]
 |cons p r ih=>
  obtain⟨a,x⟩:=p;intro h;simp only[qP,zE]at h;simp only[mset]
  by_cases h2:a=k
  ·rw[if_pos h2];simpa using h
  rw[if_neg h2];simp only[qP,zE];refine⟨λhm=>?_,ih h.2⟩;obtain⟨p,hp,hpa⟩:=List.mem_map.1 hm;have:p∈r∨(p.2=v∧p.1=k):=by
   clear ih h hm hpa
   induction r with
   |nil=>simp only[mset,zN]at hp;subst hp;exact .inr ⟨rfl,rfl⟩
   |cons q s ihs=>
    obtain⟨b,y⟩:=q;simp only[mset]at hp;split at hp
    ·rename_i hb;rcases List.mem_cons.1 hp with rfl|hp
     ·exact .inr ⟨rfl,hb⟩
     exact .inl (zO _ hp)
    rcases List.mem_cons.1 hp with rfl|hp
    ·exact .inl (by simp)
    rcases ihs hp with h|h
    ·exact .inl (zO _ h)
    exact .inr h
  rcases this with h3|h3
  ·exact h.1 (List.mem_map.2 ⟨p,h3,hpa⟩)
  exact h2 (by rw[←hpa,h3.2])
theorem mset_mem{k v:Value}:∀{es:List (Value×Value)} {p:Value×Value},p∈mset k v es→p∈es∨(p.2=v∧(p.1=k)):=by
 intro es
 induction es with
 |nil=>intro p h;simp only[mset,zN]at h;subst h;exact .inr ⟨rfl,rfl⟩
 |cons q r ih=>
  obtain⟨a,x⟩:=q;intro p h;simp only[mset]at h;split at h
  ·rename_i ha;rcases List.mem_cons.1 h with rfl|h
   ·exact .inr ⟨rfl,ha⟩
   exact .inl (zO _ h)
  rcases List.mem_cons.1 h with rfl|h
  ·exact .inl (by simp)
  rcases ih h with h|h
  ·exact .inl (zO _ h)
  exact .inr h
theorem mset_none{k v:Value}:∀{es:List (Value×Value)},(∀p∈es,p.1≠k)→mset k v es=es++[(k,v)]:=by
 intro es
 induction es with
 |nil=>intro _;rfl
 |cons p r ih=>
  obtain⟨a,x⟩:=p;intro h;simp only[mset];rw[if_neg (h (a,x) (by simp)),ih λp hp=>h p (by simp[hp])];rfl
theorem mset_at{k v:Value}:∀{es:List (Value×Value)} {j:Nat} {p:Value×Value},(es.map Prod.fst).Nodup→es[j]? =some p→p.1=k→mset k v es=es.set j (k,v):=by
 intro es
 induction es with
 |nil=>intro j p _ h;simp at h
 |cons q r ih=>
  obtain⟨a,x⟩:=q;intro j p hn h hk;simp only[qP,zE]at hn;cases j with
  |zero=>
   simp only[List.getElem?_cons_zero,qA]at h;subst h;simp only[mset];rw[if_pos hk];simp only at hk;simp[hk]
  |succ j=>
   simp only[List.getElem?_cons_succ]at h;have hne:a≠k:=by
    rintro rfl
    exact hn.1 (List.mem_map.2 ⟨p,List.mem_of_getElem? h,hk⟩)
   simp only[mset];rw[if_neg hne,ih hn.2 h hk];rfl
theorem Q9H{k:Value}:∀{es:List (Value×Value)},(∀p∈es,p.1≠k)→Q2x k es=none:=by
 intro es
 induction es with
 |nil=>intro _;rfl
 |cons p r ih=>
  obtain⟨a,x⟩:=p;intro h;simp only[Q2x];rw[if_neg (h (a,x) (by simp)),ih λp hp=>h p (by simp[hp])]
theorem mfind_at{k:Value}:∀{es:List (Value×Value)} {j:Nat} {p:Value×Value},(es.map Prod.fst).Nodup→es[j]? =some p→p.1=k→Q2x k es=some p.2:=by
 intro es
 induction es with
 |nil=>intro j p _ h;simp at h
 |cons q r ih=>
  obtain⟨a,x⟩:=q;intro j p hn h hk;simp only[qP,zE]at hn;cases j with
  |zero=>
   simp only[List.getElem?_cons_zero,qA]at h;subst h;simp only[Q2x];rw[if_pos hk]
  |succ j=>
   simp only[List.getElem?_cons_succ]at h;have hne:a≠k:=by
    rintro rfl
    exact hn.1 (List.mem_map.2 ⟨p,List.mem_of_getElem? h,hk⟩)
   simp only[Q2x];rw[if_neg hne,ih hn.2 h hk]
theorem mfind_sc{k z:Value}(hz:sc z):∀{es:List (Value×Value)},(∀p∈es,sc p.2)→sc ((Q2x k es).getD z):=by
 intro es
 induction es with
 |nil=>intro _;exact hz
 |cons q r ih=>
  obtain⟨a,x⟩:=q;intro h;simp only[Q2x];split
  ·exact h (a,x) (by simp)
  exact ih λp hp=>h p (by simp[hp])
def Q3X(h:HP):AV→Option (MK×List (Value×Value))
 | .mp id=>match h id with
  |some (.mapE kd es)=>if kd.plain=true then some (kd,es)else none
  |_=>none
 | .cmap kd es=>some (kd,es)
 |_=>none
def keyV:AV→Option Value
 | .val v=>some v
 | .agg az=>(Qc az).map λl=>.agg (l.map (Value.int .i64)).toArray
 |_=>none
def Q5V(m:Option (MK×Value))(c:Option (MK×List (Value×Value)))(k:AV)(ok:Bool):Option (Prop×Eff):=
 match m,c,keyV k with
 | some (kd,z),some (kd',es),some kv=>if kd'=kd∧kd.is kv=true then
   some (True,{v:=bif ok then .tup [.val ((Q2x kv es).getD z),.val (.bool (Q2x kv es).isSome)]else .val ((Q2x kv es).getD z)})else none
 |_,_,_=>none
def updv(m:Option (MK×Value))(h:HP)(x k y:AV):Option (Prop×Eff):=
 match m,x,keyV k,y with
 |some (kd,_),.mp id,some kv,.val v=>match h id with
  | some (.mapE kd' es)=>if kd'=kd∧kd.is kv=true then
    some (es.length<1099511627776,{v:=.bot,set:=[(id,.mapE kd (mset kv v es))]})else none
  |_=>none
 |_,_,_,_=>none
def makv(m:Option (MK×Value))(n:Nat):Option (Prop×Eff):=
 match m with
 |some (kd,_)=>some (True,{v:=.mp n,new:=[(n,.mapE kd [])],cnt:=1})
 |none=>none
def lenm(m:Option (MK×Value))(c:Option (MK×List (Value×Value))):Option (Prop×Eff):=
 match m,c with
 |some _,some (_,es)=>some (True,{v:=.val (.int .i64 es.length)})
 |_,_=>none
def mapF(P:Program)(op:Op)(ev:Operand→AV)(h:HP)(n:Nat):Option (Prop×Eff):=
 match op with
 | .makeMap t none=>makv (mty P t) n
 | .lookup t x k ok=>Q5V (mty P t) (Q3X h (ev x)) (ev k) ok
 | .mapUpdate t x k y=>updv (mty P t) h (ev x) (ev k) (ev y)
 | .call ⟨.builtin .len,⟨[x]⟩,⟨[t]⟩⟩=>lenm (mty P t) (Q3X h (ev x))
 |_=>none
theorem Q71{P:Program}{t:TypeId}{kd:MK}{z:Value}(h:mty P t=some (kd,z)):∃kt et,P.underlying t=some (.map kt et)∧KeyRun P kt kd∧sc z∧∀w,(zeroValue et).run P w= .ok z w:=by
 unfold mty at h;split at h
 case h_2=>cases h
 rename_i kt et hu;split at h
 case h_2=>cases h
 rename_i kd' z' hk hz;split at h
 case isFalse=>cases h
 rename_i hsc;simp only[qA,qC]at h;obtain⟨rfl,rfl⟩:=h;obtain⟨inf,h1,h3⟩:=Option.bind_eq_some_iff.1 hz;refine⟨kt,et,hu,mkT_run hk,Q6F hsc,λw=>?_⟩;simp[zeroValue,typeInfo,h1,h3]
section
variable {P:Program}{C:Ctx}{a:Act}{w:World}{g:Gh}{h:HP}{n:Nat}{e:Eff}{c:Prop}{ev:Operand→AV}
theorem XRel.mp_eq{R:Nat→Prop}{ρ:Nat→Option Bk}{v:Value}{id:Nat}(h:XRel w R ρ v (.mp id)):∃b,v= .map (some b)∧ρ id=some ⟨some b,0,0⟩:=by
 cases h with
 |r h=>cases h
 |mp h=>exact⟨_,rfl,h⟩
theorem XRel.cmap_eq{R:Nat→Prop}{ρ:Nat→Option Bk}{v:Value}{kd:MK}{es:List (Value×Value)}(h:XRel w R ρ v (.cmap kd es)):(∃b,v= .map (some b)∧R b∧MapObj w b es∧Q7j kd es)∨(v= .map none∧es=[]):=by
 cases h with
 |r h=>cases h with
  |cmap h1 h2 h3=>exact .inl ⟨_,rfl,h1,h2,h3⟩
  |nilm=>exact .inr ⟨rfl,rfl⟩
theorem Q7R(H:HRel w g h){av:AV}{v:Value}{kd:MK}{es:List (Value×Value)}(hc:Q3X h av=some (kd,es))(hx:XRel w g.R g.ρ v av):(∃b,v= .map (some b)∧MapObj w b es∧Q7j kd es)∨(v= .map none∧es=[]):=by
 unfold Q3X at hc;split at hc
 ·rename_i id;split at hc
  ·rename_i kd' es' he;split at hc
   case isFalse=>cases hc
   rename_i hpl;simp only[qA,qC]at hc;obtain⟨rfl,rfl⟩:=hc;obtain⟨b,rfl,hb⟩:=hx.mp_eq;obtain⟨b',h1,_,h3,h4⟩:=(H.map id _ _ _ he hb).plain (MK.plain_ne hpl);simp only[Bk.mk.injEq,qA,and_true]at h1;subst h1;exact .inl ⟨b,rfl,h3,h4⟩
  cases hc
 ·simp only[qA,qC]at hc;obtain⟨rfl,rfl⟩:=hc;rcases hx.cmap_eq with⟨b,rfl,_,h3,h4⟩|h
  ·exact .inl ⟨b,rfl,h3,h4⟩
  exact .inr h
 cases hc
theorem Q92{P:Program}{kt:TypeId}{kd:MK}{es:List (Value×Value)}{ents:Array MapEntry}{k:Value}(hr:KeyRun P kt kd)(w:World)(he:ents.toList.map (λe=>(e.key,e.val))=es)(hok:Q7j kd es)(hk:kd.ok k):
  ((Instr.findKey kt k ents.toList).run P w= .ok none w∧Q2x k es=none∧(∀v,mset k v es=es++[(k,v)])∧∀x∈ents.toList,x.key≠k)∨
  ∃j e,(Instr.findKey kt k ents.toList).run P w= .ok (some (j,e.val)) w∧ents.toList[j]? =some e∧e.key=k∧Q2x k es=some e.val∧∀v,mset k v es=es.set j (k,v):=by
 subst he;have hkeys:∀x∈ents.toList,kd.ok x.key:=λx hx=>(hok.2.2 (x.key,x.val) (List.mem_map.2 ⟨x,hx,rfl⟩)).1;rcases hr.find w hk ents.toList hkeys with⟨h1,h2⟩|⟨j,e,h1,h2,h3⟩
 ·have hn:∀p∈ents.toList.map (λe=>(e.key,e.val)),p.1≠k:=by
   intro p hp;obtain⟨x,hx,rfl⟩:=List.mem_map.1 hp;exact h2 x hx
  exact .inl ⟨h1,Q9H hn,λv=>mset_none hn,h2⟩
 have hj:(ents.toList.map (λe=>(e.key,e.val)))[j]? =some (e.key,e.val):=by simp[h2]
 refine .inr ⟨j,e,h1,h2,h3,mfind_at hok.2.1 hj h3,λv=>mset_at hok.2.1 hj h3⟩
theorem key_rel{R:Nat→Prop}{ρ:Nat→Option Bk}{v kv:Value}{av:AV}{kd:MK}(hk:keyV av=some kv)(his:kd.is kv=true)(hx:XRel w R ρ v av):v=kv∧kd.ok kv:=by
 unfold keyV at hk;split at hk
 ·rename_i u;simp only[qA]at hk;subst hk;obtain⟨h1,h2⟩:=hx.val_eq;exact⟨h1,MK.ok_of his h2⟩
 ·rename_i az;obtain⟨l,hl,rfl⟩:=Option.map_eq_some_iff.1 hk;obtain⟨cs,hv,hz,_,hr⟩:=hx.agg_eq;obtain⟨la,ga⟩:=Q3E hl;have hcs:cs=(l.map (Value.int .i64)).toArray:=by
   apply Array.ext (by simp;omega);intro k h1 h2;have h3:=hr k (by omega);rw[ga k (by omega)]at h3;have h4:=h3.val_eq.1;have h5:k<l.length:=(by omega);simp only[Array.getD_eq_getD_getElem?,h1,getElem?_pos,Option.getD_some]at h4;rw[h4];simp[qB,h5]
  subst hcs;refine⟨hv,?_⟩;cases kd<;>simp_all[MK.is,MK.ok];exact⟨l,rfl,by assumption⟩
 cases hk
variable (hev:∀ x,XRel w g.R g.ρ (a.eval x) (ev x))(W:WF C w g)(H:HRel w g h)
include hev W H
theorem Q9W{o:Oper}{t:TypeId}{x k:Operand}{ok:Bool}(ho:o.op= .lookup t x k ok)(he:Q5V (mty P t) (Q3X h (ev x)) (ev k) ok=some (c,e)):StepR P C o a w g h n e:=by
 unfold Q5V at he;split at he
 case h_2=>cases he
 rename_i kd z kd' es kv hm hc hk;split at he
 case isFalse=>cases he
 rename_i hcond;obtain⟨rfl,his⟩:=hcond;simp only[qA,qC]at he;obtain⟨_,rfl⟩:=he;obtain⟨kt,et,h1,h2,h3,h4⟩:=Q71 hm;have hmr:=Q7R H hc (hev x);obtain⟨hkv,hkok⟩:=key_rel hk his (hev k);have hz:sc ((Q2x kv es).getD z):=mfind_sc h3 (by
  rcases hmr with⟨b,_,_,hok⟩|⟨_,rfl⟩
  ·exact λp hp=>(hok.2.2 p hp).2
  exact λp hp=>by cases hp)
 have hrun:(Instr.lookup t (a.eval x) (a.eval k) ok).run P w= .ok (if ok then .tuple #[(Q2x kv es).getD z,.bool (Q2x kv es).isSome]else(Q2x kv es).getD z) w:=by
  rcases hmr with⟨b,hv,⟨ents,clk,hb,hborn,hents⟩,hok⟩|⟨hv,rfl⟩
  ·rw[hv,hkv];rcases Q92 h2 w hents hok hkok with⟨f1,f2,_,_⟩|⟨j,en,f1,_,_,f2,_⟩
   ·simp[Instr.lookup,run_underlying h1,MapKept.run_getObj_map hb,h2.check w _ hkok,f1,h4,f2,Result.andThen]
   simp[Instr.lookup,run_underlying h1,MapKept.run_getObj_map hb,h2.check w _ hkok,f1,f2,Result.andThen]
  rw[hv,hkv];have f1:(Instr.findKey kt kv []).run P w= .ok none w:=by
   rcases h2.find w hkok [] (by simp)with⟨f,_⟩|⟨j,e,_,hj,_⟩
   ·exact f
   simp at hj
  simp[Instr.lookup,run_underlying h1,h2.check w _ hkok,f1,h4,Q2x,Result.andThen]
 refine Qn W H rfl rfl (v:=if ok then .tuple #[(Q2x kv es).getD z,.bool (Q2x kv es).isSome]else(Q2x kv es).getD z) ?_ ?_
 ·simp[execOp,ho,hrun]
 cases ok with
 |false=>exact .r (.val hz)
 |true=>
  refine .tup rfl λj hj=>?_;have hj2:j<2:=hj
  match j,hj2 with
  |0,_=>exact .r (.val hz)
  |1,_=>exact .r (.val trivial)
theorem step_lenm{o:Oper}{t:TypeId}{x:Operand}(ho:o.op= .call ⟨.builtin .len,⟨[x]⟩,⟨[t]⟩⟩)(he:lenm (mty P t) (Q3X h (ev x))=some (c,e)):StepR P C o a w g h n e:=by
 unfold lenm at he;split at he
 case h_2=>cases he
 rename_i q kd es hm hc;obtain⟨kd',z⟩:=q;simp only[qA,qC]at he;obtain⟨_,rfl⟩:=he;obtain⟨kt,et,h1,h2,h3,h4⟩:=Q71 hm;rcases Q7R H hc (hev x)with⟨b,hv,⟨ents,clk,hb,hborn,hents⟩,hok⟩|⟨hv,rfl⟩
 case inr=>
  refine Qn W H rfl rfl (v:=.int .i64 0) ?_ (.int (by decide));simp[execOp,ho,resolve,invoke,builtin,Builtin.len_,hv,run_underlying h1,Result.andThen,goInt]
 have hl:ents.size=es.length:=by rw[←hents];simp
 refine Qn W H rfl rfl (v:=.int .i64 es.length) ?_ (.int ?_)
 ·have hb2:=MapKept.run_getObj_map (P:=P) hb;simp[execOp,ho,resolve,invoke,builtin,Builtin.len_,hv,run_underlying h1,hb2,hl,Result.andThen,goInt]
 have:=hok.1;simp[IntKind.min,IntKind.max,IntKind.signed,IntKind.bits];omega
omit hev in
theorem step_makv(hnew:∀p∈e.new,h p.1=some p.2)(hfr:∀id,n≤id→id<n+e.cnt→g.ρ id=none){o:Oper}{t:TypeId}(ho:o.op= .makeMap t none)(he:makv (mty P t) n=some (c,e)):StepR P C o a w g h n e:=by
 unfold makv at he;split at he
 case h_2=>cases he
 rename_i kd z hm;simp only[qA,qC]at he;obtain⟨_,rfl⟩:=he;have hρ:g.ρ n=none:=hfr n (Nat.le_refl _) (by simp);have hn:h n=some (.mapE kd []):=hnew (n,_) (by simp);have hrun:(execOp a.eval o).run P w= .ok (.value (.map (some w.heap.size))) (w.alloc (.map #[] 0)):=by
  have hr:(Instr.makeMap t none).run P w= .ok (.map (some w.heap.size)) (w.alloc (.map #[] 0)):=rfl;simp[execOp,ho,hr]
 intro K Q kk;have hbk:upd g.ρ n ⟨some w.heap.size,0,0⟩ n=some ⟨some w.heap.size,0,0⟩:=by simp[upd]
 refine Q2a hrun (kk _ _ (upd g.o w.heap.size [n]) (upd g.ρ n ⟨some w.heap.size,0,0⟩) (W.alloc _ _ _) ?_ (λid k hk=>?_) (λid k hk=>?_) (.mp hbk) λb hb=>Q1m _ _ (W.R b hb).1)
 ·rw[QH rfl rfl];refine H.mono (λb hb=>Q1m _ _ (W.R b hb).1) (λb L hb=>⟨?_,Q1m _ _ (W.o b L hb).1⟩) (λid k hk=>?_) ?_ ?_ ?_ ?_
  ·simp only[upd];rw[if_neg (by have:=(W.o b L hb).1;omega)];exact hb
  ·simp only[upd];rw[if_neg (by rintro rfl;rw[hρ]at hk;cases hk)];exact hk
  ·intro id sz es bk h1 h2 h3;simp only[upd]at h3;split at h3
   ·rename_i hid;subst hid;rw[hn]at h1;cases h1
   rw[h2]at h3;cases h3
  ·intro id sz es bk h1 h2 h3;simp only[upd]at h3;split at h3
   ·rename_i hid;subst hid;rw[hn]at h1;cases h1
   rw[h2]at h3;cases h3
  ·intro id c i k sz bk h1 h2 h3;simp only[upd]at h3;split at h3
   ·rename_i hid;subst hid;rw[hn]at h1;cases h1
   rw[h2]at h3;cases h3
  intro id kd' es bk h1 h2 h3;simp only[upd]at h3;split at h3
  ·rename_i hid;subst hid;rw[hn]at h1;cases h1;cases h3;exact .inr ⟨MK.plain_ne (mty_plain hm),w.heap.size,rfl,by simp[upd],⟨#[],0,Q2h _ _,⟨rfl,λi en h=>by simp at h⟩,rfl⟩,by simp,List.nodup_nil,λp hp=>by cases hp⟩
  rw[h2]at h3;cases h3
 ·simp only[upd];rw[if_neg (by rintro rfl;rw[hρ]at hk;cases hk)];exact hk
 simp only[upd]at hk;split at hk
 ·rename_i hid;subst hid;exact .inr ⟨Nat.le_refl _,by simp⟩
 exact .inl hk
theorem step_updv{o:Oper}{t:TypeId}{x k y:Operand}(ho:o.op= .mapUpdate t x k y)(he:updv (mty P t) h (ev x) (ev k) (ev y)=some (c,e))(hc:c):StepR P C o a w g h n e:=by
 unfold updv at he;split at he
 case h_2=>cases he
 rename_i kd z id kv yv hm hx hk hy;split at he
 case h_2=>cases he
 rename_i kd' es hent;split at he
 case isFalse=>cases he
 rename_i hcond;obtain⟨rfl,his⟩:=hcond;simp only[qA,qC]at he;obtain⟨rfl,rfl⟩:=he;obtain⟨kt,et,h1,h2,h3,h4⟩:=Q71 hm;have hxx:=hev x;rw[hx]at hxx;obtain⟨b,hv,hb⟩:=hxx.mp_eq;obtain⟨b',q1,hob,⟨ents,clk,hobj,hborn,hents⟩,hok⟩:=(H.map id _ _ _ hent hb).plain (MK.plain_ne (MK.plain_of his));simp only[Bk.mk.injEq,qA,and_true]at q1;subst q1;obtain⟨hkv,hkok⟩:=key_rel hk his (hev k);have hyx:=hev y;rw[hy]at hyx;obtain⟨hyv,hysc⟩:=hyx.val_eq;have hrun:∃ents' clk',(Instr.mapUpdate t (a.eval x) (a.eval k) (a.eval y)).run P w= .ok () {w with heap:=w.heap.setIfInBounds b (.map ents' clk')}∧Born ents' clk'∧ents'.toList.map (λe=>(e.key,e.val))=mset kv yv es:=by
  rw[hv,hkv,hyv];rcases Q92 h2 w hents hok hkok with⟨f1,_,f2,_⟩|⟨j,en,f1,f2,f3,_,f4⟩
  ·refine⟨ents.push {key:=kv,val:=yv,born:=clk},clk+1,?_,hborn.push,?_⟩
   ·simp[Instr.mapUpdate,run_underlying h1,MapKept.run_getObj_map hobj,h2.check w _ hkok,f1,MapKept.run_setObj_map _ hobj,Result.andThen]
   rw[f2];simp[←hents]
  have hj:ents[j]? =some en:=by simpa using f2
  refine⟨ents.modify j λe=>{e with key:=kv,val:=yv},clk,?_,hborn.modify (λ_=>rfl),?_⟩
  ·simp[Instr.mapUpdate,run_underlying h1,MapKept.run_getObj_map hobj,h2.check w _ hkok,f1,hj,f3,h2.stays w hkok,MapKept.run_setObj_map _ hobj,Result.andThen]
  rw[f4,←hents];apply List.ext_getElem?;intro i;simp only[List.getElem?_map,Array.getElem?_toList,Array.getElem?_modify,List.getElem?_set,List.length_map,Array.length_toList];have hlt:j<ents.size:=(Array.getElem?_eq_some_iff.1 hj).1
  by_cases hij:j=i
  ·subst hij;simp[hj,hlt]
  simp[hij]
 obtain⟨ents',clk',hrun,hborn',hents'⟩:=hrun;have hexec:(execOp a.eval o).run P w= .ok .skip {w with heap:=w.heap.setIfInBounds b (.map ents' clk')}:=by simp[execOp,ho,hrun]
 obtain⟨hs1,hs2⟩:=MapKept.heap_set (o':=.map ents' clk') hobj;have hoth:∀c L,g.o c=some L→L≠[id]→(w.heap.setIfInBounds b (.map ents' clk'))[c]? =w.heap[c]?:=λc L hc hL=>hs2 c (by rintro rfl;rw[hob]at hc;cases hc;exact hL rfl);have hRr:∀c,g.R c→(w.heap.setIfInBounds b (.map ents' clk'))[c]? =w.heap[c]?:=λc hc=>hs2 c (by rintro rfl;have:=(W.R c hc).2;rw[hob]at this;cases this);have hself:happ {v:=.bot,set:=[(id,.mapE kd' (mset kv yv es))]} h id=some (.mapE kd' (mset kv yv es)):=by simp[happ,look]
 have hold:∀c e,happ {v:=.bot,set:=[(id,.mapE kd' (mset kv yv es))]} h c=some e→c≠id→h c=some e:=by
  intro c e he hc;simp only[happ,look]at he;rw[if_neg (Ne.symm hc)]at he;simpa using he
 have hsame:∀c,c≠id→happ {v:=.bot,set:=[(id,.mapE kd' (mset kv yv es))]} h c=h c:=by
  intro c hc;simp only[happ,look];rw[if_neg (Ne.symm hc)];simp
 have hcont:∀(d c:Nat) (q:Nat×List (List AV)),cont (happ {v:=.bot,set:=[(id,.mapE kd' (mset kv yv es))]} h) d c=some q→cont h d c=some q∧c≠id:=by
  intro d
  induction d with
  |zero=>intro c q hq;cases hq
  |succ d ih=>
   intro c q hq;have hcid:c≠id:=by
    rintro rfl
    simp[cont,hself]at hq
   refine⟨?_,hcid⟩;unfold cont at hq⊢;rw[hsame c hcid]at hq;cases hh:h c with
   |none=>simp[hh]at hq
   |some ec=>
    rw[hh]at hq;cases ec with
    |mix=>exact hq
    |row=>exact hq
    |mapE=>simp at hq
    |ali c2 i2 k2 s2=>
     simp only at hq⊢
     by_cases hc2:c2=id
     ·subst hc2;have:cont (happ {v:=.bot,set:=[(c2,.mapE kd' (mset kv yv es))]} h) d c2=none:=by
       cases hcc:cont (happ {v:=.bot,set:=[(c2,.mapE kd' (mset kv yv es))]} h) d c2 with
       |none=>rfl
       |some q2=>exact absurd rfl (ih c2 q2 hcc).2
      rw[this]at hq;split at hq<;>cases hq
     rw[hsame c2 hc2]at hq;split at hq
     ·cases hq
     rename_i hmx;rw[if_neg hmx];cases hcc:cont (happ {v:=.bot,set:=[(id,.mapE kd' (mset kv yv es))]} h) d c2 with
     |none=>rw[hcc]at hq;cases hq
     |some q2=>rw[(ih c2 q2 hcc).1];rw[hcc]at hq;exact hq
 intro K Q kk;refine Q3C hexec (kk undef _ g.o g.ρ ⟨λc hc=>⟨by simpa using(W.R c hc).1,(W.R c hc).2⟩,λc L hc=>⟨by simpa using(W.o c L hc).1,(W.o c L hc).2⟩,W.os,W.tape,W.output,by simpa using W.size,λc hc hw=>?_⟩
  ⟨λid' sz' es' bk he hbk=>?_,λid' sz' es' bk he hbk=>?_,λid' c i' k' s bk he hbk=>?_,λid' kd2 es' bk he hbk=>?_⟩ (λ_ _ h=>h) (λ_ _ h=>.inl h) .bot hRr)
 ·rw[hs2 c (by
   rintro rfl
   rcases(W.o c _ hob).2 with h|h
   ·omega
   exact hw h)]
  exact W.keep c hc hw
 ·have hne:id'≠id:=by rintro rfl;rw[hself]at he;cases he
  exact(H.mix id' sz' es' bk (hold _ _ he hne) hbk).mono hRr (λ_ _ h=>h) λc hc=>⟨hc,hoth c _ hc (by simpa using hne)⟩
 ·have hne:id'≠id:=by rintro rfl;rw[hself]at he;cases he
  obtain⟨v,hv2,hh2⟩:=H.row id' sz' es' bk (hold _ _ he hne) hbk;exact⟨v,hv2.same λc M hc=>⟨hc,hoth c _ hc (by simp[hne])⟩,hh2⟩
 ·have hne:id'≠id:=by rintro rfl;rw[hself]at he;cases he
  obtain⟨p1,bkc,p2,p3⟩:=H.ali id' c i' k' s bk (hold _ _ he hne) hbk;refine⟨p1,bkc,p2,λd szc esc hcc hmc hi hk=>?_⟩;obtain⟨r1,r2⟩:=hcont d c _ hcc;rw[hsame c r2]at hmc;obtain⟨bc,cur,el,v',s1,s2,s3,s4⟩:=p3 d szc esc r1 hmc hi hk;obtain⟨_,v3,r3,M3,_,hrr,ht,hhd⟩:=Q2A H d c szc esc bkc r1 hmc p2;have hne2:esc≠[]:=by rintro rfl;simp at hi
  have hhd:=hhd.resolve_right hne2;refine⟨bc,cur,el,v',s1,?_,s3,s4⟩;cases ht with
  |nil=>exact absurd rfl hne2
  |own us hob2=>
   cases hhd;cases s1;refine(hoth _ _ hob2 ?_).trans s2;intro heq;simp only[List.cons.injEq]at heq;obtain⟨rfl,_⟩:=heq;obtain⟨s5,e5,hr5⟩:=hrr;rw[hent]at hr5;cases hr5
 by_cases hne:id'=id
 ·subst hne;rw[hself]at he;cases he;rw[hb]at hbk;cases hbk;refine .inr ⟨MK.plain_ne (MK.plain_of his),b,rfl,hob,⟨ents',clk',hs1,hborn',hents'⟩,?_,Q9I _ _ _ hok.2.1,λp hp=>?_⟩
  ·have:=mset_len kv yv es;omega
  rcases mset_mem hp with h|⟨h,h'⟩
  ·exact hok.2.2 p h
  rw[h,h'];exact⟨hkok,hysc⟩
 exact(H.map id' kd2 es' bk (hold _ _ he hne) hbk).move (λc hc=>⟨hc,hRr c hc⟩) λb2 M p2=>⟨p2,hoth b2 _ p2 (by simp[hne])⟩
theorem step_mapF(hnew:∀p∈e.new,h p.1=some p.2)(hfr:∀id,n≤id→id<n+e.cnt→g.ρ id=none){o:Oper}(he:mapF P o.op ev h n=some (c,e))(hc:c):StepR P C o a w g h n e:=by
 unfold mapF at he;split at he
 ·rename_i t ho;exact step_makv W H hnew hfr ho he
 ·rename_i t x k ok ho;exact Q9W hev W H ho he
 ·rename_i t x k y ho;exact step_updv hev W H ho he hc
 ·rename_i x t ho;exact step_lenm hev W H ho he
 cases he
omit hev W H
theorem Q9d{h':HP}(hs:∀id x,h id=some x→h' id=some x){x:AV}{r:MK×List (Value×Value)}(hl:Q3X h x=some r):Q3X h' x=some r:=by
 unfold Q3X at hl⊢;split at hl
 ·split at hl
  ·rename_i he;simp only[hs _ _ he];exact hl
  cases hl
 ·exact hl
 cases hl
theorem mapF_up{h':HP}(hs:∀id x,h id=some x→h' id=some x){op:Op}(he:mapF P op ev h n=some (c,e)):mapF P op ev h' n=some (c,e):=by
 unfold mapF at he⊢;split at he
 ·exact he
 ·rename_i t x k ok;cases hm:Q3X h (ev x)with
  |none=>rw[hm]at he;simp only[Q5V]at he;split at he<;>simp_all
  |some r=>rw[hm]at he;simp only[Q9d hs hm];exact he
 ·unfold updv at he⊢;split at he
  ·split at he
   ·rename_i hh;simp only[hs _ _ hh];exact he
   cases he
  cases he
 ·rename_i x t;cases hm:Q3X h (ev x)with
  |none=>rw[hm]at he;simp only[lenm]at he;split at he<;>simp_all
  |some r=>rw[hm]at he;simp only[Q9d hs hm];exact he
 cases he
theorem Q9E{ev':Operand→AV}{op:Op}(hh:∀x∈op.operands,ev x=ev' x):mapF P op ev h n=mapF P op ev' h n:=by
 unfold mapF;split
 ·rfl
 ·rw[hh _ (by simp[qJ]),hh _ (by simp[qJ])]
 ·rw[hh _ (by simp[qJ]),hh _ (by simp[qJ]),hh _ (by simp[qJ])]
 ·rw[hh _ (by simp[qJ,Call.operands])]
 rfl
theorem Q7P(hlt:∀id x,h id=some x→id<n){op:Op}(he:mapF P op ev h n=some (c,e)):e.fine n∧(Q1f op=false→e.set=[]∧e.del=[])∧Q14 op=true:=by
 unfold mapF at he;split at he
 ·unfold makv at he;split at he
  ·simp only[qA,qC]at he;obtain⟨_,rfl⟩:=he;exact⟨⟨by simp,by simp,by simp,Q1W rfl⟩,λ_=>⟨rfl,rfl⟩,rfl⟩
  cases he
 ·unfold Q5V at he;split at he
  ·split at he
   ·simp only[qA,qC]at he;obtain⟨_,rfl⟩:=he;exact⟨⟨by simp,by simp,by simp,Q1W rfl⟩,λ_=>⟨rfl,rfl⟩,rfl⟩
   cases he
  cases he
 ·unfold updv at he;split at he
  ·split at he
   ·rename_i hh;split at he
    ·simp only[qA,qC]at he;obtain⟨_,rfl⟩:=he;exact⟨⟨by simp,by simp,by simp,Q9m rfl (hlt _ _ hh)⟩,λhw=>by simp[Q1f]at hw,rfl⟩
    cases he
   cases he
  cases he
 ·unfold lenm at he;split at he
  ·simp only[qA,qC]at he;obtain⟨_,rfl⟩:=he;exact⟨⟨by simp,by simp,by simp,Q1W rfl⟩,λ_=>⟨rfl,rfl⟩,rfl⟩
  cases he
 cases he
theorem Q9F{op:Op}(he:mapF P op ev h n=some (c,e)):Q14 op=true:=by
 unfold mapF at he;split at he
 ·rfl
 ·rfl
 ·rfl
 ·rfl
 cases he
theorem Q8S{h':HP}(hs:∀id x,h id=some x→h' id=some x){sz:Nat}{x:AV}{r:Prop×List (List AV)×List Nat}(hl:Q6h h sz x=some r):Q6h h' sz x=some r∧∀i∈r.2.2,∃y,h i=some y:=by
 unfold Q6h at hl⊢;split at hl
 ·simp only[qA]at hl;subst hl;exact⟨rfl,λi hi=>by cases hi⟩
 ·split at hl
  ·rename_i he;simp only[hs _ _ he];refine⟨hl,?_⟩;split at hl
   ·simp only[qA]at hl;subst hl;intro i hi;simp only[zN]at hi;subst hi;exact⟨_,he⟩
   cases hl
  cases hl
 cases hl
theorem srcM_up{h':HP}(hs:∀id x,h id=some x→h' id=some x){sz:Nat}{x:AV}{r:Prop×List (List AV)}(hl:srcM h sz x=some r):srcM h' sz x=some r:=by
 unfold srcM at hl⊢;split at hl
 ·exact hl
 ·exact hl
 ·split at hl
  ·rename_i he;simp only[hs _ _ he];exact hl
  cases hl
 cases hl
theorem appM_up{h':HP}(hs:∀id x,h id=some x→h' id=some x){ty:Option Tyi}{s x:AV}(he:appM ty s x h n=some (c,e)):appM ty s x h' n=some (c,e):=by
 unfold appM at he⊢;split at he
 ·split at he
  ·rename_i hb hx;simp only[(Q8S hs hb).1,srcM_up hs hx];exact he
  cases he
 cases he
theorem appM_fine(hlt:∀id x,h id=some x→id<n){ty:Option Tyi}{s x:AV}(he:appM ty s x h n=some (c,e)):e.fine n:=by
 unfold appM at he;split at he
 ·split at he
  ·rename_i hb hx;simp only[qA,qC]at he;obtain⟨_,rfl⟩:=he;refine⟨by simp,by simp,λi hi=>?_,Q1W rfl⟩;obtain⟨y,hy⟩:=(Q8S (λ_ _ h=>h) hb).2 i hi;exact hlt _ _ hy
  cases he
 cases he
end
def zc(k:Nat):Value→AV
 | .slice none 0 0=>.lst true k []
 |v=>.val v
def Q5h(e2 e:Option Tyi)(l c:AV)(n:Nat):Option (Prop×Eff):=
 match e2,e,l,c with
 |some t2,some ty,.val (.int .i64 a),.val (.int .i64 b)=>
  if 0<ty.sz then some (0≤a∧a≤b∧b*ty.bytes≤140737488355328∧b≤140737488355328,{v:=.own n 0 a.toNat,new:=[(n,.row ty.sz (zL a.toNat (ty.zero.map (zc t2.sz))))],cnt:=1})else none
 |_,_,_,_=>none
theorem Q8f{z:Nat}(vs:List Value)(k:Nat)(hk:k<vs.length):(vs.map (zc z)).getD k .bot=zc z (vs.getD k undef):=by
 simp[qB,List.getElem?_map,List.getElem?_eq_getElem hk]
theorem zc_rel{w:World}{R:Nat→Prop}{o:Nat→Option (List Nat)}{L:List Nat}{v:Value}{z:Nat}(h:sc v):TRel w R o L v (zc z v):=by
 unfold zc;split
 ·exact .nil
 exact .val h
section
variable {P:Program}{C:Ctx}{a:Act}{w:World}{g:Gh}{h:HP}{n:Nat}{e:Eff}{c:Prop}{ev:Operand→AV}
theorem Q8H{t2:Option Tyi}(hev:∀x,XRel w g.R g.ρ (a.eval x) (ev x))(W:WF C w g)(H:HRel w g h)(hnew:∀p∈e.new,h p.1=some p.2)(hfr:∀id,n≤id→id<n+e.cnt→g.ρ id=none){o:Oper}{t et:TypeId}{l cc:Operand}(ho:o.op= .makeSlice t l cc)(ht:elm P t=some et)(he:Q5h t2 (tyi P et) (ev l) (ev cc) n=some (c,e))(hc:c):StepR P C o a w g h n e:=by
 have hu:=Q2T ht;have hl:=hev l;have hcap:=hev cc;unfold Q5h at he;split at he
 ·rename_i t2 ty x y hty hel hec;split at he
  ·rename_i hz0;simp only[qA,qC]at he;obtain⟨rfl,rfl⟩:=he;obtain⟨h0x,hxy,hby,hyy⟩:=hc;obtain⟨inf,d,z,h1,h2,h3,h4,hsc,h5,_⟩:=Q1V hty;subst h4;simp only at hz0 hby
   rw[hel]at hl;rw[hec]at hcap;have hlv:=hl.val_eq.1;have hcv:=hcap.val_eq.1;have hwx:IntKind.i64.wrap x=x:=Q4W (by omega);have hwy:IntKind.i64.wrap y=y:=Q4W (by omega)
   let z0:Array Value:=(Array.range (y.toNat*inf.size)).map (z.cells[· % z.cells.size]!)
   have hz0s:z0.size=y.toNat*inf.size:=(by simp[z0]);have hz0g:∀i k,i<y.toNat→k<inf.size→z0[i*inf.size+k]? =some (z.cells.toList.getD k undef):=by
    intro i k hi hk;have hlt:=Q2N hi hk;have hm:(i*inf.size+k) % inf.size=k:=Q5C hk;simp only[z0,Array.getElem?_map,Array.getElem?_range,hlt,if_true,Option.map_some,h5,hm];rw[bang _ _ (show k<z.cells.size by omega)]
   have hxy':x.toNat≤y.toNat:=(by omega);refine Q4R (v:=.slice (some ⟨w.heap.size,0,none⟩) x.toNat y.toNat) (cur:=z0) (el:=et) (bk:=⟨some w.heap.size,inf.size,y.toNat⟩) W H (.inl rfl) rfl rfl rfl rfl hnew hfr ?_
    (.inr ⟨inf.size,_,.slice (some ⟨w.heap.size,0,none⟩) x.toNat y.toNat,rfl,?_,.own⟩) ?_
   ·have hrun:(Instr.makeSlice t (.int .i64 x) (.int .i64 y)).run P w= .ok (.slice (some ⟨w.heap.size,0,none⟩) x.toNat y.toNat) (w.alloc (.cells z0 et)):=by
     have hb0:0≤(inf.bytes:Int)*y:=Int.mul_nonneg (by omega) (by omega);have hby':(inf.bytes:Int)*y≤140737488355328:=by rw[Int.mul_comm];exact hby
     have e2:¬(((y<0∨281474976710656<(inf.bytes:Int)*y)∨x<0)∨y<x):=by omega
     by_cases h00:y.toNat*inf.size=0
     ·have hz:z0=#[]:=(by apply Array.eq_empty_of_size_eq_zero;rw[hz0s];exact h00);simp[Instr.makeSlice,run_underlying hu,asInt,asIntOf,typeInfo,h1,hwx,hwy,Q3L,sizeOf,h00,newRow,hz,show Array.range 0=#[] from rfl];exact λhh=>absurd hh e2
     simp[Instr.makeSlice,run_underlying hu,asInt,asIntOf,typeInfo,h1,hwx,hwy,Q3L,sizeOf,h00,zeroValue,h3,newRow];rw[if_neg e2]
    simp[execOp,ho,hlv,hcv,hrun]
   ·have hlen:(zL x.toNat (z.cells.toList.map (zc t2.sz))).length=x.toNat:=(by simp);have hget:∀i,i<x.toNat→(zL x.toNat (z.cells.toList.map (zc t2.sz))).getD i []=z.cells.toList.map (zc t2.sz):=by
     intro i hi;simp[qB,hi]
    have:=TRel.own (w:=w.alloc (.cells z0 et)) (R:=g.R) (o:=upd g.o w.heap.size [n]) (L:=[n]) (sz:=inf.size) (es:=zL x.toNat (z.cells.toList.map (zc t2.sz))) (b:=w.heap.size) (cap:=y.toNat) (cur:=z0) (e:=et)
     (λi k=>z.cells.toList.getD k undef) (by simp[upd]) (Q2h _ _) (Nat.le_of_eq hz0s.symm) (by rw[hlen];exact hxy') (by unfold maxLen;omega)
     (λi hi=>by rw[hlen]at hi;rw[hget i hi];simpa using h5)
     (λi k hi hk=>hz0g i k (by rw[hlen]at hi;omega) hk)
     (λi k hi hk=>Q45 (hsc _ (Q2U (by simp;omega))))
     (λi k hi hk=>by
      rw[hlen]at hi;rw[hget i hi,Q8f _ _ (by simp;omega)];exact zc_rel (hsc _ (Q2U (by simp;omega))))
    rwa[hlen]at this
   exact .own (sz:=inf.size) (by simp[upd]) (Nat.le_of_eq (Nat.zero_add _)) hxy' (by simp) (by simp) (by unfold maxLen;omega)
  simp at he
 simp at he
theorem step_mki(hev:∀x,XRel w g.R g.ρ (a.eval x) (ev x))(W:WF C w g)(H:HRel w g h){o:Oper}{t:TypeId}{x:Operand}{cs:List AV}(ho:o.op= .makeInterface t x)(ht:sty P t=true)(hx:ev x= .agg cs):StepR P C o a w g h n {v:=.ifc t cs}:=by
 obtain⟨fs,hfs⟩:=sty_eq ht;have hxx:=hev x;rw[hx]at hxx;obtain⟨vs,hv,h1,h2,h3⟩:=hxx.agg_eq;refine Qn W H rfl rfl (v:=.iface t (.agg vs)) ?_ (.ifc h1 h2 h3);simp[execOp,ho,Instr.makeInterface,underlying,hfs,hv]
theorem step_mkis(hev:∀x,XRel w g.R g.ρ (a.eval x) (ev x))(W:WF C w g)(H:HRel w g h){o:Oper}{t:TypeId}{x:Operand}{u:Bool}{sz:Nat}{es:List (List AV)}(ho:o.op= .makeInterface t x)(ht:slt P t=true)(hx:ev x= .lst u sz es):StepR P C o a w g h n {v:=.ifs t sz es}:=by
 obtain⟨fs,hfs⟩:=slt_eq ht;have hxx:=hev x;rw[hx]at hxx;refine Qn W H rfl rfl (v:=.iface t (a.eval x)) ?_ (.r (.ifs hxx.lst_eq.flag));simp[execOp,ho,Instr.makeInterface,underlying,hfs]
def tas(P:Program)(s t:TypeId):Bool:=match P.underlying s,P.info? t with
 |some (.interface want),some ti=>(Instr.missingMethod want ti.methods).isNone
 |_,_=>false
theorem step_tas(hev:∀x,XRel w g.R g.ρ (a.eval x) (ev x))(W:WF C w g)(H:HRel w g h){o:Oper}{xt s t sz:Nat}{x:Operand}{es:List (List AV)}(ho:o.op= .typeAssert x xt s true)(ht:tas P s t=true)(hx:ev x= .ifs t sz es):StepR P C o a w g h n {v:=.tup [.ifs t sz es,.val (.bool true)]}:=by
 have hxx:=hev x;rw[hx]at hxx;obtain⟨u,hv,hr⟩:=hxx.ifs_eq;unfold tas at ht;split at ht
 ·rename_i want ti h1 h2;rw[Option.isNone_iff_eq_none]at ht;refine Qn W H rfl rfl (v:=.tuple #[.iface t u,.bool true]) (by simp[execOp,ho,Instr.typeAssert,underlying,typeInfo,h1,h2,hv,ht]) (.tup rfl λk hk=>?_)
  match k,hk with
  |0,_=>exact .r (.ifs hr)
  |1,_=>exact .r (.val trivial)
 cases ht
theorem step_mkf(hev:∀x,XRel w g.R g.ρ (a.eval x) (ev x))(W:WF C w g)(H:HRel w g h){o:Oper}{f:Nat}{caps:Array Operand}(ho:o.op= .makeFunc (.func f) #[] caps):StepR P C o a w g h n {v:=.fn f (caps.toList.map ev)}:=by
 refine Qn W H rfl rfl (v:=.func (.func f) #[] (caps.map a.eval)) (by simp[execOp,ho,Instr.makeFunc]) (.fn (by simp) λk hk=>?_);have hk':k<caps.size:=by simpa using hk
 have h1:(caps.map a.eval).getD k undef=a.eval caps[k]:=by simp[hk']
 have h2:(caps.toList.map ev).getD k .bot=ev caps[k]:=by simp[qB,hk']
 rw[h1,h2];exact hev _
theorem step_mkb(hev:∀x,XRel w g.R g.ρ (a.eval x) (ev x))(W:WF C w g)(H:HRel w g h){o:Oper}{f:Nat}{caps:Array Operand}(ho:o.op= .makeFunc (.func f) caps #[]):StepR P C o a w g h n {v:=.bnd f (caps.toList.map ev)}:=by
 refine Qn W H rfl rfl (v:=.func (.func f) (caps.map a.eval) #[]) (by simp[execOp,ho,Instr.makeFunc]) (.bnd (by simp) λk hk=>?_);have hk':k<caps.size:=by simpa using hk
 have h1:(caps.map a.eval).getD k undef=a.eval caps[k]:=by simp[hk']
 have h2:(caps.toList.map ev).getD k .bot=ev caps[k]:=by simp[qB,hk']
 rw[h1,h2];exact hev _
theorem Q5W{e2 e:Option Tyi}{l c:AV}{n:Nat}{q:Prop}{f:Eff}(h:Q5h e2 e l c n=some (q,f)):f.fine n∧f.set=[]∧f.del=[]:=by
 unfold Q5h at h;split at h
 ·split at h
  ·simp only[qA,qC]at h;obtain⟨_,rfl⟩:=h;exact⟨⟨by simp,by simp,by simp,Q1W rfl⟩,rfl,rfl⟩
  cases h
 cases h
end
end Go.Vc
