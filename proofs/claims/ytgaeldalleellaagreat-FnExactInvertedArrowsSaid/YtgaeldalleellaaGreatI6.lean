/- A part of the proof. -/
import Derived.Test.YtgaeldalleellaaGreatI5
import Derived.IntWalk
import Derived.Laws.BytesString
import Derived.Scope
set_option maxRecDepth 100000
set_option maxHeartbeats 4000000
set_option linter.unusedSimpArgs false
set_option linter.unusedVariables false
set_option linter.unusedSectionVars false
set_option linter.unnecessarySimpa false

open Option.some renaming injEq→qA
open List renaming getD_eq_getElem?_getD→qB
open Prod.mk renaming injEq→qC
open Array renaming getElem?_eq_getElem→zK
open Nat renaming le_refl→qE
open List renaming getElem?_eq_getElem→qF
open Prod renaming fst→qG
open Option renaming getD_some→zL
open Bool renaming and_eq_true→qI
open Nat renaming zero_le→zV
open Nat renaming lt_or_ge→zM
open List renaming range→zW
open List renaming getElem_of_mem→zX
open List renaming map_cons→qK
open List renaming getElem_mem→zY
open Nat renaming le_trans→qL
open Nat renaming lt_of_lt_of_le→qO
open List renaming mem_singleton→zI
open Array renaming replicate→zT
open Array renaming getElem?_append→zZ
open Bool renaming or_eq_true→zN
open List.cons renaming injEq→qS
open Array renaming getD_eq_getD_getElem?→yA
open Option renaming map_some→yB
open List renaming all_eq_true→qX
open Option renaming getD_none→zO
open Nat renaming lt_trichotomy→yC
open Nat renaming sub_zero→yD
open List renaming mem_range→yE
noncomputable section
namespace Go.Vc
open Go
inductive Good:AV→Prop
 |val {v}:sc v→Good (.val v)
 |lst {u sz es}:es.length≤maxLen→(∀i,i<es.length→(es.getD i []).length=sz)→(∀i k,i<es.length→k<sz→Good ((es.getD i []).getD k .bot))→Good (.lst u sz es)
 |rptr {cs}:(∀k,k<cs.length→Good (cs.getD k .bot))→Good (.rptr cs)
 |agg {cs}:(∀k,k<cs.length→Good (cs.getD k .bot))→Good (.agg cs)
 |other {a}:(match a with|.val _|.lst _ _ _|.rptr _|.agg _=>False|_=>True)→Good a
theorem RRel.good{w:World}{R:Nat→Prop}{v:Value}{a:AV}(h:RRel w R v a):Good a:=by
 induction h with
 |val h=>exact .val h
 |nil=>exact .lst (by simp) (λi hi=>by simp at hi) (λi k hi=>by simp at hi)
 |lst us _ _ h1 h2 h3 _ _ _ ih=>exact .lst (by omega) h3 ih
 |rptr us _ _ _ _ _ ih=>exact .rptr ih
 |fn=>exact .other trivial
 |cmap=>exact .other trivial
 |nilm=>exact .other trivial
 |cmapM=>exact .other trivial
 |bot=>exact .other trivial
theorem XRel.good{w:World}{R:Nat→Prop}{ρ:Nat→Option Bk}{v:Value}{a:AV}(h:XRel w R ρ v a):Good a:=by
 induction h with
 |r h=>exact h.good
 |agg _ _ _ ih=>exact .agg ih
 |_=>exact .other trivial
section
variable {P:Program}{F:Fx}{AQ:Exit→St→Prop}{st:St}{c:Code}
theorem Q5E(t:Nat)(h:Good (st.get t)→Wp P F c AQ st):Wp P F c AQ st:=by
 intro a w hr;have:Good (st.get t):=by
  obtain⟨_,_,_,_,_,o,ρ,_,_,hx,_⟩:=hr;exact(hx t).good
 exact h this a w hr
theorem w_sr{id:Nat}{ops:Array Oper}{d:Bool}{y:Code}(hm:P.follows .mixedOrders=true)(hok:(okN F.N ops&&(!d||(Q4V false ops&&Q2g ops)))=true)(h:∀K:St→Prop,(∀st',Wp P F y AQ st'→K st')→Q1e P false ops ops.toList st K):Wp P F (.seq (.region id ops d) y) AQ st:=
 Q0 (w_run hm hok λK hK=>h K λst' h'=>hK st' h')
theorem Q9Z{id:Nat}{ops:Array Oper}{d:Bool}{y:Code}(hm:P.follows .mixedOrders=true)(hok:(okN F.N ops&&(!d||(Q4V true ops&&Q2g ops)))=true)(h:∀K:St→Prop,(∀st',Wp P F y AQ st'→K st')→Q1e P true ops ops.toList st K):Wp P F (.seq (.region id ops d) y) AQ st:=
 Q0 (w_runM hm hok λK hK=>h K λst' h'=>hK st' h')
end
def Is(xs:List Int):List (List AV):=xs.map λx=>[.val (.int .i64 x)]
@[simp] theorem Is_length(xs:List Int):(Is xs).length=xs.length:=by simp[Is]
@[simp] theorem Is_nil:Is []=[]:=rfl
theorem Is_get(xs:List Int)(i:Nat)(h:i<xs.length):(Is xs).getD i []=[.val (.int .i64 (xs.getD i 0))]:=by
 simp[Is,qB,h]
theorem Is_append(xs ys:List Int):Is (xs++ys)=Is xs++Is ys:=by simp[Is]
def B64(x:Int):Prop:=-9223372036854775808≤x∧x≤9223372036854775807
theorem Good.is{u:Bool}{xs:List Int}(h:Good (.lst u 1 (Is xs))):xs.length≤9223372036854775807∧∀x∈xs,B64 x:=by
 cases h with
 |lst h1 h2 h3=>
  refine⟨by rw[Is_length]at h1;exact qL h1 (by decide),λx hx=>?_⟩;obtain⟨i,hi,rfl⟩:=zX hx;have:=h3 i 0 (by simpa using hi) (by omega);rw[Is_get _ _ hi]at this;simp only[List.getD_cons_zero]at this;cases this with
  |val h=>
   simp only[sc]at h;have e1:IntKind.i64.min= -9223372036854775808:=(by decide);have e2:IntKind.i64.max=9223372036854775807:=(by decide);simpa[qB,hi,B64,e1,e2]using h
  |other h=>exact h.elim
 |other h=>exact h.elim
@[simp] theorem i64_min:IntKind.i64.min= -9223372036854775808:=by decide
theorem Qg{x:Int}(h:B64 x):IntKind.i64.wrap x=x:=IntWalk.i64_in x h
theorem QD(xs:List Int)(i:Nat)(h:i<xs.length):(Is xs)[i]? =some [.val (.int .i64 xs[i])]:=by simp[Is,h]
attribute [local simp] QD
theorem Qo(xs:List Int)(i:Nat)(h:i<(Is xs).length):(Is xs)[i]=[.val (.int .i64 (xs[i]'(by simpa using h)))]:=by simp[Is]
attribute [local simp] Qo
@[simp] theorem Is_set(xs:List Int)(i:Nat)(x:Int):(Is xs).set i [.val (.int .i64 x)]=Is (xs.set i x):=by simp[Is,List.map_set]
@[simp] theorem Is_rep(n:Nat)(x:Int):List.replicate n [.val (.int .i64 x)]=Is (List.replicate n x):=by simp[Is]
theorem Qw{t:Nat}{v v':Value}{st:St}(h:st.get t= .val v)(e:v=v'):RetA [t] st [.val v']:=by
 subst e;refine⟨?_,[.val v],[],?_,.nil,UpL.refl _⟩
 ·simp only[qK,List.map_nil,h];exact .one rfl rfl .nil
 simp only[qK,List.map_nil,h,List.flatMap_cons,List.flatMap_nil,AV.cells,List.append_nil];rfl
theorem Q5m{t id n sz:Nat}{es fs:List (List AV)}{st:St}(h:st.get t= .own id 0 n)(he:look id st.h=some (.row sz es))(hn:es.length=n)(e:es=fs):RetA [t] st [.lst true sz fs]:=by
 subst e;refine⟨?_,[.lst true sz es],[id],?_,by simp,UpL.refl _⟩
 ·simp only[qK,List.map_nil,h];exact .one rfl rfl .nil
 have he':st.hp id=some (.row sz es):=he;simp only[qK,List.map_nil,h,List.flatMap_cons,List.flatMap_nil,AV.cells,List.append_nil];simp[Q3g,layC,layD,Go.Vc.depth,he',hn]
theorem QE{i n:Nat}(h:i<n)(hn:n≤9223372036854775807):IntKind.i64.wrap ((i:Int)+1)=((i+1:Nat):Int):=by
 rw[Qg ⟨by omega,by omega⟩];rfl
def contE(h:HP)(d:Nat):Option Ent→Option (Nat×List (List AV))
 |some (.mix sz es)=>some (sz,es)
 |some (.row sz es)=>some (sz,es)
 | some (.ali c i k sz)=>if Qq (h c) then none else match cont h d c with
   |some (_,es)=>match(es.getD i []).getD k .bot with
    | .lst true sz' es'=>if sz'=sz then some (sz,es')else none
    |_=>none
   |none=>none
 |some (.mapE _ _)=>none
 |none=>none
theorem cont_E{h:HP}{d id:Nat}:cont h (d+1) id=contE h d (h id):=by
 simp only[cont];cases h id with
 |none=>rfl
 |some e=>cases e<;>rfl
def wrE(h:HP)(d id:Nat)(es:List (List AV)):Option Ent→Option (List (Nat×Ent))
 |some (.mix sz _)=>some [(id,.mix sz es)]
 |some (.row sz _)=>some [(id,.row sz es)]
 | some (.ali c i k sz)=>match cont h d c with
   |some (_,fs)=>wr h d c (fs.set i ((fs.getD i []).set k (.lst true sz es)))
   |none=>none
 |some (.mapE _ _)=>none
 |none=>none
theorem wr_E{h:HP}{d id:Nat}{es:List (List AV)}:wr h (d+1) id es=wrE h d id es (h id):=by
 simp only[wr];cases h id with
 |none=>rfl
 |some e=>cases e<;>rfl
def Qb7(t:Tyi)(id i k n:Nat):Option (Nat×List (List AV))→Option (Prop×Eff)
 |some (sz,es)=>some (i<es.length∧k+t.sz≤sz,{v:=bif t.agg then .agg (Q1m id i k n (((es.getD i []).drop k).take t.sz)).1 else(Q1m id i k n (((es.getD i []).drop k).take t.sz)).1.getD 0 .bot,new:=(Q1m id i k n (((es.getD i []).drop k).take t.sz)).2,cnt:=t.sz})
 |none=>none
def loadE(t:Tyi)(id i k n:Nat)(h:HP):Option Ent→Option (Prop×Eff)
 |some (.mix sz es)=>some (i<es.length∧k+t.sz≤sz,{v:=bif t.agg then .agg (((es.getD i []).drop k).take t.sz)else(es.getD i []).getD k .bot})
 |some (.row sz es)=>Qb7 t id i k n (some (sz,es))
 |some (.ali _ _ _ _)=>Qb7 t id i k n (cont h depth id)
 |some (.mapE _ _)=>none
 |none=>none
theorem Q9y{t:Tyi}{id i k n:Nat}{h:HP}:Q3O (some t) (.adr id i k) h n=loadE t id i k n h (h id):=by
 simp only[Q3O,loadE];cases he:h id with
 |none=>rfl
 |some e=>
  cases e with
  |mix=>rfl
  |row sz es=>
   have:cont h depth id=some (sz,es):=(by simp[cont,depth,he]);simp only[this,Qb7]
  |ali=>simp only[Qb7];cases cont h depth id<;>rfl
  |mapE kd es=>
   have:cont h depth id=none:=(by simp[cont,depth,he]);simp only[this]
def Q5D(t:Tyi)(id i k:Nat)(x:AV)(h:HP):Option (Nat×List (List AV))→Option (Prop×Eff)
 |some (sz,es)=>match x with
  | .val v=>if t.sz=1∧Q7b v=true then
    match wr h depth id (es.set i ((es.getD i []).set k (.val v)))with
    |some s=>some (i<es.length∧k<sz,{v:=.bot,set:=s})
    |none=>none
   else none
  |_=>none
 |none=>none
def Q94(t:Tyi)(id i k:Nat)(x:AV)(h:HP):Option Ent→Option (Prop×Eff)
 |some (.mix sz es)=>if x.cells.length=t.sz&&Q5L x then
    some (i<es.length∧k+t.sz≤sz,{v:=.bot,set:=[(id,.mix sz (es.set i (Q23 (es.getD i []) k x.cells)))]})
   else none
 |some (.row _ _)=>Q5D t id i k x h (cont h depth id)
 |some (.ali _ _ _ _)=>Q5D t id i k x h (cont h depth id)
 |some (.mapE _ _)=>none
 |none=>none
theorem storev_E{t:Tyi}{id i k:Nat}{x:AV}{h:HP}:Q3C (some t) (.adr id i k) x h=Q94 t id i k x h (h id):=by
 simp only[Q3C,Q94];cases he:h id with
 |none=>rfl
 |some e=>
  cases e with
  |mapE kd es=>
   have:cont h depth id=none:=(by simp[cont,depth,he]);simp only[this]
  |_=>first|rfl|(simp only[Q5D];cases cont h depth id<;>rfl)
def layE(h:HP)(d:Nat)(id n:Nat):Option Ent→Option (AV×List Nat)
 |some (.row sz es)=>if es.length=n then some (.lst true sz es,[id])else none
 | some (.mix sz es)=>if es.length=n then match Q2d (layD h d) es with
   |some (q,ds)=>some (.lst true sz q,id::ds)
   |none=>none
   else none
 |some (.ali _ _ _ _)=>none
 |some (.mapE _ _)=>none
 |none=>none
theorem layD_val{h:HP}{d:Nat}{v:Value}:layD h (d+1) (.val v)=some (.val v,[]):=rfl
theorem layD_E{h:HP}{d id n:Nat}:layD h (d+1) (.own id 0 n)=layE h d id n (h id):=by
 simp only[layD,layE];cases he:h id with
 |none=>rfl
 |some e=>cases e<;>rfl
def idxC(t:Tyi)(id off n:Nat)(j:Int):Option (Nat×List (List AV))→Option (Prop×Eff)
 |some (sz,_)=>if sz=t.sz then some (0≤j∧j<n,{v:=.adr id (off+j.toNat) 0})else none
 |none=>none
theorem Q9w{t:Tyi}{id off n:Nat}{k:IntKind}{j:Int}{h:HP}:Q2c (some t) (.own id off n) (.val (.int k j)) h=idxC t id off n j (cont h depth id):=by
 simp only[Q2c,idxC];cases cont h depth id<;>rfl
theorem Q9v{t:Tyi}{u:Bool}{sz:Nat}{es:List (List AV)}{k:IntKind}{j:Int}{h:HP}:
  Q2c (some t) (.lst u sz es) (.val (.int k j)) h=if sz=t.sz then some (0≤j∧j<es.length,{v:=.rptr (es.getD j.toNat [])})else none:=rfl
def srcE(h:HP)(sz id off n:Nat):Option Ent→Option (Prop×List (List AV)×List Nat)
 | some (.mix sz' es)=>if sz'=sz then match Q4S h ((es.drop off).take n) with
   |some (q,d)=>some (off+n≤es.length,q,d)
   |none=>none
   else none
 |some (.row sz' es)=>if sz'=sz then some (off+n≤es.length∧∀e∈es,∀c∈e,isVal c=true,(es.drop off).take n,[])else none
 | some (.ali _ _ _ _)=>match cont h depth id with
   |some (sz',es)=>if sz'=sz then some (off+n≤es.length∧∀e∈es,∀c∈e,isVal c=true,(es.drop off).take n,[])else none
   |none=>none
 |some (.mapE _ _)=>none
 |none=>none
theorem src_nil{h:HP}{sz:Nat}:src h sz (.val (.slice none 0 0))=some (True,[],[]):=rfl
theorem src_lst{h:HP}{sz:Nat}{u:Bool}{sz':Nat}{es:List (List AV)}:src h sz (.lst u sz' es)=if sz'=sz then some (∀e∈es,∀c∈e,isVal c=true,es,[])else none:=rfl
theorem src_E{h:HP}{sz id off n:Nat}:src h sz (.own id off n)=srcE h sz id off n (h id):=by
 simp only[src,srcE];cases he:h id with
 |none=>rfl
 |some e=>
  cases e with
  |mix=>rfl
  |row sz' es=>
   have:cont h depth id=some (sz',es):=(by simp[cont,depth,he]);simp only[this]
  |mapE kd es=>
   have:cont h depth id=none:=(by simp[cont,depth,he]);simp only[this]
  |ali=>rfl
def baseE(h:HP)(sz id m:Nat):Option Ent→Option (Prop×List (List AV)×List Nat×List Nat)
 |some (.row sz' es)=>if sz'=sz then some (m≤es.length,es.take m,[id],[])else none
 | some (.mix sz' es)=>if sz'=sz then match Q4S h (es.take m) with
   |some (q,d)=>some (m≤es.length,q,[id],d)
   |none=>none
   else none
 |some (.ali _ _ _ _)=>none
 |some (.mapE _ _)=>none
 |none=>none
theorem base_nil{h:HP}{sz:Nat}:base h sz (.val (.slice none 0 0))=some (True,[],[],[]):=rfl
theorem base_E{h:HP}{sz id m:Nat}:base h sz (.own id 0 m)=baseE h sz id m (h id):=by
 simp only[base,baseE];cases he:h id with
 |none=>rfl
 |some e=>cases e<;>rfl
def appE(t:Tyi)(n:Nat):Option (Prop×List (List AV)×List Nat×List Nat)→Option (Prop×List (List AV)×List Nat)→Option (Prop×Eff)
 | some (c1,es,i,d1),some (c2,news,d2) =>
   if(n::(i++(d1++d2))).Nodup then
    some (c1∧c2∧(es.length+news.length)*t.bytes≤140737488355328∧es.length+news.length≤140737488355328∧0<t.sz,
     {v:=.own n 0 (es.length+news.length),del:=i++(d1++d2),new:=[(n,.row t.sz (es++news))],cnt:=1})else none
 |_,_=>none
theorem appendv_E{t:Tyi}{s x:AV}{h:HP}{n:Nat}:Q2W (some t) s x h n=appE t n (base h t.sz s) (src h t.sz x):=by
 simp only[Q2W,appE];cases base h t.sz s with
 |none=>rfl
 |some p=>cases src h t.sz x<;>rfl
@[simp] theorem hp_mk{s:List (Nat×AV)}{h:List (Nat×Ent)}{n id:Nat}:St.hp ⟨s,h,n⟩ id=look id h:=rfl
section
variable {h:HP}{d id n k i c j l off m sz:Nat}{es:List (List AV)}{t:Tyi}{x:AV}{q:Int}
@[simp] theorem contE_row:contE h d (some (.row sz es))=some (sz,es):=rfl
def contI(h:HP)(d i k sz:Nat):Bool→Option (Nat×List (List AV))→Option (Nat×List (List AV))
 |true,_=>none
 |false,some (_,es)=>match(es.getD i []).getD k .bot with
    | .lst true sz' es'=>if sz'=sz then some (sz,es')else none
    |_=>none
 |false,none=>none
@[simp] theorem contE_ali:contE h d (some (.ali c i k sz))=contI h d i k sz (Qq (h c)) (cont h d c):=by
 simp only[contE,contI];cases Qq (h c)with
 |true=>rfl
 |false=>simp only[Bool.false_eq_true,if_false];cases cont h d c<;>rfl
@[simp] theorem contI_some{z:Nat}:contI h d i k sz false (some (z,es))=match(es.getD i []).getD k .bot with
    | .lst true sz' es'=>if sz'=sz then some (sz,es')else none
    |_=>none:=rfl
@[simp] theorem wrE_row{fs:List (List AV)}:wrE h d id es (some (.row sz fs))=some [(id,.row sz es)]:=rfl
def wrI(h:HP)(d c i k sz:Nat)(es:List (List AV)):Option (Nat×List (List AV))→Option (List (Nat×Ent))
 |some (_,fs)=>wr h d c (fs.set i ((fs.getD i []).set k (.lst true sz es)))
 |none=>none
@[simp] theorem wrE_ali:wrE h d id es (some (.ali c i k sz))=wrI h d c i k sz es (cont h d c):=by
 simp only[wrE,wrI]
@[simp] theorem wrI_some{z:Nat}{fs:List (List AV)}:wrI h d c i k sz es (some (z,fs))=wr h d c (fs.set i ((fs.getD i []).set k (.lst true sz es))):=rfl
@[simp] theorem loadC_some:Qb7 t id i k n (some (sz,es))=some (i<es.length∧k+t.sz≤sz,{v:=bif t.agg then .agg (Q1m id i k n (((es.getD i []).drop k).take t.sz)).1 else(Q1m id i k n (((es.getD i []).drop k).take t.sz)).1.getD 0 .bot,new:=(Q1m id i k n (((es.getD i []).drop k).take t.sz)).2,cnt:=t.sz}):=rfl
@[simp] theorem loadE_mix:loadE t id i k n h (some (.mix sz es))=some (i<es.length∧k+t.sz≤sz,{v:=bif t.agg then .agg (((es.getD i []).drop k).take t.sz)else(es.getD i []).getD k .bot}):=rfl
@[simp] theorem loadE_row:loadE t id i k n h (some (.row sz es))=Qb7 t id i k n (some (sz,es)):=rfl
@[simp] theorem loadv_rptr{cs:List AV}:Q3O (some t) (.rptr cs) h n=some (t.sz≤cs.length,{v:=bif t.agg then .agg (cs.take t.sz)else cs.getD 0 .bot}):=rfl
@[simp] theorem storeC_some{v:Value}:Q5D t id i k (.val v) h (some (sz,es))=if t.sz=1∧Q7b v=true then(wr h depth id (es.set i ((es.getD i []).set k (.val v)))).map (λs=>(i<es.length∧k<sz,{v:=.bot,set:=s}))else none:=by
 simp only[Q5D];split
 ·cases wr h depth id (es.set i ((es.getD i []).set k (.val v)))<;>rfl
 rfl
@[simp] theorem storeC_own{a b c:Nat}:Q5D t id i k (.own a b c) h (some (sz,es))=none:=rfl
@[simp] theorem storeE_mix:Q94 t id i k x h (some (.mix sz es))=if x.cells.length=t.sz&&Q5L x then
    some (i<es.length∧k+t.sz≤sz,{v:=.bot,set:=[(id,.mix sz (es.set i (Q23 (es.getD i []) k x.cells)))]})else none:=rfl
@[simp] theorem storeE_row:Q94 t id i k x h (some (.row sz es))=Q5D t id i k x h (cont h depth id):=rfl
@[simp] theorem storeE_ali:Q94 t id i k x h (some (.ali c j l sz))=Q5D t id i k x h (cont h depth id):=rfl
@[simp] theorem layE_row:layE h d id n (some (.row sz es))=if es.length=n then some (.lst true sz es,[id])else none:=rfl
@[simp] theorem layE_mix:layE h d id n (some (.mix sz es))=if es.length=n then(Q2d (layD h d) es).map (λp=>(.lst true sz p.1,id::p.2))else none:=by
 simp only[layE];split
 ·cases Q2d (layD h d) es<;>rfl
 rfl
@[simp] theorem idxC_some:idxC t id off n q (some (sz,es))=if sz=t.sz then some (0≤q∧q<n,{v:=.adr id (off+q.toNat) 0})else none:=rfl
@[simp] theorem srcE_mix{z:Nat}:srcE h sz id off n (some (.mix z es))=if z=sz then(Q4S h ((es.drop off).take n)).map (λp=>(off+n≤es.length,p.1,p.2))else none:=by
 simp only[srcE];split
 ·cases Q4S h ((es.drop off).take n)<;>rfl
 rfl
@[simp] theorem baseE_row{z:Nat}:baseE h sz id m (some (.row z es))=if z=sz then some (m≤es.length,es.take m,[id],[])else none:=rfl
@[simp] theorem baseE_mix{z:Nat}:baseE h sz id m (some (.mix z es))=if z=sz then(Q4S h (es.take m)).map (λp=>(m≤es.length,p.1,[id],p.2))else none:=by
 simp only[baseE];split
 ·cases Q4S h (es.take m)<;>rfl
 rfl
@[simp] theorem appE_some{c1 c2:Prop}{is d1 d2:List Nat}{news:List (List AV)}:appE t n (some (c1,es,is,d1)) (some (c2,news,d2))=if(n::(is++(d1++d2))).Nodup then
    some (c1∧c2∧(es.length+news.length)*t.bytes≤140737488355328∧es.length+news.length≤140737488355328∧0<t.sz,
     {v:=.own n 0 (es.length+news.length),del:=is++(d1++d2),new:=[(n,.row t.sz (es++news))],cnt:=1})else none:=rfl
end
def runE(P:Program)(mt:MT)(all:Array Oper)(os:List Oper)(dst:Option Nat)(st:St)(K:St→Prop)(x:Option (Prop×Eff)):Prop:=Q6O (λst'=>Q1e P mt all os st' K) dst st x
def runS(P:Program)(mt:MT)(all:Array Oper)(os:List Oper)(dst:Option Nat)(st:St)(K:St→Prop)(t:TypeId)(av xv:AV)(x:Option (Prop×Eff)):Prop:=Q5o (λst'=>Q1e P mt all os st' K) (stoA P mt all t av xv dst os st K) dst st x
def runO(P:Program)(mt:MT)(all:Array Oper)(os:List Oper)(dst:Option Nat)(st:St)(K:St→Prop)(op:Op):Prop:=Q5M P mt all os K (λst'=>Q1e P mt all os st' K) dst st op
def Q5v(P:Program)(mt:MT)(all:Array Oper)(os:List Oper)(dst:Option Nat)(st:St)(K:St→Prop)(op:Op)(t:Nat)(want:Bool)(x:AV):Prop:=guardW P mt all os K (λst'=>Q1e P mt all os st' K) dst st op t want x
def guardT(P:Program)(mt:MT)(all:Array Oper)(os:List Oper)(dst:Option Nat)(st:St)(K:St→Prop)(op:Op)(want:Bool)(x:Option Nat):Prop:=Q9r P mt all os K (λst'=>Q1e P mt all os st' K) dst st op want x
section
variable {P:Program}{mt:MT}{all:Array Oper}{os:List Oper}{dst:Option Nat}{st:St}{K:St→Prop}{op:Op}{ty:TypeId}{pos:String}{af:Array Edge}
@[simp] theorem runE_some{c:Prop}{e:Eff}:runE P mt all os dst st K (some (c,e))=(c∧Q1e P mt all os (st.app dst e) K):=rfl
@[simp] theorem callE_fn{f:Nat}{caps az:List AV}:callE P mt all az dst os st K (.fn f caps)=Q9h P mt all f (az++caps) dst os st K:=rfl
@[simp] theorem runO_call{x:Operand}{args:Array Operand}{ts:Array TypeId}:runO P mt all os dst st K (.call ⟨.value x,args,ts⟩)=callE P mt all (args.toList.map st.ev) dst os st K (st.ev x):=rfl
@[simp] theorem runO_move{x}:runO P mt all os dst st K (.move x)=Q1e P mt all os (st.app dst {v:=st.ev x}) K:=by simp[runO,Q5M,Q6O,opF]
@[simp] theorem runO_assign{x}:runO P mt all os dst st K (.assign x)=Q1e P mt all os (st.app dst {v:=st.ev x}) K:=by simp[runO,Q5M,Q6O,opF]
@[simp] theorem runO_pick{c a b}:runO P mt all os dst st K (.pick c a b)=runE P mt all os dst st K (pick (st.ev c) (st.ev a) (st.ev b)):=rfl
@[simp] theorem runO_alloc{e}:runO P mt all os dst st K (.alloc e)=runE P mt all os dst st K (Vc.alloc (tyi P e) st.n):=rfl
@[simp] theorem runO_box{t x}:runO P mt all os dst st K (.box t x)=runE P mt all os dst st K (boxv (st.ev x) st.n):=rfl
@[simp] theorem runO_build{t parts}:runO P mt all os dst st K (.build t parts)=runE P mt all os dst st K (build (tyi P t) (Q40 P t) (parts.toList.map λp=>(p.1,st.ev p.2))):=rfl
def elmE(g:TypeId→Option (Prop×Eff)):Option TypeId→Option (Prop×Eff)
 |some e=>g e
 |none=>none
@[simp] theorem elmE_some{g:TypeId→Option (Prop×Eff)}{e:TypeId}:elmE g (some e)=g e:=rfl
@[simp] theorem runO_buildSlice{t len parts}:runO P mt all os dst st K (.buildSlice t len parts)=runE P mt all os dst st K (elmE (λe=>buildSlice (tyi P e) len (parts.toList.map λp=>(p.1,st.ev p.2)) st.n) (elm P t)):=by
 simp only[runO,runE,Q5M,opF];cases elm P t<;>rfl
@[simp] theorem runO_load{t a}:runO P mt all os dst st K (.load t a)=runE P mt all os dst st K (Q3O (tyi P t) (st.ev a) st.hp st.n):=rfl
@[simp] theorem runO_store{t a x}:runO P mt all os dst st K (.store t a x)=runS P mt all os dst st K t (st.ev a) (st.ev x) (Q3C (tyi P t) (st.ev a) (st.ev x) st.hp):=rfl
@[simp] theorem runS_some{t:TypeId}{av xv:AV}{c:Prop}{e:Eff}:runS P mt all os dst st K t av xv (some (c,e))=(c∧Q1e P mt all os (st.app dst e) K):=rfl
@[simp] theorem runS_none{t:TypeId}{av xv:AV}:runS P mt all os dst st K t av xv none=stoA P mt all t av xv dst os st K:=rfl
@[simp] theorem runO_nilCheck{x}:runO P mt all os dst st K (.nilCheck x)=runE P mt all os dst st K (nilCheck (st.ev x)):=rfl
@[simp] theorem runO_binOp{o xt x y yt}:runO P mt all os dst st K (.binOp o xt x y yt)=runE P mt all os dst st K (Q5U (eqT P xt) o (st.ev x) (st.ev y)):=rfl
@[simp] theorem runO_unOp{o t x}:runO P mt all os dst st K (.unOp o t x)=runE P mt all os dst st K (unop o (st.ev x)):=rfl
@[simp] theorem runO_makeSlice{t l c}:runO P mt all os dst st K (.makeSlice t l c)=runE P mt all os dst st K (elmE (λe=>Q5x (tyi P e) (st.ev l) (st.ev c) st.n) (elm P t)):=by
 simp only[runO,runE,Q5M,opF];cases elm P t<;>rfl
@[simp] theorem runO_fieldAddr{t x k}:runO P mt all os dst st K (.fieldAddr t x k)=runE P mt all os dst st K (fieldAddr (fld P t k) (st.ev x)):=rfl
@[simp] theorem runO_field{t x k}:runO P mt all os dst st K (.field t x k)=runE P mt all os dst st K (Q73 (fld P t k) (st.ev x)):=rfl
@[simp] theorem runO_indexAddr{t x i}:runO P mt all os dst st K (.indexAddr t x i)=runE P mt all os dst st K (elmE (λe=>Q2c (tyi P e) (st.ev x) (st.ev i) st.hp) (elm P t)):=by
 simp only[runO,runE,Q5M,opF];cases elm P t<;>rfl
@[simp] theorem runO_extract{x k}:runO P mt all os dst st K (.extract x k)=runE P mt all os dst st K (Q3L (st.ev x) k):=rfl
@[simp] theorem runO_len{x t ts}(h:ts=#[t]):runO P mt all os dst st K (.call ⟨.builtin .len,#[x],ts⟩)=runE P mt all os dst st K (elmE (λ_=>lenv (st.ev x)) (elm P t)):=by
 subst h;simp only[runO,runE,Q5M,opF,bltF];cases elm P t<;>rfl
@[simp] theorem runO_append{x y t u}:runO P mt all os dst st K (.call ⟨.builtin .append,#[x,y],#[t,u]⟩)=runE P mt all os dst st K (elmE (λe=>if t=u then Q2W (tyi P e) (st.ev x) (st.ev y) st.hp st.n else none) (elm P t)):=by
 simp only[runO,runE,Q5M,opF,bltF];cases elm P t<;>rfl
@[simp] theorem runO_max{xs ts}:runO P mt all os dst st K (.call ⟨.builtin .max,xs,ts⟩)=runE P mt all os dst st K (Q4U (λa b=>if b>a then b else a) (xs.toList.map st.ev)):=rfl
@[simp] theorem runOps_nil:Q1e P mt all [] st K=K st:=rfl
@[simp] theorem runOps_go:Q1e P mt all (⟨dst,op,ty,pos,af,none⟩::os) st K=runO P mt all os dst st K op:=rfl
@[simp] theorem runOps_guard{j:Nat}{want:Bool}:Q1e P mt all (⟨dst,op,ty,pos,af,some (j,want)⟩::os) st K=guardT P mt all os dst st K op want ((all[j]?).bind (·.dst)):=rfl
@[simp] theorem guardT_some{want:Bool}{t:Nat}:guardT P mt all os dst st K op want (some t)=Q5v P mt all os dst st K op t want (st.get t):=rfl
theorem Qa{want:Bool}{t:Nat}{b:Bool}:Q5v P mt all os dst st K op t want (.val (.bool b))=((b=want→runO P mt all os dst (st.put t (.val (.bool want))) K op)∧(b= !want→Q1e P mt all os ((st.put t (.val (.bool !want))).app dst {v:=.tup []}) K)):=rfl
attribute [local simp] Qa
@[simp high] theorem guardE_tup{t:Nat}{want:Bool}:Q5v P mt all os dst st K op t want (.tup [])=Q1e P mt all os (st.app dst {v:=.tup []}) K:=rfl
@[simp high] theorem guardE_tt{t:Nat}:Q5v P mt all os dst st K op t true (.val (.bool true))=runO P mt all os dst (st.put t (.val (.bool true))) K op:=by simp[Qa]
@[simp high] theorem guardE_ff{t:Nat}:Q5v P mt all os dst st K op t false (.val (.bool false))=runO P mt all os dst (st.put t (.val (.bool false))) K op:=by simp[Qa]
@[simp high] theorem guardE_tf{t:Nat}:Q5v P mt all os dst st K op t true (.val (.bool false))=Q1e P mt all os ((st.put t (.val (.bool false))).app dst {v:=.tup []}) K:=by simp[Qa]
@[simp high] theorem guardE_ft{t:Nat}:Q5v P mt all os dst st K op t false (.val (.bool true))=Q1e P mt all os ((st.put t (.val (.bool true))).app dst {v:=.tup []}) K:=by simp[Qa]
end
attribute [simp] cont_E wr_E Q9y storev_E layD_val layD_E Q9w Q9v src_nil src_lst src_E base_nil base_E appendv_E
attribute [simp] rl rlL rlLL rlE Q7b St.ev cst scB St.app putS Q5B Q4I Q2J St.get look lenv Q5U binop unop pick St.put setH delH fieldAddr Q73 nilCheck depth Qq Q4F Q5V roundA Q5x QaZ Q3L  Q4U Qb4 build Q6L Q23 Q8k rep Q5u buildSlice Q3g Q2d layC alloc boxv Q1m AV.cells isVal Q5L
section
attribute [local simp] Qa QD Qo
def Q6f:Nat→List Mu→List (Nat×Ent)
 |_,[]=>[]
 |j,u::r=>(j,.row u.sz u.es)::Q6f (j+1) r
theorem Qb9:∀(ms:List Mu) (j id:Nat),look id (Q6f j ms)=if j≤id∧id<j+ms.length then some (.row (ms.getD (id - j) .none).sz (ms.getD (id - j) .none).es)else none:=by
 intro ms
 induction ms with
 |nil=>intro j id;simp only[Q6f,look];rw[if_neg (by simp)]
 |cons u r ih=>
  intro j id;simp only[Q6f,look]
  by_cases h:j=id
  ·subst h;simp
  rw[if_neg h,ih]
  by_cases h2:j+1≤id∧id<j+1+r.length
  ·rw[if_pos h2,if_pos (by simp;omega)];have:id - j=(id - (j+1))+1:=(by omega);rw[this,List.getD_cons_succ]
  rw[if_neg h2,if_neg (by simp;omega)]
def resOk(ts:List Nat)(st:St)(res:AV):Prop:=
 match ts,res with
 |[t],.val v=>st.get t= .val v
 |[],.tup []=>True
 |_,_=>False
structure MRet(ts:List Nat)(res:AV)(ms:List Mu)(st:St):Prop where
 res:resOk ts st res
 ent:∀j,j<ms.length→look j st.h=some (.row (ms.getD j .none).sz (ms.getD j .none).fs)
def mretQ(ts:List Nat)(res:AV)(ms:List Mu):Exit→St→Prop
 | .normal,st=>MRet ts res ms st
 | .ret,st=>MRet ts res ms st
 |_,_=>False
theorem Q30{P:Program}{f:Nat}{fn:Func}{c:Code}{args:List AV}{ms:List Mu}{ts:List Nat}{res:AV}{rv:Value}(hf:P.funcs[f]? =some fn)(hb:fn.body=some c)(hrt:resT fn.results=some ts)(hrv:resV res=some rv)(hname:(fn.name=="runtime.NumGoroutine")=false)(hN:args.length≤fn.ntmps)(hlen:∀j,j<ms.length→(ms.getD j .none).fs.length=(ms.getD j .none).es.length)(h:∀F:Fx,F.N=fn.ntmps→F.pins=ms.length→Wp P F c (mretQ ts res ms) ⟨Q2J 0 args,Q6f 0 ms,ms.length⟩):MContract P f args ms res:=by
 refine⟨⟨fn,hf,hname,by rw[hb];rfl⟩,hlen,rv,hrv,λw R o ρ vals hp=>?_⟩;refine calls_of_wp hf hb ?_
 let C:Ctx:=⟨w,λb=>∃L,o b=some L,ρ,ms.length⟩
 have hment:∀id e,look id (Q6f 0 ms)=some e→id<ms.length∧e= .row (ms.getD id .none).sz (ms.getD id .none).es:=by
  intro id e he;rw[Qb9]at he;split at he
  ·rename_i h1;simp only[yD,qA]at he;exact⟨by omega,he.symm⟩
  cases he
 have hsz:=hp.size;have hrel:Rel C R fn.ntmps {tmps:=vals++zT (fn.ntmps - vals.size) undef,defers:=[]} w ⟨Q2J 0 args,Q6f 0 ms,ms.length⟩:=by
  refine⟨by simp;omega,rfl,λid x h=>(hment id x h).1,o,ρ,⟨hp.hR,λb L hb=>⟨hp.ho b L hb,.inr ⟨L,hb⟩⟩,rfl,⟨rfl,qE _⟩,rfl,qE _,λb _ _=>rfl⟩,
   ⟨λid sz es bk he hb=>?_,λid sz es bk he hb=>?_,λid c i k sz bk he hb=>?_,λid kd es bk he hb=>?_⟩,λt=>?_,λid k hk=>hp.lim id k hk,λid _=>rfl,qE _⟩
  ·have:=(hment id _ he).2;cases this
  ·obtain⟨h1,h2⟩:=hment id _ he;cases h2;obtain⟨v,h3,h4⟩:=hp.ent id bk h1 hb;exact⟨v,h4,h3⟩
  ·have:=(hment id _ he).2;cases this
  ·have:=(hment id _ he).2;cases this
  simp only[St.get,Q1V]
  by_cases ht:t<args.length
  ·rw[if_pos (by omega)];simp only[yD,zL];have:=hp.args t ht;have h2:(vals++zT (fn.ntmps - vals.size) undef).getD t undef=vals.getD t undef:=by
    simp[zZ,show t<vals.size by omega]
   rw[h2];exact this
  rw[if_neg (by omega)];exact .bot
 refine Q2R (λe a w' hq=>?_) (h ⟨C,R,fn.ntmps,ms.length,rfl⟩ rfl rfl _ w (.of hrel));obtain⟨st,⟨R',hX,hr⟩,hq⟩:=hq;have fin:MRet ts res ms st→a.defers=[]∧∃v,(results fn a.tmps).run P w'= .ok v w'∧(Ending.returned v= .returned rv∧MPost w w' R o ρ ms):=by
  intro hA;obtain⟨_,hdef,_,o',ρ',W,H,hx,_,hpin⟩:=hr;refine⟨hdef,_,Q33 hrt _,?_,W.os,W.tape,W.output,W.size,λb hb hob=>W.keep b hb (by rintro ⟨L,hL⟩;rw[hob]at hL;cases hL),o',λb L hb=>W.o b L hb,λj bk hj hbk=>?_⟩
  ·have h1:=hA.res;unfold resOk at h1;split at h1
   ·rename_i t v;have h2:=hx t;rw[h1]at h2;simp only[resV]at hrv;split at hrv
    ·cases hrv;simp only[qK,List.map_nil,Q2E];rw[h2.val_eq.1]
    cases hrv
   ·simp only[resV,qA]at hrv;subst hrv;rfl
   exact h1.elim
  obtain⟨v,h1,h2⟩:=H.row j _ _ bk (hA.ent j hj) ((hpin.1 j hj).trans hbk);exact⟨v,h2,h1.anyR⟩
 cases e with
 |normal=>exact fin hq
 |ret=>exact fin hq
 |_=>exact hq.elim
def Q8F:Ent→Bool
 | .ali _ _ _ _=>true
 |_=>false
theorem MCall.cell{st:St}{id r i k sz szr:Nat}{es fs:List (List AV)}{esr:List (List AV)}{dels:List Nat}(h1:look id st.h=some (.ali r i k sz))(h2:look r st.h=some (.row szr esr))(hi:i<esr.length)(hk:k<szr)(hks:k<(esr.getD i []).length)(hc:(esr.getD i []).getD k .bot= .lst true sz es)(hd:∀x∈dels,x<st.n)(ha:∀p∈st.h,Q8F p.2=true→p.1∈dels):
  MCall st.hp st.n [⟨sz,es,fs⟩] [id] (λ_=>[r,i,k]) [(r,.row szr (esr.set i ((esr.getD i []).set k (.lst true sz fs))))] dels:=by
 have h0:∀j,j<[(⟨sz,es,fs⟩:Mu)].length→j=0:=λj hj=>by simpa using hj
 have hset:=λj l=>Q4Z esr i k (.lst true sz fs) j l hi hks;refine⟨rfl,λj hj=>?_,λi' j hi' hj hij=>?_,by simp,λr' e he=>?_,λj r' M hj hP=>?_,hd,λid' c i' k' s' hid he=>.inl ?_⟩
 ·have:=h0 j hj;subst this;exact .cell h1 h2 hi hk hc
 ·have:=h0 j hj;have:=h0 i' hi';omega
 ·simp only[look]at he;split at he
  ·rename_i hr;subst hr;simp only[qA]at he;subst he;refine⟨szr,esr,_,h2,rfl,⟨λj hj hP=>by simp at hP,by simp,λ_ j hj=>by rw[Q85],λi2 k2 j hj hP hi2 hk2=>?_,λi2 k2 hi2 hk2 hm=>?_⟩⟩
   ·have:=h0 j hj;subst this;simp only[qS,and_true,true_and]at hP;rw[hset];rw[if_pos ⟨hP.1.symm,hP.2.symm⟩];rfl
   rw[hset];rw[if_neg]
   rintro ⟨rfl,rfl⟩
   exact(hm 0 (by simp)).2 rfl
  cases he
 ·simp only[qS]at hP;simp[look,hP.1]
 exact ha (id',_) (Qf he) rfl
def Q6N:List Nat→List Mu→List (Nat×Ent)
 |id::m,u::ms=>(id,.row u.sz u.fs)::Q6N m ms
 |_,_=>[]
theorem Q5n:∀(m:List Nat) (ms:List Mu),m.length=ms.length→(Q6N m ms).map qG=m:=by
 intro m
 induction m with
 |nil=>intro ms _;cases ms<;>rfl
 |cons id m ih=>
  intro ms h;cases ms with
  |nil=>simp at h
  |cons u ms=>simp[Q6N,ih ms (by simpa using h)]
theorem Qbg:∀(m:List Nat) (ms:List Mu) (r:Nat) (e:Ent),m.length=ms.length→look r (Q6N m ms)=some e→∃j,j<ms.length∧m.getD j 0=r∧e= .row (ms.getD j .none).sz (ms.getD j .none).fs:=by
 intro m
 induction m with
 |nil=>intro ms r e _ h;cases ms<;>cases h
 |cons id m ih=>
  intro ms r e hl h;cases ms with
  |nil=>simp at hl
  |cons u ms=>
   simp only[Q6N,look]at h;split at h
   ·rename_i hr;cases h;exact⟨0,by simp,by simpa using hr,rfl⟩
   obtain⟨j,h1,h2,h3⟩:=ih ms r e (by simpa using hl) h;exact⟨j+1,by simpa using h1,by simpa using h2,by simpa using h3⟩
theorem Qam{m:List Nat}(hn:m.Nodup){i j:Nat}(hi:i<m.length)(hj:j<m.length)(h:m.getD i 0=m.getD j 0):i=j:=by
 rw[qB,qB,qF hi,qF hj]at h;exact(List.getElem_inj hn).1 (by simpa using h)
theorem MCall.roots{st:St}{ms:List Mu}{m:List Nat}{dels:List Nat}(hl:m.length=ms.length)(hn:m.Nodup)(hr:∀j,j<ms.length→look (m.getD j 0) st.h=some (.row (ms.getD j .none).sz (ms.getD j .none).es))(hlen:∀j,j<ms.length→(ms.getD j .none).fs.length=(ms.getD j .none).es.length)(hd:∀x∈dels,x<st.n)(ha:∀p∈st.h,Q8F p.2=true→p.1∈dels):
  MCall st.hp st.n ms m (λj=>[m.getD j 0]) (Q6N m ms) dels:=by
 refine⟨hl,λj hj=>.root (hr j hj),λi j hi hj hij hp=>?_,by rw[Q5n m ms hl];exact hn,λr e he=>?_,λj r M hj hP=>?_,hd,λid' c i' k' s' hid he=>.inl ?_⟩
 ·have h1:m.getD i 0=m.getD j 0:=by simpa using hp
  exact hij (Qam hn (by omega) (by omega) h1)
 ·obtain⟨j,h1,h2,h3⟩:=Qbg m ms r e hl he;refine⟨_,(ms.getD j .none).es,(ms.getD j .none).fs,by rw[←h2];exact hr j h1,h3,⟨λj' hj' hP=>?_,hlen j h1,λhne=>?_,λi k j' hj' hP=>?_,λi k hi hk hm=>?_⟩⟩
  ·have h4:m.getD j' 0=m.getD j 0:=(by rw[h2];simpa using hP);rw[Qam hn (by omega) (by omega) h4]
  ·exact absurd (by rw[h2]) (hne j h1)
  ·simp at hP
  exact absurd (by rw[h2]) (hm j h1).1
 ·simp only[qS]at hP;have hk:r∈(Q6N m ms).map qG:=by
   rw[Q5n m ms hl,←hP.1,qB,qF (by omega)];simp
  cases hlk:look r (Q6N m ms)with
  |some x=>rfl
  |none=>
   exfalso;obtain⟨q,hq,hqe⟩:=List.mem_map.1 hk;obtain⟨a,b⟩:=q;simp only at hqe;subst hqe;rw[Q18 (by rw[Q5n m ms hl];exact hn) hq]at hlk;cases hlk
 exact ha (id',_) (Qf he) rfl
theorem Q2S{P:Program}{all:Array Oper}{f:Nat}{id n:Nat}{v:Value}{u:Mu}{res:AV}{dst:Option Nat}{os:List Oper}{st:St}{K:St→Prop}(hc:MContract P f [.own 0 0 n,.val v] [u] res)(hr:look id st.h=some (.row u.sz u.es))(ha:∀p∈st.h,Q8F p.2=false)(h:Q1e P true all os (st.app dst {v:=res,set:=[(id,.row u.sz u.fs)]}) K):Q9h P true all f [.own id 0 n,.val v] dst os st K:=by
 have h0:∀j,j<[u].length→j=0:=λj hj=>by simpa using hj
 refine Q5W (m:=[id]) hc (MCall.roots (dels:=[]) rfl (by simp) (λj hj=>by have:=h0 j hj;subst this;exact hr) hc.len (by simp) (λp hp hi=>by rw[ha p hp]at hi;cases hi)) rfl (λq hq=>?_) (λj hj=>⟨0,by simp,?_⟩) h
 ·match q,hq with
  |0,_=>exact .own (j:=0) (by simp)
  |1,_=>exact .val
 have:=h0 j hj;subst this;rfl
theorem stoA_row{P:Program}{mt:MT}{all:Array Oper}{t:TypeId}{ty:Tyi}{xv b:AV}{id i k sz:Nat}{es:List (List AV)}{ds:List Nat}{dst:Option Nat}{os:List Oper}{st:St}{K:St→Prop}(dels:List Nat)(h1:tyi P t=some ty)(h2:ty.sz=1)(he:look id st.h=some (.row sz es))(hl:layC st.hp xv=some (b,ds))(hi:i<es.length)(hk:k<sz)(hn:(id::ds).Nodup)(hlt:∀y∈ds++dels,y<st.n)(ha:∀p∈st.h,Q8F p.2=true→p.1∈dels)(h:Q1e P mt all os (st.app dst {v:=.bot,set:=[(id,.row sz (es.set i ((es.getD i []).set k b)))],del:=ds++dels}) K):stoA P mt all t (.adr id i k) xv dst os st K:=
 Qbq dels h1 h2 ⟨he,hl,hi,hk,hn,hlt,λid' _ _ _ _ _ h3=>.inl (ha (id',_) (Qf h3) rfl)⟩ h
attribute [simp] Q8F Q6f resOk
end
section
attribute [local simp] Qa QD Qo
theorem PurTo.aggL{h:HP}{xs ys:List AV}(hp:PurL h xs ys):PurTo h (.agg xs) (.agg ys):=.agg hp.1 hp.2
inductive MArgL(m:List Nat):List AV→List AV→Prop
 |nil:MArgL m [] []
 |cons {a b xs ys}:MArg m a b→MArgL m xs ys→MArgL m (a::xs) (b::ys)
theorem MArgL.get{m:List Nat}{xs ys:List AV}(h:MArgL m xs ys):xs.length=ys.length∧∀k,k<ys.length→MArg m (xs.getD k .bot) (ys.getD k .bot):=by
 induction h with
 |nil=>exact⟨rfl,λk hk=>by simp at hk⟩
 |cons h _ ih=>
  refine⟨by simp[ih.1],λk hk=>?_⟩;cases k with
  |zero=>simpa using h
  |succ k=>simpa using ih.2 k (by simpa using hk)
theorem MArg.aggL{m:List Nat}{xs ys:List AV}(h:MArgL m xs ys):MArg m (.agg xs) (.agg ys):=.agg h.get.1 λk hk=>h.get.2 k (by have:=h.get.1;omega)
inductive Roots(h:List (Nat×Ent)):List Nat→List Mu→Prop
 |nil:Roots h [] []
 |cons {id u m ms}:look id h=some (.row u.sz u.es)→Roots h m ms→Roots h (id::m) (u::ms)
theorem Roots.get{h:List (Nat×Ent)}{m:List Nat}{ms:List Mu}(hr:Roots h m ms):m.length=ms.length∧∀j,j<ms.length→look (m.getD j 0) h=some (.row (ms.getD j .none).sz (ms.getD j .none).es):=by
 induction hr with
 |nil=>exact⟨rfl,λj hj=>by simp at hj⟩
 |cons h _ ih=>
  refine⟨by simp[ih.1],λk hk=>?_⟩;cases k with
  |zero=>simpa using h
  |succ k=>simpa using ih.2 k (by simpa using hk)
def occC(id:Nat):AV→Bool
 | .own i _ _=>Nat.beq i id
 |_=>false
def occB(id:Nat):AV→Bool
 | .own i _ _=>Nat.beq i id
 | .agg cs=>cs.any (occC id)
 |_=>false
theorem occC_own{id:Nat}{a:AV}(h:occC id a=true):∃off n,a= .own id off n:=by
 unfold occC at h;split at h
 ·cases Nat.eq_of_beq_eq_true h;exact⟨_,_,rfl⟩
 cases h
theorem occB_occ{id:Nat}{a:AV}(h:occB id a=true):Occ id a:=by
 unfold occB at h;split at h
 ·exact Nat.eq_of_beq_eq_true h
 ·rename_i cs;obtain⟨x,hx,hc⟩:=List.any_eq_true.1 h;obtain⟨l,hl,rfl⟩:=zX hx;obtain⟨off,n,he⟩:=occC_own hc;exact⟨l,hl,off,n,by simp[qB,hl,he]⟩
 cases h
theorem Q9i{P:Program}{all:Array Oper}{f:Nat}{az args:List AV}{m:List Nat}{ms:List Mu}{res:AV}{dst:Option Nat}{os:List Oper}{st:St}{K:St→Prop}(hc:MContract P f args ms res)(hn:m.Nodup)(hr:Roots st.h m ms)(ha:MArgL m az args)(ho:(m.all λid=>az.any (occB id))=true)(hali:∀p∈st.h,Q8F p.2=false)(h:Q1e P true all os (st.app dst {v:=res,set:=Q6N m ms}) K):Q9h P true all f az dst os st K:=by
 refine Q5W (m:=m) hc (MCall.roots (dels:=[]) hr.get.1 hn hr.get.2 hc.len (by simp) (λp hp hi=>by rw[hali p hp]at hi;cases hi)) ha.get.1 ha.get.2 (λj hj=>?_) h;have hj':j<m.length:=by rw[hr.get.1];exact hj
 have:=List.all_eq_true.1 ho _ (zY hj');obtain⟨a,ha1,ha2⟩:=List.any_eq_true.1 this;obtain⟨k,hk,rfl⟩:=zX ha1;refine⟨k,by rw[←ha.get.1];exact hk,?_⟩;have:=occB_occ ha2;simpa[qB,hj',hk]using this
inductive Ents(h:List (Nat×Ent)):Nat→List Mu→Prop
 |nil {j}:Ents h j []
 |cons {j u ms}:look j h=some (.row u.sz u.fs)→Ents h (j+1) ms→Ents h j (u::ms)
theorem Ents.get{h:List (Nat×Ent)}{j:Nat}{ms:List Mu}(he:Ents h j ms):∀i,i<ms.length→look (j+i) h=some (.row (ms.getD i .none).sz (ms.getD i .none).fs):=by
 induction he with
 |nil=>intro i hi;simp at hi
 |cons h _ ih=>
  intro i hi;cases i with
  |zero=>simpa using h
  |succ i=>have:=ih i (by simpa using hi);simpa[Nat.add_comm,Nat.add_left_comm]using this
end
section
attribute [local simp] Qa QD Qo
structure IRet(ts:List Nat)(H:List (Nat×Ent))(n:Nat)(e:Eff)(st:St):Prop where
 res:QU (ts.map st.get)=e.v
 n:st.n=n+e.cnt
 h:st.h=Q5B e.set (Q4I e.del H)++e.new
def iretQ(ts:List Nat)(H:List (Nat×Ent))(n:Nat)(e:Eff):Exit→St→Prop
 | .normal,st=>IRet ts H n e st
 | .ret,st=>IRet ts H n e st
 |_,_=>False
theorem res_rel{w:World}{R:Nat→Prop}{ρ:Nat→Option Bk}{tmps:Array Value}{st:St}(hx:∀t,XRel w R ρ (tmps.getD t undef) (st.get t))(ts:List Nat):
  XRel w R ρ (Q2E (ts.map λt=>tmps.getD t undef)) (QU (ts.map st.get)):=by
 match ts with
 |[]=>exact .tup rfl λk hk=>by simp at hk
 |[t]=>exact hx t
 |t::u::r=>
  simp only[qK,Q2E,QU];refine .tup (by simp) λk hk=>?_;have hk':k<(t::u::r).length:=by simpa using hk
  have h1:((tmps.getD t undef::tmps.getD u undef::r.map λt=>tmps.getD t undef).toArray).getD k undef=tmps.getD ((t::u::r)[k]) undef:=by
   have:(tmps.getD t undef::tmps.getD u undef::r.map λt=>tmps.getD t undef)=(t::u::r).map λt=>tmps.getD t undef:=rfl;rw[this];have hk2:k<(List.map (λt=>tmps.getD t undef) (t::u::r)).toArray.size:=(by simpa using hk');rw[yA,zK hk2,zL];simp only[List.getElem_toArray,List.getElem_map]
  have h2:(st.get t::st.get u::r.map st.get).getD k .bot=st.get ((t::u::r)[k]):=by
   have:(st.get t::st.get u::r.map st.get)=(t::u::r).map st.get:=rfl;rw[this,qB,List.getElem?_map,qF hk',yB,zL]
  rw[h1,h2];exact hx _
theorem Qb5{P:Program}{f:Nat}{fn:Func}{c:Code}{az:List AV}{ts:List Nat}{H:List (Nat×Ent)}{n:Nat}{e:Eff}(hf:P.funcs[f]? =some fn)(hb:fn.body=some c)(hrt:resT fn.results=some ts)(hname:(fn.name=="runtime.NumGoroutine")=false)(hN:az.length≤fn.ntmps)(hH:∀p∈H,p.1<n)(hfine:e.fine n)(hnew:∀id,n≤id→id<n+e.cnt→id∈e.new.map qG)(h:∀F:Fx,F.N=fn.ntmps→F.pins=n→Wp P F c (iretQ ts H n e) ⟨Q2J 0 az,H,n⟩):ICon P f az (λid=>look id H) n e:=by
 refine⟨⟨fn,hf,hname,by rw[hb];rfl⟩,λ_=>hfine,λC w g h' vals hag hne hlim W HH hsz hargs=>?_⟩;refine calls_of_wp hf hb ?_
 let C':Ctx:=⟨w,λb=>∃L,g.o b=some L,g.ρ,n⟩
 have hrel:Rel C' g.R fn.ntmps {tmps:=vals++zT (fn.ntmps - vals.size) undef,defers:=[]} w ⟨Q2J 0 az,H,n⟩:=by
  refine⟨by simp;omega,rfl,λid x hx=>hH (id,x) (Qf hx),g.o,g.ρ,⟨W.R,λb L hb=>⟨(W.o b L hb).1,.inr ⟨L,hb⟩⟩,rfl,⟨rfl,qE _⟩,rfl,qE _,λb _ _=>rfl⟩,
   HH.grow λid k hk=>(hag id (hlim id k hk)).symm,λt=>?_,hlim,λid _=>rfl,qE _⟩
  simp only[St.get,Q1V]
  by_cases ht:t<az.length
  ·rw[if_pos (by omega)];simp only[yD,zL];have h2:(vals++zT (fn.ntmps - vals.size) undef).getD t undef=vals.getD t undef:=by
    simp[zZ,show t<vals.size by omega]
   rw[h2];exact hargs t ht
  rw[if_neg (by omega)];exact .bot
 refine Q2R (λex a w' hq=>?_) (h ⟨C',g.R,fn.ntmps,n,rfl⟩ rfl rfl _ w (.of hrel));obtain⟨st,⟨R',hX,hr⟩,hq⟩:=hq;have fin:IRet ts H n e st→a.defers=[]∧∃v,(results fn a.tmps).run P w'= .ok v w'∧∃v' R' o' ρ',Ending.returned v= .returned v'∧RX g.R R' C.w0.heap.size∧WF C w' ⟨R',o',ρ'⟩∧HRel w' ⟨R',o',ρ'⟩ (happ e h')∧(∀id k,g.ρ id=some k→ρ' id=some k)∧
   (∀id k,ρ' id=some k→g.ρ id=some k∨(n≤id∧id<n+e.cnt))∧XRel w' R' ρ' v' e.v∧(∀b,g.R b→w'.heap[b]? =w.heap[b]?):=by
  intro hA;obtain⟨_,hdef,_,o',ρ',W',HH',hx,hlt',hpin⟩:=hr;obtain⟨a1,a2,a3⟩:=hA;have hρ1:∀id,id<n→ρ' id=g.ρ id:=hpin.1;have hcC:∀b,b<C.w0.heap.size→¬C.wrb b→g.o b=none:=by
   intro b hb hw;cases ho:g.o b with
   |none=>rfl
   |some L=>
    rcases(W.o b L ho).2 with h|h
    ·omega
    exact absurd h hw
  have hkeep:∀b,b<w.heap.size→g.o b=none→w'.heap[b]? =w.heap[b]?:=λb hb ho=>W'.keep b hb (by rintro ⟨L,hL⟩;rw[ho]at hL;cases hL);refine⟨hdef,_,Q33 hrt _,_,R',o',ρ',rfl,⟨hX.1,λb hb=>(hX.2 b hb).imp id (qL W.size)⟩,⟨W'.R,λb L hb=>⟨(W'.o b L hb).1,?_⟩,W'.os.trans W.os,tpt W'.tape W.tape,W'.output.trans W.output,qL W.size W'.size,λb hb hw=>?_⟩,
   HH'.grow λid k hk=>?_,λid k hk=>(hρ1 id (hlim id k hk)).trans hk,λid k hk=>?_,?_,λb hb=>hkeep b (W.R b hb).1 (W.R b hb).2⟩
  ·rcases(W'.o b L hb).2 with h|⟨L',h⟩
   ·exact .inl (qL W.size h)
   exact(W.o b L' h).2
  ·exact(hkeep b (qO hb W.size) (hcC b hb hw)).trans (W.keep b hb hw)
  ·have hid:id<n+e.cnt:=(by rw[←a2];exact hlt' id k hk);have hl:look id st.h=match happ e (λid=>look id H) id with|some x=>some x|none=>look id e.new:=by
    have:=Q2e (st:=⟨[],H,n⟩) none hfine id;simp only[St.app]at this;rw[a3];exact this
   show happ e h' id=look id st.h;rw[hl]
   by_cases hlt:id<n
   ·have hn:look id e.new=none:=by
     cases hq:look id e.new with
     |none=>rfl
     |some x=>have:=(hfine.new _ (Qf hq)).1;simp only at this;omega
    have he:happ e h' id=happ e (λid=>look id H) id:=by
     simp only[happ,hag id hlt]
    rw[he,hn];cases happ e (λid=>look id H) id<;>rfl
   obtain⟨p,hp,hpe⟩:=List.mem_map.1 (hnew id (by omega) hid);have h1:happ e (λid=>look id H) id=none:=by
    simp only[happ];have h2:look id e.set=none:=by
     cases hq:look id e.set with
     |none=>rfl
     |some x=>have:=hfine.sets.2 _ (Qf hq);simp only at this;omega
    have h3:look id H=none:=by
     cases hq:look id H with
     |none=>rfl
     |some x=>have:=hH _ (Qf hq);simp only at this;omega
    rw[h2,h3];simp
   have h2:happ e h' id=h' id:=by
    simp only[happ];have h2:look id e.set=none:=by
     cases hq:look id e.set with
     |none=>rfl
     |some x=>have:=hfine.sets.2 _ (Qf hq);simp only at this;omega
    rw[h2,if_neg];intro hd;have:=hfine.del id hd;omega
   rw[h1,h2];obtain⟨i,x⟩:=p;simp only at hpe;subst hpe;rw[hne _ hp,Q18 hfine.nodup hp]
  ·by_cases hlt:id<n
   ·exact .inl ((hρ1 id hlt).symm.trans hk)
   exact .inr ⟨by omega,by rw[←a2];exact hlt' id k hk⟩
  rw[←a1];exact res_rel hx ts
 cases ex with
 |normal=>exact fin hq
 |ret=>exact fin hq
 |_=>exact hq.elim
end
section
attribute [local simp] Qa QD Qo
inductive RGet(P:Program)(st:St):List ResultVar→List AV→Prop
 |nil:RGet P st [] []
 |tmp {t r az}:RGet P st r az→RGet P st (.tmp t::r) (st.get t::az)
 | cell {a t ty id i k sz es r az}:tyi P t=some ty→ty.agg=true→st.get a = .adr id i k→look id st.h=some (.mix sz es)→i<es.length→k+ty.sz≤sz→RGet P st r az →
   RGet P st (.cell a t::r) (.agg (((es.getD i []).drop k).take ty.sz)::az)
 | cell1 {a t ty id i k sz es r az}:tyi P t=some ty→ty.agg=false→0<ty.sz→st.get a = .adr id i k→look id st.h=some (.mix sz es)→i<es.length→k+ty.sz≤sz→RGet P st r az →
   RGet P st (.cell a t::r) ((es.getD i []).getD k .bot::az)
def resM(tmps:Array Value):ResultVar→Sem Value
 | .tmp t=>pure (tmps.getD t undef)
 | .cell a t=>do loadVar t (←asAddr (tmps.getD a undef))
theorem Q7Z{P:Program}{R:Nat→Prop}{w:World}{st:St}{o:Nat→Option (List Nat)}{ρ:Nat→Option Bk}(H:HRel w ⟨R,o,ρ⟩ st.hp){tmps:Array Value}(hx:∀t,XRel w R ρ (tmps.getD t undef) (st.get t)){rvs:List ResultVar}{az:List AV}(hg:RGet P st rvs az):∃vs:List Value,(rvs.mapM (resM tmps)).run P w= .ok vs w∧vs.length=az.length∧∀k,k<az.length→XRel w R ρ (vs.getD k undef) (az.getD k .bot):=by
 induction hg with
 |nil=>exact⟨[],by simp,rfl,λk hk=>by simp at hk⟩
 |@tmp t r az _ ih=>
  obtain⟨vs,h1,h2,h3⟩:=ih;refine⟨tmps.getD t undef::vs,by simp[List.mapM_cons,resM,h1],by simp[h2],λk hk=>?_⟩;cases k with
  |zero=>exact hx t
  |succ k=>exact h3 k (by simpa using hk)
 |@cell a t ty id i k sz es r az hty hag ha hl hi hk _ ih=>
  obtain⟨vs,h1,h2,h3⟩:=ih;have hxa:=hx a;rw[ha]at hxa;obtain⟨b,bsz,cap,hbk,hv⟩:=hxa.adr_eq;obtain⟨b',cur,el,us,cpm,hbk',ho',hh,hsz',hcp,hml,hlen,hcur,hone,hxr⟩:=(H.mix id sz es _ hl hbk).ex (by simp);simp only[Bk.mk.injEq,qA]at hbk';obtain⟨rfl,rfl,_⟩:=hbk';have hrun:=Q4C (P:=P) (w:=w) hty (b:=b) (x:=i*bsz+k) (us:=λj=>us i (k+j)) (λj hj=>by
   rw[Q1I hh,Nat.add_assoc];exact hcur i (k+j) hi (by omega))
  rw[hag]at hrun;simp only[cond_true]at hrun;have hlen2:(((es.getD i []).drop k).take ty.sz).length=ty.sz:=by rw[List.length_take,List.length_drop,hlen i hi];omega
  have hX:XRel w R ρ (.agg ((zW ty.sz).map λj=>us i (k+j)).toArray) (.agg (((es.getD i []).drop k).take ty.sz)):=by
   refine .agg (by rw[hlen2];simp) ?_ ?_
   ·intro j hj;rw[hlen2]at hj;rw[Q1M _ _ _ hj];exact hone _ _ hi (by omega)
   intro j hj;rw[hlen2]at hj;rw[Q1M _ _ _ hj];have:=hxr i (k+j) hi (by omega);simpa[qB,List.getElem?_take,List.getElem?_drop,hj]using this
  have hv2:tmps.getD a undef= .pointer (some ⟨b,i*bsz+k,none⟩):=hv;refine⟨.agg ((zW ty.sz).map λj=>us i (k+j)).toArray::vs,?_,by simp[h2],λj hj=>?_⟩
  ·rw[List.mapM_cons];simp[resM,hv2,asAddr,hrun,h1]
  cases j with
  |zero=>exact hX
  |succ j=>exact h3 j (by simpa using hj)
 |@cell1 a t ty id i k sz es r az hty hag h0 ha hl hi hk _ ih=>
  obtain⟨vs,h1,h2,h3⟩:=ih;have hxa:=hx a;rw[ha]at hxa;obtain⟨b,bsz,cap,hbk,hv⟩:=hxa.adr_eq;obtain⟨b',cur,el,us,cpm,hbk',ho',hh,hsz',hcp,hml,hlen,hcur,hone,hxr⟩:=(H.mix id sz es _ hl hbk).ex (by simp);simp only[Bk.mk.injEq,qA]at hbk';obtain⟨rfl,rfl,_⟩:=hbk';have hrun:=Q4C (P:=P) (w:=w) hty (b:=b) (x:=i*bsz+k) (us:=λj=>us i (k+j)) (λj hj=>by
   rw[Q1I hh,Nat.add_assoc];exact hcur i (k+j) hi (by omega))
  rw[hag]at hrun;simp only[cond_false,Nat.add_zero]at hrun;have hv2:tmps.getD a undef= .pointer (some ⟨b,i*bsz+k,none⟩):=hv;refine⟨us i k::vs,?_,by simp[h2],λj hj=>?_⟩
  ·rw[List.mapM_cons];simp[resM,hv2,asAddr,hrun,h1]
  cases j with
  |zero=>exact hxr i k hi (by omega)
  |succ j=>exact h3 j (by simpa using hj)
theorem Q4c{P:Program}{w:World}{fn:Func}{rvs:List ResultVar}{tmps:Array Value}{vs:List Value}(hr:fn.results=rvs.toArray)(h:(rvs.mapM (resM tmps)).run P w= .ok vs w):(results fn tmps).run P w= .ok (Q2E vs) w:=by
 have e:results fn tmps=(do let vs←fn.results.mapM (resM tmps);pure (if h:vs.size=1 then vs[0]else .tuple vs)):=by
  unfold results
  congr 1
 rw[e,hr,List.mapM_toArray];simp only[map_eq_pure_bind];simp[h];rcases vs with _|⟨v,_|⟨u,r⟩⟩
 ·simp[Q2E]
 ·simp[Q2E]
 simp[Q2E]
structure RetG(P:Program)(rvs:List ResultVar)(st:St)(rs:List AV):Prop where
 ex:∃az,RGet P st rvs az∧RetV az st rs
def retGQ(P:Program)(rvs:List ResultVar)(rs:List AV):Exit→St→Prop
 | .normal,st=>RetG P rvs st rs
 | .ret,st=>RetG P rvs st rs
 |_,_=>False
theorem Q5I{P:Program}{f:Nat}{fn:Func}{c:Code}{args:List AV}{rvs:List ResultVar}{rs:List AV}{res:AV}(hf:P.funcs[f]? =some fn)(hb:fn.body=some c)(hrt:fn.results=rvs.toArray)(hrs:res=QU rs)(hname:(fn.name=="runtime.NumGoroutine")=false)(hN:args.length≤fn.ntmps)(h:∀F:Fx,F.N=fn.ntmps→F.pins=0→(∀b,¬F.C.wrb b)→Wp P F c (retGQ P rvs rs) ⟨Q2J 0 args,[],0⟩):Contract P f args res:=by
 subst hrs;refine⟨⟨fn,hf,hname,by rw[hb];rfl⟩,λw R vals hR hsz hx=>?_⟩;refine calls_of_wp hf hb ?_
 let C:Ctx:=⟨w,λ_=>False,λ_=>none,0⟩
 have hrel:Rel C R fn.ntmps {tmps:=vals++zT (fn.ntmps - vals.size) undef,defers:=[]} w ⟨Q2J 0 args,[],0⟩:=by
  refine⟨by simp;omega,rfl,(λid x h=>by cases h),λ_=>none,noρ,⟨λb hb=>⟨hR b hb,rfl⟩,(λb L hb=>by cases hb),rfl,⟨rfl,qE _⟩,rfl,qE _,λb _ _=>rfl⟩,⟨(λid sz es bk _ hb=>by cases hb),(λid sz es bk _ hb=>by cases hb),(λid c i k sz bk _ hb=>by cases hb),(λid kd es bk _ hb=>by cases hb)⟩,λt=>?_,(λid k hk=>by cases hk),(λid hid=>by cases hid),qE _⟩;simp only[St.get,Q1V]
  by_cases ht:t<args.length
  ·rw[if_pos (by omega)];simp only[yD,zL];have:=hx t ht;have h2:(vals++zT (fn.ntmps - vals.size) undef).getD t undef=vals.getD t undef:=by
    simp[zZ,show t<vals.size by omega]
   rw[h2];exact this
  rw[if_neg (by omega)];exact .bot
 refine Q2R (λe a w' hq=>?_) (h ⟨C,R,fn.ntmps,0,rfl⟩ rfl rfl (λ_ h=>h) _ w (.of hrel));obtain⟨st,⟨R',hX,hr⟩,hq⟩:=hq;have fin:RetG P rvs st rs→a.defers=[]∧∃v,(results fn a.tmps).run P w'= .ok v w'∧∃v' o,Ending.returned v= .returned v'∧Blw w.heap.size w w'∧(∀b L,o b=some L→w.heap.size≤b∧b<w'.heap.size)∧Res w' o v' (QU rs):=by
  intro hA;obtain⟨az,hg,hv⟩:=hA.ex;obtain⟨_,hdef,_,o,ρ,W,H,hxx,_⟩:=hr;obtain⟨vs,h1,h2,h3⟩:=Q7Z H hxx hg;obtain⟨q1,o1,q2,q3⟩:=Q7Y W H rfl hv (vs:=vs) h2 h3;exact⟨hdef,_,Q4c hrt h1,_,o1,rfl,q1,q2,q3⟩
 cases e with
 |normal=>exact fin hq
 |ret=>exact fin hq
 |_=>exact hq.elim
theorem Q9{P:Program}{f:Nat}{fn:Func}{c:Code}{args:List AV}{rvs:List ResultVar}{rs:List AV}{res:AV}(hf:P.funcs[f]? =some fn)(hb:fn.body=some c)(hrt:fn.results=rvs.toArray)(hrs:res=QU rs)(hname:(fn.name=="runtime.NumGoroutine")=false)(hN:args.length≤fn.ntmps)(h:∀F:Fx,F.N=fn.ntmps→F.pins=0→Wp P F c (retGQ P rvs rs) ⟨Q2J 0 args,[],0⟩):Contract P f args res:=
 Q5I hf hb hrt hrs hname hN λF h1 h2 _=>h F h1 h2
end
section
attribute [local simp] Qa QD Qo
def nlA(news:List (Nat×Nat))(a b:AV):Prop:=a=b∨(a= .val (.slice none 0 0)∧∃q∈news,b= .own q.1 0 0)
def nlL(news:List (Nat×Nat)):List AV→List AV→Prop
 |[],[]=>True
 |a::r,b::s=>nlA news a b∧nlL news r s
 |_,_=>False
def entN(news:List (Nat×Nat)):Ent→Ent→Prop
 | .mix sz [cs],.mix sz' [ds]=>sz=sz'∧nlL news cs ds
 | .mix sz [],.row sz' es=>sz=sz'∧es=[]
 |e,e'=>e=e'
theorem nlL_get{news:List (Nat×Nat)}:∀{cs ds:List AV},nlL news cs ds→cs.length=ds.length∧∀k,k<cs.length→nlA news (cs.getD k .bot) (ds.getD k .bot):=by
 intro cs
 induction cs with
 |nil=>intro ds h;cases ds with
  |nil=>exact⟨rfl,λk hk=>by simp at hk⟩
  |cons=>exact h.elim
 |cons a r ih=>
  intro ds h;cases ds with
  |nil=>exact h.elim
  |cons b s=>
   obtain⟨h1,h2⟩:=h;obtain⟨h3,h4⟩:=ih h2;refine⟨by simp[h3],λk hk=>?_⟩;cases k with
   |zero=>simpa using h1
   |succ k=>simpa using h4 k (by simpa using hk)
theorem Q3t{news:List (Nat×Nat)}{e e':Ent}(h:entN news e e'):e=e'∨(∃sz cs ds,e= .mix sz [cs]∧e'= .mix sz [ds]∧nlL news cs ds)∨(∃sz,e= .mix sz []∧e'= .row sz []):=by
 unfold entN at h;split at h
 ·obtain⟨rfl,h⟩:=h;exact .inr (.inl ⟨_,_,_,rfl,rfl,h⟩)
 ·obtain⟨rfl,rfl⟩:=h;exact .inr (.inr ⟨_,rfl,rfl⟩)
 exact .inl h
theorem Wk.nils{F:Fx}{st st':St}(news:List (Nat×Nat))(hn:∀p∈news,st.n≤p.1∧p.1<st'.n)(hle:st.n≤st'.n)(hs:∀p∈st'.s,nlA news (st.get p.1) p.2∨p.2= .bot)(hh:∀p∈st'.h,(∃q∈news,p=(q.1,.row q.2 []))∨∃e,look p.1 st.h=some e∧entN news e p.2)(hnd:(news.map qG).Nodup):Wk F st st':=by
 refine Wk.mk λR a w hr=>?_;obtain⟨r1,r2,r3,o,ρ,W,H,hx,hρ,hp⟩:=hr
 let ρ':Nat→Option Bk:=λid=>match look id news with|some sz=>some ⟨none,sz,0⟩|none=>ρ id
 have hnone:∀q∈news,ρ q.1=none:=by
  intro q hq;cases h:ρ q.1 with
  |none=>rfl
  |some k=>have:=hρ _ _ h;have:=(hn q hq).1;omega
 have hold:∀id k,ρ id=some k→ρ' id=some k:=by
  intro id k hk;simp only[ρ'];cases hl:look id news with
  |none=>exact hk
  |some sz=>have:=hnone _ (Qf hl);simp only at this;rw[hk]at this;cases this
 have hnew:∀q∈news,ρ' q.1=some ⟨none,q.2,0⟩:=by
  intro q hq;simp only[ρ'];rw[Q18 hnd hq]
 have hA:∀{v:Value} {x y:AV},XRel w R ρ v x→nlA news x y→XRel w R ρ' v y:=by
  intro v x y hv h;rcases h with rfl|⟨rfl,q,hq,rfl⟩
  ·exact hv.mono (λb hb=>⟨hb,rfl⟩) hold
  obtain⟨rfl,_⟩:=hv.val_eq;exact .own0 (hnew q hq)
 have hent:∀id e',st'.hp id=some e'→(∃q∈news,id=q.1∧e'= .row q.2 [])∨∃e,st.hp id=some e∧entN news e e':=by
  intro id e' h;rcases hh (id,e') (Qf h)with⟨q,hq,he⟩|h
  ·simp only[qC]at he;exact .inl ⟨q,hq,he.1,he.2⟩
  exact .inr h
 have hback:∀id bk,ρ' id=some bk→(∃q∈news,id=q.1∧bk=⟨none,q.2,0⟩)∨(ρ id=some bk∧∀q∈news,id≠q.1):=by
  intro id bk h;simp only[ρ']at h;cases hl:look id news with
  |some sz=>rw[hl]at h;simp only[qA]at h;exact .inl ⟨(id,sz),Qf hl,rfl,h.symm⟩
  |none=>
   rw[hl]at h;refine .inr ⟨h,λq hq he=>?_⟩;subst he;rw[Q18 hnd hq]at hl;cases hl
 have hcont:∀(d c:Nat) (szc:Nat) (esc:List (List AV)) (bk:Bk),ρ c=some bk→cont st'.hp d c=some (szc,esc)→Qq (st'.hp c)=false→esc=[]∨(cont st.hp d c=some (szc,esc)∧Qq (st.hp c)=false):=by
  intro d
  induction d with
  |zero=>intro c szc esc bk _ h;cases h
  |succ d ih=>
   intro c szc esc bk hb hc hm;unfold cont at hc⊢;cases he:st'.hp c with
   |none=>simp[he]at hc
   |some e'=>
    rw[he]at hc hm;rcases hent c e' he with⟨q,hq,rfl,rfl⟩|⟨e,h1,h2⟩
    ·rw[hnone q hq]at hb;cases hb
    rcases Q3t h2 with rfl|⟨sz,cs,ds,rfl,rfl,_⟩|⟨sz,rfl,rfl⟩
    ·cases e with
     |mix=>cases hm
     |mapE=>cases hc
     |row sz es=>exact .inr ⟨by rw[h1];exact hc,by rw[h1];rfl⟩
     |ali c2 i2 k2 s2=>
      rw[h1];simp only at hc⊢;split at hc
      ·cases hc
      rename_i hm2;cases hc2:cont st'.hp d c2 with
      |none=>simp[hc2]at hc
      |some p=>
       obtain⟨sz2,es2⟩:=p;obtain⟨_,bk2,hb2,_⟩:=H.ali c c2 i2 k2 s2 bk h1 hb;rw[hc2]at hc;rcases ih c2 sz2 es2 bk2 hb2 hc2 (by simpa using hm2)with rfl|⟨q1,q2⟩
       ·simp at hc
       right;rw[q2,q1];exact⟨hc,rfl⟩
    ·cases hm
    simp only[qA,qC]at hc;exact .inl hc.2.symm
 refine⟨r1,r2,λid x hx=>?_,o,ρ',⟨W.R,W.o,W.os,W.tape,W.output,W.size,W.keep⟩,⟨λid sz es bk he hb=>?_,λid sz es bk he hb=>?_,λid c i k sz bk he hb=>?_,λid kd es bk he hb=>?_⟩,λt=>?_,λid k hk=>?_,λid hid=>?_,qL hp.2 hle⟩;rotate_left 4
 ·rcases hent id _ he with⟨q,hq,rfl,h⟩|⟨e,h1,h2⟩
  ·cases h
  rcases hback id bk hb with⟨q,hq,rfl,rfl⟩|⟨hb',_⟩
  ·exact absurd (r3 _ e h1) (by have:=(hn q hq).1;omega)
  rcases Q3t h2 with rfl|⟨s1,cs,ds,rfl,hd,hl⟩|⟨s1,rfl,hd⟩
  ·exact H.map id kd es bk h1 hb'
  ·cases hd
  cases hd
 rotate_left 3
 ·rcases hent id x hx with⟨q,hq,rfl,_⟩|⟨e,he,_⟩
  ·exact(hn q hq).2
  exact qO (r3 id e he) hle
 ·rcases hent id _ he with⟨q,hq,rfl,h⟩|⟨e,h1,h2⟩
  ·cases h
  rcases hback id bk hb with⟨q,hq,rfl,rfl⟩|⟨hb',_⟩
  ·exact absurd (r3 _ e h1) (by have:=(hn q hq).1;omega)
  rcases Q3t h2 with rfl|⟨s1,cs,ds,rfl,hd,hl⟩|⟨s1,rfl,hd⟩
  ·rcases(H.mix id sz es bk h1 hb').ex0 with h0|⟨b,cur,el,us,cpm,q1,q2,q3,q4,q5,q5',q6,q7,q8,q9⟩
   ·exact⟨.inl h0⟩
   exact .mk' ⟨b,cur,el,us,cpm,q1,q2,q3,q4,q5,q5',q6,q7,q8,λi k hi hk=>(q9 i k hi hk).mono (λb hb=>⟨hb,rfl⟩) hold⟩
  ·cases hd;rcases(H.mix id sz _ bk h1 hb').ex0 with⟨h0,_⟩|⟨b,cur,el,us,cpm,q1,q2,q3,q4,q5,q5',q6,q7,q8,q9⟩
   ·cases h0
   obtain⟨g1,g2⟩:=nlL_get hl;refine .mk' ⟨b,cur,el,us,cpm,q1,q2,q3,q4,by simpa using q5,q5',λi hi=>?_,q7,q8,λi k hi hk=>?_⟩
   ·have h0:i=0:=(by simp at hi;omega);subst h0;have:=q6 0 (by simp);simpa[←g1]using this
   have h0:i=0:=(by simp at hi;omega);subst h0;have h6:=q6 0 (by simp);simp only[List.getD_cons_zero]at h6;refine hA (q9 0 k (by simp) hk) ?_;simpa using g2 k (by omega)
  cases hd
 ·rcases hent id _ he with⟨q,hq,rfl,h⟩|⟨e,h1,h2⟩
  ·cases h;have:=(show ρ' q.1=some bk from hb).symm.trans (hnew q hq);cases this;exact⟨_,.nil,.nil⟩
  rcases hback id bk hb with⟨q,hq,rfl,rfl⟩|⟨hb',_⟩
  ·exact absurd (r3 _ e h1) (by have:=(hn q hq).1;omega)
  rcases Q3t h2 with rfl|⟨s1,cs,ds,rfl,hd,hl⟩|⟨s1,rfl,hd⟩
  ·exact H.row id sz es bk h1 hb'
  ·cases hd
  cases hd;rcases(H.mix id sz [] bk h1 hb').ex0 with⟨_,cp0,rfl⟩|⟨b,cur,el,us,cpm,q1,q2,q3,q4,q5,q5',q6,q7,q8,q9⟩
  ·exact⟨_,.nil,.nil⟩
  subst q1;exact⟨.slice (some ⟨b,0,none⟩) 0 cpm,.own (es:=[]) us q2 q3 q4 (zV _) q5' (λi hi=>by simp at hi) (λi k hi=>by simp at hi) (λi k hi=>by simp at hi) (λi k hi=>by simp at hi),.own⟩
 ·rcases hent id _ he with⟨q,hq,rfl,h⟩|⟨e,h1,h2⟩
  ·cases h
  rcases hback id bk hb with⟨q,hq,rfl,rfl⟩|⟨hb',_⟩
  ·exact absurd (r3 _ e h1) (by have:=(hn q hq).1;omega)
  rcases Q3t h2 with rfl|⟨s1,cs,ds,rfl,hd,hl⟩|⟨s1,rfl,hd⟩
  ·obtain⟨q1,bkc,q2,q3⟩:=H.ali id c i k sz bk h1 hb';refine⟨q1,bkc,hold _ _ q2,λd szc esc hc hm hi hk=>?_⟩;rcases hcont d c szc esc bkc q2 hc hm with rfl|⟨g1,g2⟩
   ·simp at hi
   exact q3 d szc esc g1 g2 hi hk
  ·cases hd
  cases hd
 ·cases hl:look t st'.s with
  |none=>simp only[St.get,hl,zO];exact .bot
  |some v=>
   simp only[St.get,hl,zL];rcases hs _ (Qf hl)with h|h
   ·exact hA (hx t) h
   simp only at h;rw[h];exact .bot
 ·rcases hback id k hk with⟨q,hq,rfl,_⟩|⟨h,_⟩
  ·exact(hn q hq).2
  exact qO (hρ id k h) hle
 show ρ' id=_;have hlt:id<st.n:=qO hid hp.2;rw[←hp.1 id hid];simp only[ρ'];cases hl:look id news with
 |none=>rfl
 |some sz=>have:=(hn _ (Qf hl)).1;simp only at this;omega
def hhOk(m:List (Nat×Nat))(h:List (Nat×Ent))(j:Nat)(e':Ent):Prop:=(((look j (back m)).bind λi=>look i h).bind (rlE m))=some e'
theorem Wk.rel{F:Fx}{st st':St}(m:List (Nat×Nat))(h1:(m.map qG).Nodup)(h2:(m.map Prod.snd).Nodup)(hpin:∀id,id<F.pins→look id m=some id)(hn:∀p∈m,p.2<st'.n)(hok:∀p∈st'.h,p.1<st'.n)(hs:∀p∈st'.s,p.2=rl m (st.get p.1)∨p.2= .bot)(hh:∀p∈st'.h,hhOk m st.h p.1 p.2):Wk F st st':=by
 refine Wk.relabel m h1 h2 hpin hn hok hs λp hp=>?_;have:=hh p hp;unfold hhOk at this;obtain⟨e,he,hr⟩:=Option.bind_eq_some_iff.1 this;obtain⟨i,hi,hl⟩:=Option.bind_eq_some_iff.1 he;exact⟨i,e,Q7p h1 hi,hl,hr⟩
theorem join{P:Program}{F:Fx}{y:Code}{AQ:Exit→St→Prop}{K:St→Prop}{G:Prop}(hK:∀st',Wp P F y AQ st'→K st')(S:Bool→St)(C:Prop)(h1:(∀b:Bool,(b=true↔C)→∀st',Wk F st' (S b)→K st')→G)(h2:∀b:Bool,(b=true↔C)→Wp P F y AQ (S b)):G:=h1 λb hb st' hw=>hK st' (Q4 hw (h2 b hb))
end
section
attribute [local simp] Qa QD Qo
theorem PurTo.field{h:HP}{id k sz:Nat}{row cs:List AV}(he:h id=some (.mix sz [row]))(hl:k+cs.length≤sz)(hp:PurL h ((row.drop k).take cs.length) cs):PurTo h (.adr id 0 k) (.rptr cs):=
 .adr he (by simp) hl λj hj=>by
  have:=hp.2 j (by rw[hp.1];exact hj);simpa[qB,List.getElem?_take,List.getElem?_drop,hj]using this
inductive PurLL(h:HP)(sz:Nat):List (List AV)→List (List AV)→Prop
 |nil:PurLL h sz [] []
 |cons {r s rs ss}:s.length=sz→PurL h r s→PurLL h sz rs ss→PurLL h sz (r::rs) (s::ss)
theorem PurLL.get{h:HP}{sz:Nat}{rs ss:List (List AV)}(hp:PurLL h sz rs ss):rs.length=ss.length∧∀i,i<ss.length→(ss.getD i []).length=sz∧PurL h (rs.getD i []) (ss.getD i []):=by
 induction hp with
 |nil=>exact⟨rfl,λi hi=>by simp at hi⟩
 |cons h1 h2 _ ih=>
  refine⟨by simp[ih.1],λi hi=>?_⟩;cases i with
  |zero=>exact⟨h1,h2⟩
  |succ i=>simpa using ih.2 i (by simpa using hi)
theorem PurTo.lits{h:HP}{id n sz:Nat}{u:Bool}{es fs:List (List AV)}(he:h id=some (.mix sz es))(hp:PurLL h sz es fs)(hn:n=fs.length):PurTo h (.own id 0 n) (.lst u sz fs):=by
 subst hn;refine .mix he (by rw[hp.get.1];omega) rfl (λi hi=>(hp.get.2 i hi).1) λi k hi hk=>?_;have:=hp.get.2 i hi;rw[Nat.zero_add];exact this.2.2 k (by rw[this.2.1,this.1];exact hk)
end
section
attribute [local simp] Qa QD Qo
def ass{α:Type}(p:Prop)(k:Option α):Option α:=@ite _ p (Classical.propDecidable p) k none
theorem Q1{α:Type}{p:Prop}{k:Option α}{r:α}(h:ass p k=some r):p∧k=some r:=by
 unfold ass at h;split at h
 ·exact⟨‹_›,h⟩
 cases h
theorem Q2{α:Type}{p:Prop}{k:Option α}(h:p):ass p k=k:=by unfold ass;rw[if_pos h]
inductive Ctl(σ ε:Type) where
 |next (s:σ)
 |ret (e:ε)
def Qd{σ ε:Type}(body:σ→Option (Ctl σ ε)):Nat→σ→Option ε
 |0,_=>none
 |n+1,s=>match body s with
  |some (.next s')=>Qd body n s'
  |some (.ret e)=>some e
  |none=>none
theorem bind_some{α β:Type}{x:Option α}{f:α→Option β}{r:β}(h:x.bind f=some r):∃v,x=some v∧f v=some r:=Option.bind_eq_some_iff.1 h
theorem if_l{α:Type}{p:Prop}[Decidable p]{a b:Option α}{r:α}(g:p)(h:(if p then a else b)=some r):a=some r:=by rw[if_pos g]at h;exact h
theorem if_r{α:Type}{p:Prop}[Decidable p]{a b:Option α}{r:α}(g:¬p)(h:(if p then a else b)=some r):b=some r:=by rw[if_neg g]at h;exact h
def QaY{σ ε:Type}(body:σ→Option (Ctl σ ε))(k:Nat)(e:ε):Ctl σ ε→Prop
 | .next s'=>Qd body k s'=some e
 | .ret e'=>e'=e
def QaK{σ:Type}(F:Fx)(S:σ→St)(G:σ→Prop)(AQ:Exit→St→Prop):Exit→St→Prop
 | .normal,st=>∃s',G s'∧Wk F st (S s')
 |e,st=>AQ e st
section
variable {P:Program}{mt:MT}{F:Fx}{AQ:Exit→St→Prop}{st:St}
theorem Wp.mono{c:Code}{AQ':Exit→St→Prop}(h:∀e st,AQ e st→AQ' e st)(hw:Wp P F c AQ st):Wp P F c AQ' st:=by
 intro a w hr;refine wp_mono (hw a w hr) λe a w he=>?_;obtain⟨st',h1,h2⟩:=he;exact⟨st',h1,h _ _ h2⟩
theorem Q2M{st1 st3:St}(st2:St)(h1:Wk F st1 st2)(h2:Wk F st2 st3):Wk F st1 st3:=λa w h=>h2 a w (h1 a w h)
theorem Qm{σ ε:Type}{c:Code}{body:σ→Option (Ctl σ ε)}{N:Nat}{s0:σ}{e:ε}(h:Qd body N s0=some e)(S:σ→St)(hk:Wk F st (S s0))(round:∀(k:Nat) (s:σ) (c':Ctl σ ε),body s=some c'→QaY body k e c'→Wp P F c (QaK F S (λs'=>Qd body k s'=some e) AQ) (S s)):Wp P F (.loop c) AQ st:=by
 refine Q1w (λp:Nat×σ=>S p.2) (λp=>Qd body p.1 p.2=some e) (λp=>p.1) (N,s0) h hk ?_
 rintro ⟨k,s⟩ hl
 cases k with
 |zero=>cases hl
 |succ k=>
  simp only[Qd]at hl;cases hb:body s with
  |none=>rw[hb]at hl;cases hl
  |some c'=>
   have hc:QaY body k e c':=by
    rw[hb]at hl;cases c' with
    |next s'=>exact hl
    |ret e'=>simpa[QaY]using hl
   refine Wp.mono ?_ (round k s c' hb hc);intro ex st' hq;cases ex with
   |normal=>
    obtain⟨s',h1,h2⟩:=hq;exact⟨(k,s'),h1,Nat.lt_succ_self k,h2⟩
   |_=>exact hq
theorem Qc{β:Type}{x y:Code}(J:β→St)(C:β→Prop)(h2:Wp P F x (Q4F (λst=>∃b,C b∧Wk F st (J b)) AQ) st)(h1:∀b,C b→Wp P F y AQ (J b)):Wp P F x (Q4F (Wp P F y AQ) AQ) st:=by
 refine Wp.mono ?_ h2;intro ex st' hq;cases ex with
 |normal=>
  obtain⟨b,hc,hw⟩:=hq;exact Q4 hw (h1 b hc)
 |_=>exact hq
theorem Qv{all:Array Oper}{os:List Oper}{dst:Option Nat}{K:St→Prop}{op:Op}{t:Nat}{want:Bool}{b:Bool}(h1:b=want→runO P mt all os dst (st.put t (.val (.bool want))) K op)(h2:b=(!want)→Q1e P mt all os ((st.put t (.val (.bool !want))).app dst {v:=.tup []}) K):
  Q5v P mt all os dst st K op t want (.val (.bool b)):=by
 rw[Qa];exact⟨h1,h2⟩
end
section
variable {P:Program}{F:Fx}{AQ:Exit→St→Prop}{st:St}{i id:Nat}
theorem tn{K:St→Prop}(h:K st):Q4F K AQ .normal st:=h
theorem tx{K:St→Prop}(h:AQ (.exit i) st):Q4F K AQ (.exit i) st:=h
theorem tr{K:St→Prop}(h:AQ .ret st):Q4F K AQ .ret st:=h
theorem bn(h:AQ .normal st):Q5V id AQ .normal st:=h
theorem bh(h:AQ .normal st):Q5V id AQ (.exit id) st:=by simp only[Q5V,if_pos];exact h
theorem br(h:AQ .ret st):Q5V id AQ .ret st:=h
theorem lx{σ:Type}{S:σ→St}{G:σ→Prop}(h:AQ (.exit i) st):QaK F S G AQ (.exit i) st:=h
theorem lr{σ:Type}{S:σ→St}{G:σ→Prop}(h:AQ .ret st):QaK F S G AQ .ret st:=h
theorem rn{σ:Type}{S:σ→St}{G:σ→Prop}{s':σ}(h1:G s')(h2:Wk F st (S s')):QaK F S G AQ .normal st:=⟨s',h1,h2⟩
theorem jn{β:Type}{J:β→St}{C:β→Prop}{b:β}(h1:C b)(h2:Wk F st (J b)):Q4F (λst=>∃b,C b∧Wk F st (J b)) AQ .normal st:=⟨b,h1,h2⟩
end
theorem Wk.r1{F:Fx}{st st':St}(m:List (Nat×Nat))(h:(m.map qG).Nodup∧(m.map Prod.snd).Nodup∧(∀id,id<F.pins→look id m=some id)∧(∀p∈m,p.2<st'.n)∧(∀p∈st'.h,p.1<st'.n)∧(∀p∈st'.s,p.2=rl m (st.get p.1)∨p.2= .bot)∧∀p∈st'.h,hhOk m st.h p.1 p.2):Wk F st st':=Wk.rel m h.1 h.2.1 h.2.2.1 h.2.2.2.1 h.2.2.2.2.1 h.2.2.2.2.2.1 h.2.2.2.2.2.2
def fuel:Nat:=4611686018427387904
theorem PurTo.preT{h:HP}{xs cs:List AV}(e:xs.take cs.length=cs):PurTo h (.rptr xs) (.rptr cs):=by
 have:xs=cs++xs.drop cs.length:=by
  have h:=List.take_append_drop cs.length xs;rw[e]at h;exact h.symm
 rw[this];exact .pre
end
section
attribute [local simp] Qa QD Qo
def Q4r(ops:Array Oper)(x y:Oper):Bool:=
 (match x.dst with
  |some d=>(Q4W ops y).contains d||y.dst==some d
  |none=>false)||
 (match y.dst with
  |some d=>(Q4W ops x).contains d
  |none=>false)
def Q5s(x y:Oper):Bool:=(wrM false x.op&&Q1Z y.op)||(Q1Z x.op&&wrM false y.op)
theorem Qaa{ops:Array Oper}{x y:Oper}:Q4w false ops x y=(Q4r ops x y||Q5s x y):=by
 unfold Q4w Q4r Q5s;rw[tch0,tch0];exact Bool.or_assoc _ _ _
theorem Q71{ops:Array Oper}{x y:Oper}(h:Q4r ops x y=false):(∀d,x.dst=some d→d∉Q4W ops y∧y.dst≠some d)∧∀d,y.dst=some d→d∉Q4W ops x:=by
 unfold Q4r at h;simp only[Bool.or_eq_false_iff]at h;obtain⟨h1,h2⟩:=h;refine⟨λd hd=>?_,λd hd=>?_⟩
 ·rw[hd]at h1;simp only[Bool.or_eq_false_iff]at h1;refine⟨by simpa using h1.1,?_⟩;intro hy;rw[hy]at h1;simp at h1
 rw[hd]at h2;simpa using h2
def Q3m(ops:Array Oper)(j s:Nat):Bool:=(zW ops.size).all λm=>m==j||(ops[m]?).bind (·.dst)!=some s
def Q8W(ops:Array Oper)(s:Nat):Bool:=(zW ops.size).all λm=>(ops[m]?).bind (·.dst)!=some s
theorem Q3i{ops:Array Oper}{j s m:Nat}(h:Q3m ops j s=true)(hm:m<ops.size)(hj:m≠j):(ops[m]?).bind (·.dst)≠some s:=by
 unfold Q3m at h;have:=List.all_eq_true.1 h m (List.mem_range.2 hm);simpa[hj]using this
theorem Q4i{ops:Array Oper}{s m:Nat}(h:Q8W ops s=true)(hm:m<ops.size):(ops[m]?).bind (·.dst)≠some s:=by
 unfold Q8W at h;have:=List.all_eq_true.1 h m (List.mem_range.2 hm);simpa using this
def Q7o(ops:Array Oper)(j s:Nat):Bool:=match ops[j]? with
 |some ⟨d,.alloc _,_,_,_,none⟩=>d==some s&&Q3m ops j s
 |_=>false
def Q5C(ds:List Nat)(ops:Array Oper)(k:Nat):Bool:=match ops[k]? with
 |some ⟨_,.store _ (.tmp s) _,_,_,_,none⟩=>((zW k).any λj=>Q7o ops j s)||(ds.contains s&&Q8W ops s)
 |_=>false
def stepAt(ops:Array Oper)(l t:Nat):Option Nat:=match ops[l]? with
 |some ⟨d,.fieldAddr _ (.tmp r) _,_,_,_,none⟩=>if d==some t&&Q3m ops l t then some r else none
 |some ⟨d,.move (.tmp r),_,_,_,none⟩=>if d==some t&&Q3m ops l t then some r else none
 |some ⟨d,.nilCheck (.tmp r),_,_,_,none⟩=>if d==some t&&Q3m ops l t then some r else none
 |some ⟨d,.indexAddr _ (.tmp r) _,_,_,_,none⟩=>if d==some t&&Q3m ops l t then some r else none
 |_=>none
def Q5c(ds:List Nat)(ops:Array Oper):Nat→Nat→Nat→Bool
 |0,_,_=>false
 |k+1,i,t=>(Q8W ops t&&!ds.contains t)||(zW i).any λl=>match stepAt ops l t with|some r=>Q5c ds ops k l r|none=>false
def Q5z(ds:List Nat)(ops:Array Oper)(i:Nat):Bool:=match ops[i]? with
 |some ⟨_,.load _ (.tmp t),_,_,_,_⟩=>Q5c ds ops 8 i t
 |some ⟨_,.indexAddr _ (.tmp t) _,_,_,_,_⟩=>Q5c ds ops 8 i t
 |_=>false
def Q3k(ds:List Nat)(ops:Array Oper):Bool:=(zW ops.size).all λk=>!((ops[k]?).map (wrM false ·.op)).getD false||Q5C ds ops k
def lateW(ops:Array Oper)(i k:Nat):Bool:=match ops[k]? with
 |some ⟨_,.store _ (.tmp s) _,_,_,_,none⟩=>(zW k).any λa=>decide (i<a)&&Q7o ops a s
 |_=>false
def Q8H(ops:Array Oper)(i:Nat):Bool:=!((ops[i]?).map (wrM false ·.op)).getD true&&(zW ops.size).all λk=>decide (k≤i)||!((ops[k]?).map (wrM false ·.op)).getD false||lateW ops i k
def Q76(rs:List Nat)(ops:Array Oper)(l t:Nat):Bool:=match ops[l]? with
 |some ⟨d,.fieldAddr _ (.tmp r) _,_,_,_,none⟩=>d==some t&&(Q3m ops l t&&(Q8W ops r&&rs.contains r))
 |_=>false
def Q4Q(rs:List Nat)(ops:Array Oper)(i:Nat):Bool:=match ops[i]? with
 |some ⟨_,.load _ (.tmp t),_,_,_,_⟩=>(rs.contains t&&Q8W ops t)||(zW i).any λl=>Q76 rs ops l t
 |_=>false
def meAt(ops:Array Oper)(i j:Nat):Bool:=(match ops[i]? with
 |some ⟨_,.load ..,_,_,_,_⟩=>true
 |some ⟨_,.makeMap _ none,_,_,_,_⟩=>true
 |_=>false)&&(zW (j+1)).all λk=>decide (k<i)||!((ops[k]?).map (wrM false ·.op)).getD false||((ops[k]?).map (isMe ·.op)).getD false
def Q6n(ds rs:List Nat)(J:Nat)(ops:Array Oper):Bool:=
 let ms:=Q4b ops.toList []
 (zW ops.size).all λj=>(zW j).all λi=>
  match ops[i]?,ops[j]? with
  |some x,some y=>(!Q4r ops x y&&(!Q5s x y||((Q4Q rs ops i&&decide (j≤J))||meAt ops i j||(Q3k ds ops&&((Q5z ds ops i&&Q5C ds ops j)||Q8H ops i)))))||(ms.getD j 0).testBit i
  |_,_=>true
structure SD(ds:List Nat)(st:St):Prop where
 mix:∀s∈ds,∃id,st.get s= .adr id 0 0∧Qq (st.hp id)=true
 sep:∀t id i k,t∉ds→st.get t= .adr id i k→∀s∈ds,st.get s≠.adr id 0 0
 sepO:∀t id i k,t∉ds→st.get t= .own id i k→∀s∈ds,st.get s≠.adr id 0 0
def sd1(ds:List Nat)(st:St):AV→Bool
 | .adr id 0 0=>Qq (look id st.h)&&st.s.all λp=>ds.contains p.1||(match p.2 with|.adr j _ _=>j !=id|.own j _ _=>j !=id|_=>true)
 |_=>false
def sdB(ds:List Nat)(st:St):Bool:=ds.all λs=>sd1 ds st (st.get s)
theorem sd_ok{ds:List Nat}{st:St}(h:sdB ds st=true):SD ds st:=by
 have h1:∀s∈ds,∃id,st.get s= .adr id 0 0∧Qq (look id st.h)=true∧∀p∈st.s,p.1∉ds→∀j a b,(p.2= .adr j a b∨p.2= .own j a b)→j≠id:=by
  intro s hs;have h2:=List.all_eq_true.1 h s hs;unfold sd1 at h2;split at h2
  ·rename_i id hg;simp only[qI,qX,zN]at h2;refine⟨id,hg,h2.1,λp hp hn j a b hj=>?_⟩;rcases h2.2 p hp with h3|h3
   ·exact absurd (by simpa using h3) hn
   rcases hj with hj|hj<;>(rw[hj]at h3;simpa using h3)
  cases h2
 have fin:∀t id i k,t∉ds→(st.get t= .adr id i k∨st.get t= .own id i k)→∀s∈ds,st.get s≠.adr id 0 0:=λt id i k ht hg s hs hc=>?_
 ·exact⟨λs hs=>by obtain⟨id,q1,q2,_⟩:=h1 s hs;exact⟨id,q1,q2⟩,λt id i k ht hg=>fin t id i k ht (.inl hg),λt id i k ht hg=>fin t id i k ht (.inr hg)⟩
 obtain⟨id',q1,_,q3⟩:=h1 s hs;rw[q1]at hc;cases hc;unfold St.get at hg;cases hl:look t st.s with
 |none=>rw[hl]at hg;rcases hg with hg|hg<;>cases hg
 |some v=>rw[hl]at hg;exact q3 _ (Qf hl) ht _ _ _ hg rfl
theorem sd_nil(st:St):SD [] st:=⟨λ_ h=>by simp at h,λ_ _ _ _ _ _ _ h=>by simp at h,λ_ _ _ _ _ _ _ h=>by simp at h⟩
theorem Q6o{ds rs:List Nat}{J:Nat}{ops:Array Oper}(h:Q6n ds rs J ops=true){i j:Nat}{x y:Oper}(hij:i<j)(hx:ops[i]? =some x)(hy:ops[j]? =some y):
  ((Q4b ops.toList []).getD j 0).testBit i=true∨(Q4r ops x y=false∧(Q5s x y=true→(Q4Q rs ops i=true∧j≤J)∨meAt ops i j=true∨(Q3k ds ops=true∧(Q5z ds ops i=true∨Q8H ops i=true)))):=by
 unfold Q6n at h;have h2:=h;simp only[qX,yE]at h2;have hj:j<ops.size:=by
  rcases zM j ops.size with h'|h'
  ·exact h'
  simp[Array.getElem?_eq_none h']at hy
 have:=h2 j hj i hij;rw[hx,hy]at this;simp only[zN,qI,Bool.not_eq_true']at this;rcases this with⟨h3,h4⟩|h3
 ·refine .inr ⟨h3,λhm=>?_⟩;rcases h4 with h4|(h4|h4)|h4
  ·rw[hm]at h4;cases h4
  ·exact .inl ⟨h4.1,of_decide_eq_true h4.2⟩
  ·exact .inr (.inl h4)
  exact .inr (.inr ⟨h4.1,h4.2.imp_left λq=>q.1⟩)
 exact .inl h3
theorem Q6s{ds:List Nat}{ops:Array Oper}{i:Nat}{o:Oper}(hi:ops[i]? =some o)(h:Q5z ds ops i=true):∃ty t,(o.op= .load ty (.tmp t)∨∃x,o.op= .indexAddr ty (.tmp t) x)∧Q5c ds ops 8 i t=true:=by
 unfold Q5z at h;split at h
 ·rename_i d ty t t2 p af g ho;rw[hi]at ho;cases ho;exact⟨ty,t,.inl rfl,h⟩
 ·rename_i d ty t x t2 p af g ho;rw[hi]at ho;cases ho;exact⟨ty,t,.inr ⟨x,rfl⟩,h⟩
 cases h
theorem stepAt_eq{ops:Array Oper}{l t r:Nat}(h:stepAt ops l t=some r):∃o,ops[l]? =some o∧o.guard=none∧o.dst=some t∧Q3m ops l t=true∧((∃ty k,o.op= .fieldAddr ty (.tmp r) k)∨o.op= .move (.tmp r)∨o.op= .nilCheck (.tmp r)∨∃ty k,o.op= .indexAddr ty (.tmp r) k):=by
 unfold stepAt at h;split at h
 ·rename_i ho;split at h
  ·rename_i hq;simp only[qI,beq_iff_eq]at hq;cases h;exact⟨_,ho,rfl,hq.1,hq.2,.inl ⟨_,_,rfl⟩⟩
  cases h
 ·rename_i ho;split at h
  ·rename_i hq;simp only[qI,beq_iff_eq]at hq;cases h;exact⟨_,ho,rfl,hq.1,hq.2,.inr (.inl rfl)⟩
  cases h
 ·rename_i ho;split at h
  ·rename_i hq;simp only[qI,beq_iff_eq]at hq;cases h;exact⟨_,ho,rfl,hq.1,hq.2,.inr (.inr (.inl rfl))⟩
  cases h
 ·rename_i ho;split at h
  ·rename_i hq;simp only[qI,beq_iff_eq]at hq;cases h;exact⟨_,ho,rfl,hq.1,hq.2,.inr (.inr (.inr ⟨_,_,rfl⟩))⟩
  cases h
 cases h
theorem rootAt_wr{ds:List Nat}{ops:Array Oper}{i:Nat}{o:Oper}(hi:ops[i]? =some o)(h:Q5z ds ops i=true):wrM false o.op=false:=by
 obtain⟨ty,t,ho|⟨x,ho⟩,_⟩:=Q6s hi h<;>(rw[ho];rfl)
section
variable {P:Program}{ds:List Nat}{ops:Array Oper}{S:Nat→St}{E:Nat→Option Eff}{C:Ctx}{R:Nat→Prop}{N:Nat}{w0:World}
theorem Q3M(T:Tr P false ops S E){s a:Nat}:∀b,a≤b→b≤ops.size→(∀m,a≤m→m<b→(ops[m]?).bind (·.dst)≠some s)→(S b).get s=(S a).get s:=by
 intro b
 induction b with
 |zero=>
  intro h _ _;have:a=0:=by omega
  subst this;rfl
 |succ b ih=>
  intro h hb hk;rcases zM a (b+1)with h'|h'
  ·obtain⟨_,hS,_⟩:=T.step (zK (show b<ops.size by omega));rw[hS,Q5g,if_neg]
   ·exact ih (by omega) (by omega) λm h1 h2=>hk m h1 (by omega)
   have:=hk b (by omega) (by omega);rw[zK (show b<ops.size by omega)]at this;exact this
  have:a=b+1:=by omega
  subst this;rfl
theorem Q4X(T:Tr P false ops S E){k:Nat}{o:Oper}(ho:ops[k]? =some o)(hg:o.guard=none):∃e,E k=some e∧AOp P false o.op (S k).ev (S k).hp (S k).n e∧S (k+1)=(S k).app o.dst e:=by
 have:=T.run k o ho;cases hE:E k with
 |none=>
  rw[hE]at this;have h1:=this.1;simp only[Q3p,hg]at h1;cases h1
 |some e=>
  rw[hE]at this;exact⟨e,rfl,this.2.1,this.2.2⟩
theorem Qa3(T:Tr P false ops S E){j s:Nat}(h:Q7o ops j s=true):j<ops.size∧Q3m ops j s=true∧(S (j+1)).get s= .adr (S j).n 0 0∧Qq ((S (j+1)).hp (S j).n)=true:=by
 unfold Q7o at h;split at h
 ·rename_i d e0 ty pos af ho;simp only[qI,beq_iff_eq]at h;have hjs:=(Array.getElem?_eq_some_iff.1 ho).1;obtain⟨e,hE,hop,hS⟩:=Q4X T ho rfl;have he:∃z:Nat×List (List AV),e={v:=.adr (S j).n 0 0,new:=[((S j).n,.mix z.1 z.2)],cnt:=1}:=by
   cases hop with
   |sem h0=>cases h0
   |mpx h0=>first|(cases h0;done)|(simp[Q4P]at h0;done)
   |blt h1 h2=>
    simp only[opF,alloc]at h1;split at h1
    ·rename_i t _;simp only[qA,qC]at h1;exact⟨(t.sz,[t.zero.map .val]),h1.2.symm⟩
    cases h1
   |call h1=>cases h1
   |mcall h1=>cases h1
   |icall h1=>cases h1
   |boxr h1=>cases h1
   |appM h1=>cases h1
   |fcall h1=>cases h1
   |mapo h1=>simp[mapF]at h1
   |mkz h1=>cases h1
   |mkf h1=>cases h1
   |sto h1=>cases h1
  obtain⟨z,rfl⟩:=he;refine⟨hjs,h.2,?_,?_⟩
  ·rw[hS,Q5g,if_pos h.1]
  have hf:=(hop.fine (T.all j (by omega))).1;show Qq (look (S j).n (S (j+1)).h)=true;rw[hS,Q2e _ _ hf];have hn:(S j).hp (S j).n=none:=by
   show look (S j).n (S j).h=none;cases hh:look (S j).n (S j).h with
   |none=>rfl
   |some x=>have:=T.all j (by omega) _ _ hh;omega
  have:happ ({v:=.adr (S j).n 0 0,new:=[((S j).n,.mix z.1 z.2)],cnt:=1}:Eff) (S j).hp (S j).n=none:=by
   simp[happ,look,hn]
  rw[this];simp[look,Qq]
 cases h
def Q3Y(S:Nat→St)(ds:List Nat)(id:Nat):Prop:=(S 0).n≤id∨∃s∈ds,(S 0).get s= .adr id 0 0
theorem Q86(T:Tr P false ops S E)(hD:SD ds (S 0))(hall:Q3k ds ops=true):∀k,k<ops.size→Q5C ds ops k=true→∃id sz es,(eff E k).set=[(id,.mix sz es)]∧(eff E k).del=[]∧Q3Y S ds id∧Qq ((S k).hp id)=true:=by
 intro k
 induction k using Nat.strongRecOn with
 |_ k ih=>
  intro hks hk;unfold Q5C at hk;split at hk
  ·rename_i d ty s x ty2 pos af ho;obtain⟨b,id,hbk,hdst,b3,b4,b5⟩:∃b id,b≤k∧(∀m,b≤m→m<ops.size→(ops[m]?).bind (·.dst)≠some s)∧(S b).get s= .adr id 0 0∧Qq ((S b).hp id)=true∧Q3Y S ds id:=by
    simp only[zN,qI]at hk;rcases hk with hk|⟨hk,hk'⟩
    ·obtain⟨j,hj,hal⟩:=List.any_eq_true.1 hk;have hj:=List.mem_range.1 hj;obtain⟨a1,a2,a3,a4⟩:=Qa3 T hal;exact⟨j+1,(S j).n,by omega,λm h1 h2=>Q3i a2 h2 (by omega),a3,a4,.inl (T.nle (zV j) (by omega))⟩
    have hs:s∈ds:=(by simpa using hk);obtain⟨id,q1,q2⟩:=hD.mix s hs;exact⟨0,id,zV _,λm _ h=>Q4i hk' h,q1,q2,.inr ⟨s,hs,q1⟩⟩
   have key:∀m,b≤m→m≤k→(S m).get s= .adr id 0 0∧Qq ((S m).hp id)=true:=by
    intro m
    induction m with
    |zero=>
     intro h _;have:b=0:=(by omega);subst this;exact⟨b3,b4⟩
    |succ m ihm=>
     intro h1 h2;rcases zM b (m+1)with h|h
     ·obtain⟨i1,i2⟩:=ihm (by omega) (by omega);have hg:=zK (show m<ops.size by omega);obtain⟨hf,hS,hnw,_⟩:=T.step hg;refine⟨?_,?_⟩
      ·rw[hS,Q5g,if_neg]
       ·exact i1
       have:=hdst m (by omega) (by omega);rw[hg]at this;exact this
      show Qq (look id (S (m+1)).h)=true;rw[hS,Q2e _ _ hf];have hh:Qq (happ (eff E m) (S m).hp id)=true:=by
       cases hw:wrM false (ops[m]).op with
       |false=>
        obtain⟨n1,n2⟩:=hnw hw;rw[QV n1 n2];exact i2
       |true=>
        have hsf:Q5C ds ops m=true:=by
         have:=List.all_eq_true.1 hall m (List.mem_range.2 (by omega));rw[hg]at this;simpa[hw]using this
        obtain⟨id',sz,es,e1,e2,_⟩:=ih m (by omega) (by omega) hsf;simp only[happ,e1,e2,look]
        by_cases hid:id'=id
        ·rw[if_pos hid];rfl
        rw[if_neg hid];simpa using i2
      cases hq:happ (eff E m) (S m).hp id with
      |none=>rw[hq]at hh;cases hh
      |some y=>rw[hq]at hh;exact hh
     have:b=m+1:=(by omega);subst this;exact⟨b3,b4⟩
   obtain⟨k1,k2⟩:=key k (by omega) (qE _);obtain⟨e,hE,hop,hS⟩:=Q4X T ho rfl;have hev:(S k).ev (.tmp s)= .adr id 0 0:=k1;obtain⟨sz,es,hmx⟩:∃sz es,(S k).hp id=some (.mix sz es):=by
    cases hq:(S k).hp id with
    |none=>rw[hq]at k2;cases k2
    |some y=>cases y with
     |mix sz es=>exact⟨sz,es,rfl⟩
     |row=>rw[hq]at k2;cases k2
     |mapE=>rw[hq]at k2;cases k2
     |ali=>rw[hq]at k2;cases k2
   have heff:eff E k=e:=(by simp[eff,hE]);rw[heff];cases hop with
   |sem h0=>cases h0
   |mpx h0=>first|(cases h0;done)|(simp[Q4P]at h0;done)
   |blt h1 h2=>
    simp only[opF,hev,Q3C]at h1;cases hty:tyi P ty with
    |none=>rw[hty]at h1;cases h1
    |some t=>
     rw[hty]at h1;simp only[hmx]at h1;split at h1
     ·simp only[qA,qC]at h1;rw[←h1.2];exact⟨_,_,_,rfl,rfl,b5,by rw[hmx];rfl⟩
     cases h1
   |call h1=>cases h1
   |mcall h1=>cases h1
   |icall h1=>cases h1
   |boxr h1=>cases h1
   |appM h1=>cases h1
   |fcall h1=>cases h1
   |mapo h1=>simp[mapF]at h1
   |mkz h1=>cases h1
   |mkf h1=>cases h1
   |sto h1 h2 h3 h4 h5=>
    cases h1;rw[hev]at h4;cases h4;have:=h5.ent;rw[hmx]at this;cases this
  cases hk
theorem HS_same(T:Tr P false ops S E)(hD:SD ds (S 0))(hall:Q3k ds ops=true){i:Nat}:∀m,i≤m→m≤ops.size→∀id,HS S E ops.size m id=HS S E ops.size i id∨(Qq (HS S E ops.size i id)=true∧Qq (HS S E ops.size m id)=true∧Q3Y S ds id):=by
 intro m
 induction m with
 |zero=>
  intro h _ id;have:i=0:=by omega
  subst this;exact .inl rfl
 |succ m ih=>
  intro h hm id;rcases zM i (m+1)with h'|h'
  ·have hi:=ih (by omega) (by omega) id;have hg:=zK (show m<ops.size by omega);rw[Q5a T (by omega)];cases hw:wrM false (ops[m]).op with
   |false=>
    obtain⟨n1,n2⟩:=(T.step hg).2.2.1 hw;rw[QV n1 n2];exact hi
   |true=>
    have hsf:Q5C ds ops m=true:=by
     have:=List.all_eq_true.1 hall m (List.mem_range.2 (by omega));rw[hg]at this;simpa[hw]using this
    obtain⟨id',sz,es,e1,e2,e3,e4⟩:=Q86 T hD hall m (by omega) hsf;simp only[happ,e1,e2,look]
    by_cases hid:id'=id
    ·subst hid;rw[if_pos rfl];have hmm:Qq (HS S E ops.size m id')=true:=by
      simp only[HS];cases hq:look id' (S m).h with
      |none=>
       have:(S m).hp id'=none:=hq;rw[this]at e4;cases e4
      |some y=>
       have:(S m).hp id'=some y:=hq;rw[this]at e4;exact e4
     rcases hi with hi|⟨h1,h2,h3⟩
     ·exact .inr ⟨by rw[←hi];exact hmm,rfl,e3⟩
     exact .inr ⟨h1,rfl,h3⟩
    rw[if_neg hid];simpa using hi
  have:i=m+1:=by omega
  subst this;exact .inl rfl
theorem Qac{h h':HP}(hh:∀x,h' x=h x∨(Qq (h x)=true∧Qq (h' x)=true)):∀d id,h' id=h id→cont h' d id=cont h d id:=by
 intro d
 induction d with
 |zero=>intro id _;rfl
 |succ d ih=>
  intro id he;simp only[cont,he];cases hq:h id with
  |none=>rfl
  |some y=>
   cases y with
   |mix=>rfl
   |row=>rfl
   |mapE=>rfl
   |ali c i k sz=>
    simp only;rcases hh c with h1|⟨h1,h2⟩
    ·rw[h1,ih c h1]
    rw[h1,h2];rfl
theorem takeC_ali(id i:Nat):∀(cs:List AV) (k n:Nat),∀p∈(Q1m id i k n cs).2,Qq (some p.2)=false:=by
 intro cs
 induction cs with
 |nil=>intro k n p hp;simp[Q1m]at hp
 |cons a r ih=>
  intro k n p hp;unfold Q1m at hp;split at hp
  ·rename_i h;cases h
  ·rename_i h;cases h;simp only[List.mem_cons]at hp;rcases hp with rfl|hp
   ·rfl
   exact ih _ _ p hp
  rename_i h;cases h;exact ih _ _ p hp
theorem loadv_new{ty:Option Tyi}{a:AV}{h:HP}{n:Nat}{c:Prop}{e:Eff}(hc:Q3O ty a h n=some (c,e)):∀p∈e.new,Qq (some p.2)=false:=by
 unfold Q3O at hc;split at hc
 ·split at hc
  ·simp only[qA,qC]at hc;rw[←hc.2];simp
  ·split at hc
   ·simp only[qA,qC]at hc;rw[←hc.2];exact takeC_ali _ _ _ _ _
   cases hc
  cases hc
 ·simp only[qA,qC]at hc;rw[←hc.2];simp
 cases hc
inductive Pts:AV→Nat→Prop
 |adr {id i k}:Pts (.adr id i k) id
 |own {id i k}:Pts (.own id i k) id
theorem Q8j(T:Tr P false ops S E)(hS0:∀t id,t∉ds→Pts ((S 0).get t) id→¬Q3Y S ds id):∀(n i t:Nat),i≤ops.size→Q5c ds ops n i t=true→∀id,Pts ((S i).get t) id→¬Q3Y S ds id:=by
 intro n
 induction n with
 |zero=>intro i t _ h;cases h
 |succ n ih=>
  intro i t his h id hg;unfold Q5c at h;simp only[zN,qI,List.any_eq_true,yE]at h;rcases h with⟨h,h'⟩|⟨l,hl,h⟩
  ·rw[Q3M T i (zV _) (by omega) λq _ hq=>Q4i h (by omega)]at hg;exact hS0 _ _ (by simpa using h') hg
  split at h
  ·rename_i r hr;obtain⟨o,hol,hgd,h1,h2,hop'⟩:=stepAt_eq hr;obtain⟨e',hE,hop,hS⟩:=Q4X T hol hgd;rw[Q3M T (a:=l+1) i (by omega) (by omega) λq hq1 hq2=>Q3i h2 (by omega) (by omega),hS,Q5g,if_pos h1]at hg;have key:Pts ((S l).get r) id→¬Q3Y S ds id:=λhx=>ih l r (by omega) h id hx;obtain⟨d,op,ty,pos,af,gd⟩:=o;simp only at hop' hop;have fin:∀c,opF P op (S l).ev (S l).hp (S l).n=some (c,e')→¬Q3Y S ds id:=by
    intro c q1;rcases hop' with⟨ty1,k1,rfl⟩|rfl|rfl|⟨ty1,k1,rfl⟩
    ·have hx:(S l).ev (.tmp r)=(S l).get r:=rfl;simp only[opF,hx]at q1;unfold fieldAddr at q1;split at q1
     ·rename_i hf hx0;simp only[qA,qC]at q1;rw[←q1.2]at hg;cases hg;exact key (by rw[hx0];exact .adr)
     ·simp only[qA,qC]at q1;rw[←q1.2]at hg;cases hg
     cases q1
    ·simp only[opF,qA,qC]at q1;rw[←q1.2]at hg;exact key hg
    ·have hx:(S l).ev (.tmp r)=(S l).get r:=rfl;simp only[opF,hx]at q1;unfold nilCheck at q1;split at q1
     ·rename_i hx0;simp only[qA,qC]at q1;rw[←q1.2]at hg;cases hg;exact key (by rw[hx0];exact .adr)
     ·simp only[qA,qC]at q1;rw[←q1.2]at hg;cases hg
     ·simp only[qA,qC]at q1;rw[←q1.2]at hg;cases hg
     cases q1
    have hx:(S l).ev (.tmp r)=(S l).get r:=rfl;simp only[opF,hx]at q1;split at q1
    ·unfold Q2c at q1;split at q1
     ·rename_i hx0 _;split at q1
      ·split at q1
       ·simp only[qA,qC]at q1;rw[←q1.2]at hg;cases hg;exact key (by rw[hx0];exact .own)
       cases q1
      cases q1
     ·split at q1
      ·simp only[qA,qC]at q1;rw[←q1.2]at hg;cases hg
      cases q1
     cases q1
    cases q1
   rcases hop' with⟨ty1,k1,rfl⟩|rfl|rfl|⟨ty1,k1,rfl⟩<;>
   ·cases hop with
    |sem h0=>cases h0
    |mpx h0=>first|(cases h0;done)|(simp[Q4P]at h0;done)
    |blt q1 q2=>exact fin _ q1
    |call h1=>cases h1
    |mcall h1=>cases h1
    |icall h1=>cases h1
    |boxr h1=>cases h1
    |appM h1=>cases h1
    |fcall h1=>cases h1
    |mapo h1=>simp[mapF]at h1
    |mkz h1=>cases h1
    |mkf h1=>cases h1
    |sto h1=>cases h1
  cases h
theorem root_same(T:Tr P false ops S E)(hD:SD ds (S 0))(hall:Q3k ds ops=true)(hS0:∀t id,t∉ds→Pts ((S 0).get t) id→¬Q3Y S ds id){i m:Nat}{oi:Oper}(hi:ops[i]? =some oi)(hr:Q5z ds ops i=true)(him:i≤m+1)(hm:m+1≤ops.size){ev:Operand→AV}{e:Eff}(up:AOp P false oi.op ev (HS S E ops.size i) (S i).n e)(nw:∀p∈e.new,HS S E ops.size i p.1=some p.2)(hev:∀t,(.tmp t:Operand)∈oi.op.operands→ev (.tmp t)=(S i).get t):
  AOp P false oi.op ev (HS S E ops.size (m+1)) (S i).n e∧∀p∈e.new,HS S E ops.size (m+1) p.1=some p.2:=by
 obtain⟨ty,t,ho,hsrc⟩:=Q6s hi hr;have his:=(Array.getElem?_eq_some_iff.1 hi).1;have hsame:=HS_same T hD hall (i:=i) (m+1) him hm;have hadr:∀id a b,(S i).get t= .adr id a b→¬Q3Y S ds id:=λid a b hg=>Q8j T hS0 8 i t (by omega) hsrc id (by rw[hg];exact .adr);have hidx:∀ty' x c,Q2c ty' ((S i).get t) x (HS S E ops.size i)=some (c,e)→Q2c ty' ((S i).get t) x (HS S E ops.size (m+1))=some (c,e)∧e.new=[]:=by
  intro ty' x c hc;generalize hg:(S i).get t=v0 at hc⊢;unfold Q2c at hc⊢;split at hc
  ·rename_i tt id off n k j;have hlt:¬Q3Y S ds id:=Q8j T hS0 8 i t (by omega) hsrc id (by rw[hg];exact .own);have hid:HS S E ops.size (m+1) id=HS S E ops.size i id:=(hsame id).resolve_right λh=>hlt h.2.2;have hcont:=Qac (h:=HS S E ops.size i) (h':=HS S E ops.size (m+1)) (λx=>(hsame x).imp_right λh=>⟨h.1,h.2.1⟩) depth id hid;simp only[hcont];refine⟨hc,?_⟩;split at hc
   ·split at hc
    ·simp only[qA,qC]at hc;rw[←hc.2]
    cases hc
   cases hc
  ·refine⟨hc,?_⟩;split at hc
   ·simp only[qA,qC]at hc;rw[←hc.2]
   cases hc
  cases hc
 have hload:∀c,Q3O (tyi P ty) ((S i).get t) (HS S E ops.size i) (S i).n=some (c,e)→Q3O (tyi P ty) ((S i).get t) (HS S E ops.size (m+1)) (S i).n=some (c,e)∧∀p∈e.new,Qq (some p.2)=false:=by
  intro c hc;refine⟨?_,loadv_new hc⟩;cases hg:(S i).get t with
  |adr id a b=>
   have hlt:=hadr id a b hg;have hid:HS S E ops.size (m+1) id=HS S E ops.size i id:=(hsame id).resolve_right λh=>hlt h.2.2;have hcont:=Qac (h:=HS S E ops.size i) (h':=HS S E ops.size (m+1)) (λx=>(hsame x).imp_right λh=>⟨h.1,h.2.1⟩) depth id hid;rw[hg]at hc;cases hty:tyi P ty with
   |none=>rw[hty]at hc;cases hc
   |some tt=>
    rw[hty,Q9y]at hc;rw[Q9y,hid];cases hq:HS S E ops.size i id with
    |none=>rw[hq]at hc;cases hc
    |some y=>
     rw[hq]at hc;cases y with
     |mix=>exact hc
     |row=>exact hc
     |mapE=>cases hc
     |ali=>simp only[loadE]at hc⊢;rw[hcont];exact hc
  |rptr cs=>
   rw[hg]at hc;cases hty:tyi P ty with
   |none=>rw[hty]at hc;cases hc
   |some tt=>rw[hty]at hc;exact hc
  |_=>rw[hg]at hc;cases hty:tyi P ty<;>(rw[hty]at hc;cases hc)
 rcases ho with ho|⟨x,ho⟩
 ·rw[ho]at up hev⊢;have hevt:=hev t (by simp[Op.operands]);cases up with
  |sem h0=>cases h0
  |mpx h0=>first|(cases h0;done)|(simp[Q4P]at h0;done)
  |blt h1 h2=>
   simp only[opF]at h1;rw[hevt]at h1;obtain⟨q1,q2⟩:=hload _ h1;refine⟨.blt (by simp only[opF];rw[hevt];exact q1) h2,λp hp=>?_⟩;rcases hsame p.1 with h|⟨h,_⟩
   ·rw[h];exact nw p hp
   rw[nw p hp,q2 p hp]at h;cases h
  |call h1=>cases h1
  |mcall h1=>cases h1
  |icall h1=>cases h1
  |boxr h1=>cases h1
  |appM h1=>cases h1
  |fcall h1=>cases h1
  |mapo h1=>simp[mapF]at h1
  |mkz h1=>cases h1
  |mkf h1=>cases h1
  |sto h1=>cases h1
 rw[ho]at up hev⊢;have hevt:=hev t (by simp[Op.operands]);cases up with
 |sem h0=>cases h0
 |mpx h0=>first|(cases h0;done)|(simp[Q4P]at h0;done)
 |blt h1 h2=>
  simp only[opF]at h1;split at h1
  ·rename_i et het;rw[hevt]at h1;obtain⟨q1,q2⟩:=hidx _ _ _ h1;refine⟨.blt (by simp only[opF,het];rw[hevt];exact q1) h2,λp hp=>?_⟩;rw[q2]at hp;cases hp
  cases h1
 |call h1=>cases h1
 |mcall h1=>cases h1
 |icall h1=>cases h1
 |boxr h1=>cases h1
 |appM h1=>cases h1
 |fcall h1=>cases h1
 |mapo h1=>simp[mapF]at h1
 |mkz h1=>cases h1
 |mkf h1=>cases h1
 |sto h1=>cases h1
def isApp:Op→Bool
 | .call ⟨.builtin .append,_,_⟩=>true
 |_=>false
theorem app_set{op:Op}{ev:Operand→AV}{h:HP}{n:Nat}{e:Eff}(hop:AOp P false op ev h n e)(ha:isApp op=true):e.set=[]:=by
 unfold isApp at ha;split at ha
 case h_2=>cases ha
 rename_i az ts;cases hop with
 |sem h0=>cases h0
 |mpx h0=>first|(cases h0;done)|(simp[Q4P]at h0;done)
 |blt he hc=>
  simp only[opF]at he;unfold bltF at he;split at he
  ·first|(rename_i hq _ _;cases hq;done)|(rename_i hq _;cases hq;done)|(rename_i hq;cases hq;done)
  ·split at he
   ·split at he
    ·unfold Q2W at he;split at he
     ·split at he
      ·split at he
       ·simp only[qA,qC]at he;obtain⟨_,rfl⟩:=he;rfl
       cases he
      cases he
     cases he
    cases he
   cases he
  ·first|(rename_i hq _ _;cases hq;done)|(rename_i hq _;cases hq;done)|(rename_i hq;cases hq;done)
  ·first|(rename_i hq _ _;cases hq;done)|(rename_i hq _;cases hq;done)|(rename_i hq;cases hq;done)
  cases he
 |call h1 h2=>cases h1;cases h2
 |mcall h1=>cases h1
 |icall h1=>cases h1
 |boxr h1=>cases h1
 |appM h1 h2 h3=>
  unfold Vc.appM at h3;split at h3
  ·split at h3
   ·simp only[qA,qC]at h3;obtain⟨_,rfl⟩:=h3;rfl
   cases h3
  cases h3
 |fcall h1 h2=>cases h1;cases h2
 |mapo h1=>simp[mapF]at h1
 |mkz h1=>cases h1
 |mkf h1=>cases h1
 |sto h1=>cases h1
theorem wr_ex{h:HP}:∀(d id:Nat) (es:List (List AV)) (s:List (Nat×Ent)),wr h d id es=some s→∃p y,s=[p]∧h p.1=some y:=by
 intro d
 induction d with
 |zero=>intro id es s hw;simp[wr]at hw
 |succ d ih=>
  intro id es s hw;unfold wr at hw;cases he:h id with
  |none=>simp[he]at hw
  |some e=>
   cases e with
   |mix=>simp[he]at hw;exact⟨_,_,hw.symm,he⟩
   |row=>simp[he]at hw;exact⟨_,_,hw.symm,he⟩
   |mapE=>simp[he]at hw
   |ali c i k sz=>
    simp only[he]at hw;cases hc:cont h d c with
    |none=>simp[hc]at hw
    |some p=>rw[hc]at hw;exact ih _ _ _ hw
theorem Q95{ty:TypeId}{a:Nat}{x:Operand}{ev:Operand→AV}{h:HP}{n j i k:Nat}{e:Eff}(hop:AOp P false (.store ty (.tmp a) x) ev h n e)(ha:ev (.tmp a)= .adr j i k):
  ∀p∈e.set,(∃y,h p.1=some y)∧(Qq (h j)=true→p.1=j∧Qq (some p.2)=true):=by
 cases hop with
 |sem h0=>cases h0
 |mpx h0=>first|(cases h0;done)|(simp[Q4P]at h0;done)
 |blt h1 h2=>
  simp only[opF,ha,Q3C]at h1;cases hty:tyi P ty with
  |none=>rw[hty]at h1;cases h1
  |some t=>
   rw[hty]at h1;have gen:∀(c0:Prop) y,h j=some y→Qq (some y)=false→(match cont h depth j with
     |some (sz,es)=>match ev x with
      | .val v=>if t.sz=1∧Q7b v=true then
        match wr h depth j (es.set i ((es.getD i []).set k (.val v)))with
        |some s=>some (i<es.length∧k<sz,({v:=.bot,set:=s}:Eff))
        |none=>none
       else none
      |_=>none
     |none=>none)=some (c0,e)→∀p∈e.set,(∃y,h p.1=some y)∧(Qq (h j)=true→p.1=j∧Qq (some p.2)=true):=by
    intro c0 y hy hm hq;split at hq
    ·split at hq
     ·split at hq
      ·split at hq
       ·rename_i s hs;simp only[qA,qC]at hq;obtain⟨_,rfl⟩:=hq;obtain⟨q,y',rfl,hq⟩:=wr_ex _ _ _ _ hs;intro p hp;simp only[zI]at hp;subst hp;exact⟨⟨_,hq⟩,λhm'=>by rw[hy,hm]at hm';cases hm'⟩
       cases hq
      cases hq
     cases hq
    cases hq
   cases hj:h j with
   |none=>simp[hj]at h1
   |some y=>
    cases y with
    |mix sz es=>
     simp only[hj]at h1;split at h1
     ·simp only[qA,qC]at h1;obtain⟨_,rfl⟩:=h1;intro p hp;simp only[zI]at hp;subst hp;exact⟨⟨_,hj⟩,λ_=>⟨rfl,rfl⟩⟩
     cases h1
    |row=>simp only[hj]at h1;rw[←hj];exact gen _ _ hj rfl h1
    |mapE=>simp only[hj]at h1;rw[←hj];exact gen _ _ hj rfl h1
    |ali=>simp only[hj]at h1;rw[←hj];exact gen _ _ hj rfl h1
 |call h1=>cases h1
 |mcall h1=>cases h1
 |icall h1=>cases h1
 |boxr h1=>cases h1
 |appM h1=>cases h1
 |fcall h1=>cases h1
 |mapo h1=>simp[mapF]at h1
 |mkz h1=>cases h1
 |mkf h1=>cases h1
 |sto h1 h2 h3 h4 h5=>
  cases h1;rw[ha]at h4;cases h4;intro p hp;simp only[zI]at hp;subst hp;have:=h5.ent;exact⟨⟨_,this⟩,λhm=>by rw[this]at hm;cases hm⟩
def kpV(rs:List Nat)(st st':St):Bool:=rs.all λs=>match st.get s with
 | .adr id 0 0=>Qq (look id st.h)&&Qq (look id st'.h)
 |_=>false
def kpS(rs:List Nat)(st st':St):AV→Bool
 | .adr j _ _=>(Qq (look j st.h)&&Qq (look j st'.h))&&rs.all λs=>match st.get s with
  | .adr id _ _=>j !=id
  |_=>false
 |_=>false
def isAdr:AV→Bool
 | .adr _ _ _=>true
 |_=>false
def kpO(rs:List Nat)(J:Nat)(ops:Array Oper)(st st':St)(k:Nat):Op→Bool
 | .store _ (.tmp a) _=>((zW ops.size).all λm=>decide (m<k)||(ops[m]?).bind (·.dst)!=some a)&&(isAdr (st'.get a)&&(decide (J<k)||kpS rs st st' (st'.get a)))
 |op=>isApp op||!wrM false op
def kpB(rs:List Nat)(J:Nat)(ops:Array Oper)(st st':St):Bool:=kpV rs st st'&&(zW ops.size).all λk=>match ops[k]? with
 |some o=>kpO rs J ops st st' k o.op
 |none=>true
def Tgt(rs:List Nat)(st st':St)(j:Nat):Prop:=Qq (st.hp j)=true∧Qq (st'.hp j)=true∧∀s∈rs,∀id,st.get s= .adr id 0 0→j≠id
structure Kp(rs:List Nat)(J:Nat)(ops:Array Oper)(st st':St):Prop where
 var:∀s∈rs,∃id,st.get s= .adr id 0 0∧Qq (st.hp id)=true∧Qq (st'.hp id)=true
 wr:∀k o,ops[k]? =some o→wrM false o.op=true→isApp o.op=true∨∃ty a x,o.op= .store ty (.tmp a) x∧(∀m,k≤m→m<ops.size→(ops[m]?).bind (·.dst)≠some a)∧∃j i' k',st'.get a= .adr j i' k'∧(k≤J→Tgt rs st st' j)
theorem kp_ok{rs:List Nat}{J:Nat}{ops:Array Oper}{st st':St}(h:kpB rs J ops st st'=true):Kp rs J ops st st':=by
 unfold kpB at h;simp only[qI]at h;obtain⟨h1,h2⟩:=h;refine⟨λs hs=>?_,λk o ho hw=>?_⟩
 ·have:=List.all_eq_true.1 h1 s hs;split at this
  ·rename_i id hg;simp only[qI]at this;exact⟨id,hg,this.1,this.2⟩
  cases this
 have hk:k<ops.size:=(Array.getElem?_eq_some_iff.1 ho).1;have:=List.all_eq_true.1 h2 k (List.mem_range.2 hk);rw[ho]at this;simp only at this;unfold kpO at this;split at this
 ·rename_i ty a x hop;simp only[qI,qX,yE,zN]at this;obtain⟨q1,q0,q2⟩:=this;refine .inr ⟨ty,a,x,hop,λm hm hms hc=>?_,?_⟩
  ·rcases q1 m hms with q|q
   ·have:=of_decide_eq_true q;omega
   simp[hc]at q
  unfold isAdr at q0;split at q0
  ·rename_i j i' k' hg;refine⟨j,i',k',hg,λhkJ=>?_⟩;rcases q2 with q2|q2
   ·have:=of_decide_eq_true q2;omega
   rw[hg]at q2;simp only[kpS,qI,qX]at q2;refine⟨q2.1.1,q2.1.2,λs hs id hid hc=>?_⟩;have:=q2.2 s hs;rw[hid]at this;simp[hc]at this
  cases q0
 simp only[zN,Bool.not_eq_true']at this;rcases this with q|q
 ·exact .inl q
 rw[hw]at q;cases q
theorem kp_set(T:Tr P false ops S E){rs:List Nat}{J:Nat}(hK:Kp rs J ops (S 0) (S ops.size)){m:Nat}(hm:m<ops.size):∀p∈(eff E m).set,(∃y,(S m).hp p.1=some y)∧(m≤J→∃j,Tgt rs (S 0) (S ops.size) j∧(Qq ((S m).hp j)=true→p.1=j∧Qq (some p.2)=true)):=by
 have hg:=zK hm;obtain⟨hf,hS,hnw,_⟩:=T.step hg;intro p hp;cases hw:wrM false (ops[m]).op with
 |false=>rw[(hnw hw).1]at hp;cases hp
 |true=>
  have hrun:=T.run m _ hg;cases hE:E m with
  |none=>simp[eff,hE]at hp
  |some e=>
   rw[hE]at hrun;have hop:=hrun.2.1;have heff:eff E m=e:=(by simp[eff,hE]);rw[heff]at hp;rcases hK.wr m _ hg hw with ha|⟨ty,a,x,ho,hd,j,i',k',hj,ht⟩
   ·rw[app_set hop ha]at hp;cases hp
   rw[ho]at hop;have hga:(S m).get a= .adr j i' k':=(by rw[←hj];exact(Q3M T ops.size (by omega) (qE _) λq h1 h2=>hd q h1 h2).symm);have:=Q95 hop (show(S m).ev (.tmp a)= .adr j i' k' from hga) p hp;exact⟨this.1,λhJ=>⟨j,ht hJ,this.2⟩⟩
theorem kp_gone(T:Tr P false ops S E){rs:List Nat}{J:Nat}(hK:Kp rs J ops (S 0) (S ops.size)){x m:Nat}(hx:x<(S m).n)(h0:(S m).hp x=none):∀k,m≤k→k≤ops.size→(S k).hp x=none:=by
 intro k
 induction k with
 |zero=>
  intro h _;have:m=0:=by omega
  subst this;exact h0
 |succ k ih=>
  intro h hk;rcases zM m (k+1)with h'|h'
  ·have hn:=ih (by omega) (by omega);have hg:=zK (show k<ops.size by omega);obtain⟨hf,hS,_⟩:=T.step hg;have hle:=T.nle (show m≤k by omega) (by omega);show look x (S (k+1)).h=none;rw[hS,Q2e _ _ hf];have h1:look x (eff E k).set=none:=by
    cases hq:look x (eff E k).set with
    |none=>rfl
    |some y=>
     obtain⟨⟨z,hz⟩,_⟩:=kp_set T hK (show k<ops.size by omega) _ (Qf hq);rw[hn]at hz;cases hz
   have h2:look x (eff E k).new=none:=by
    cases hq:look x (eff E k).new with
    |none=>rfl
    |some y=>have:=(hf.new _ (Qf hq)).1;simp only at this;omega
   simp only[happ,h1,hn,h2];simp
  have:m=k+1:=by omega
  subst this;exact h0
theorem kp_all(T:Tr P false ops S E){rs:List Nat}{J:Nat}(hK:Kp rs J ops (S 0) (S ops.size)):∀m,m≤ops.size→m≤J+1→(∀s∈rs,∀id,(S 0).get s= .adr id 0 0→(S m).hp id=(S 0).hp id)∧∀j,Tgt rs (S 0) (S ops.size) j→Qq ((S m).hp j)=true:=by
 intro m
 induction m with
 |zero=>intro _ _;exact⟨λ_ _ _ _=>rfl,λj hj=>hj.1⟩
 |succ m ih=>
  intro hm hmJ;obtain⟨i1,i2⟩:=ih (by omega) (by omega);have hg:=zK (show m<ops.size by omega);obtain⟨hf,hS,_⟩:=T.step hg;have hms:∀x,Qq ((S 0).hp x)=true→x<(S 0).n:=by
   intro x hx;cases hq:(S 0).hp x with
   |none=>rw[hq]at hx;cases hx
   |some y=>exact T.all 0 (by omega) _ _ hq
  have hnew:∀x,Qq ((S 0).hp x)=true→look x (eff E m).new=none:=by
   intro x hx0;have hlt':x<(S m).n:=qO (hms x hx0) (T.nle (zV _) (by omega));cases hq:look x (eff E m).new with
   |none=>rfl
   |some y=>have:=(hf.new _ (Qf hq)).1;simp only at this;omega
  have hdel:∀x,Qq ((S 0).hp x)=true→Qq ((S ops.size).hp x)=true→look x (eff E m).set=none→x∉(eff E m).del:=by
   intro x hx0 hx hl hc;have hlt:x<(S (m+1)).n:=qO (hms x hx0) (T.nle (zV _) hm);have hn:(S (m+1)).hp x=none:=by
    show look x (S (m+1)).h=none;rw[hS,Q2e _ _ hf];simp only[happ,hl,if_pos hc,hnew x hx0]
   rw[kp_gone T hK hlt hn ops.size hm (qE _)]at hx;cases hx
  have step:∀x,Qq ((S 0).hp x)=true→look x (eff E m).set=none→x∉(eff E m).del→(S (m+1)).hp x=(S m).hp x:=by
   intro x hx0 hl hd;show look x (S (m+1)).h=_;rw[hS,Q2e _ _ hf];simp only[happ,hl,if_neg hd,hnew x hx0];cases (S m).hp x<;>rfl
  refine⟨λs hs id hid=>?_,λj hj=>?_⟩
  ·obtain⟨id',q1,q2,q3⟩:=hK.var s hs;rw[hid]at q1;cases q1;have hl:look id (eff E m).set=none:=by
    cases hq:look id (eff E m).set with
    |none=>rfl
    |some y=>
     obtain⟨_,hh0⟩:=kp_set T hK (show m<ops.size by omega) _ (Qf hq);obtain⟨j,ht,hh⟩:=hh0 (by omega);exact absurd (hh (i2 j ht)).1.symm (ht.2.2 s hs id hid)
   rw[step id q2 hl (hdel id q2 q3 hl)];exact i1 s hs id hid
  cases hq:look j (eff E m).set with
  |none=>rw[step j hj.1 hq (hdel j hj.1 hj.2.1 hq)];exact i2 j hj
  |some y=>
   obtain⟨_,hh0⟩:=kp_set T hK (show m<ops.size by omega) _ (Qf hq);obtain⟨j',ht,hh⟩:=hh0 (by omega);have:=(hh (i2 j' ht)).2;show Qq (look j (S (m+1)).h)=true;rw[hS,Q2e _ _ hf];simp only[happ,hq];exact this
theorem kept_nil(ops:Array Oper)(i:Nat):Q4Q [] ops i=false:=by
 have h:∀l t,Q76 [] ops l t=false:=by
  intro l t;unfold Q76;split<;>simp
 unfold Q4Q;split
 ·simp[h]
 rfl
theorem Q6b{rs:List Nat}{i:Nat}{o:Oper}(hi:ops[i]? =some o)(h:Q4Q rs ops i=true):∃ty t,o.op= .load ty (.tmp t)∧((t∈rs∧Q8W ops t=true)∨∃l,l<i∧Q76 rs ops l t=true):=by
 unfold Q4Q at h;split at h
 ·rename_i d ty t t2 p af g ho;rw[hi]at ho;cases ho;simp only[zN,qI,List.any_eq_true,yE]at h;refine⟨ty,t,rfl,?_⟩;rcases h with h|⟨l,hl,h⟩
  ·exact .inl ⟨by simpa using h.1,h.2⟩
  exact .inr ⟨l,hl,h⟩
 cases h
theorem kept_adr(T:Tr P false ops S E){rs:List Nat}{J:Nat}(hK:Kp rs J ops (S 0) (S ops.size)){i:Nat}(his:i<ops.size){t:Nat}(h:(t∈rs∧Q8W ops t=true)∨∃l,l<i∧Q76 rs ops l t=true):∃s∈rs,∃id a b,(S 0).get s= .adr id 0 0∧(S i).get t= .adr id a b:=by
 rcases h with⟨ht,hd⟩|⟨l,hl,h⟩
 ·obtain⟨id,q1,_⟩:=hK.var t ht;exact⟨t,ht,id,0,0,q1,by rw[Q3M T i (zV _) (by omega) λq _ hq=>Q4i hd (by omega)];exact q1⟩
 unfold Q76 at h;split at h
 ·rename_i d ty1 r off ty2 pos af hol;simp only[qI,beq_iff_eq]at h;obtain⟨h1,h2,h3,h4⟩:=h;have h4:r∈rs:=by simpa using h4
  obtain⟨id,q1,_⟩:=hK.var r h4;obtain⟨e',hE,hop,hS⟩:=Q4X T hol rfl;have hr0:(S l).get r= .adr id 0 0:=by rw[Q3M T l (zV _) (by omega) λq _ hq=>Q4i h3 (by omega)];exact q1
  have hg:(S i).get t=e'.v:=by rw[Q3M T (a:=l+1) i (by omega) (by omega) λq hq1 hq2=>Q3i h2 (by omega) (by omega),hS,Q5g,if_pos h1]
  cases hop with
  |sem h0=>cases h0
  |mpx h0=>first|(cases h0;done)|(simp[Q4P]at h0;done)
  |blt p1 p2=>
   have hx:(S l).ev (.tmp r)= .adr id 0 0:=hr0;simp only[opF,hx]at p1;unfold fieldAddr at p1;split at p1
   ·rename_i hf hx0;cases hx0;simp only[qA,qC]at p1;rw[←p1.2]at hg;exact⟨r,h4,id,_,_,q1,hg⟩
   ·rename_i hx0;cases hx0
   cases p1
  |call h1=>cases h1
  |mcall h1=>cases h1
  |icall h1=>cases h1
  |boxr h1=>cases h1
  |appM h1=>cases h1
  |fcall h1=>cases h1
  |mapo h1=>simp[mapF]at h1
  |mkz h1=>cases h1
  |mkf h1=>cases h1
  |sto h1=>cases h1
 cases h
theorem kept_same(T:Tr P false ops S E){rs:List Nat}{J:Nat}(hK:Kp rs J ops (S 0) (S ops.size)){i m:Nat}{oi:Oper}(hi:ops[i]? =some oi)(hr:Q4Q rs ops i=true)(him:i≤m+1)(hmJ:m≤J)(hm:m+1≤ops.size){ev:Operand→AV}{e:Eff}(up:AOp P false oi.op ev (HS S E ops.size i) (S i).n e)(hev:∀t,(.tmp t:Operand)∈oi.op.operands→ev (.tmp t)=(S i).get t):
  AOp P false oi.op ev (HS S E ops.size (m+1)) (S i).n e∧∀p∈e.new,HS S E ops.size (m+1) p.1=some p.2:=by
 obtain⟨ty,t,ho,hsrc⟩:=Q6b hi hr;have his:=(Array.getElem?_eq_some_iff.1 hi).1;obtain⟨s,hs,id,a,b,q1,q4⟩:=kept_adr T hK his hsrc;obtain⟨id',q1',q2,q3⟩:=hK.var s hs;rw[q1]at q1';cases q1';rw[ho]at up hev⊢;have hevt:ev (.tmp t)= .adr id a b:=by rw[hev t (by simp[Op.operands])];exact q4
 obtain⟨sz,es,hmx⟩:∃sz es,(S 0).hp id=some (.mix sz es):=by
  cases hq:(S 0).hp id with
  |none=>rw[hq]at q2;cases q2
  |some y=>cases y with
   |mix sz es=>exact⟨sz,es,rfl⟩
   |row=>rw[hq]at q2;cases q2
   |mapE=>rw[hq]at q2;cases q2
   |ali=>rw[hq]at q2;cases q2
 have hH:∀k,k≤ops.size→k≤J+1→HS S E ops.size k id=some (.mix sz es):=by
  intro k hk hkJ;have h1:look id (S k).h=some (.mix sz es):=by
   have:=(kp_all T hK k hk hkJ).1 s hs id q1;rw[hmx]at this;exact this
  simp only[HS,h1]
 cases up with
 |sem h0=>cases h0
 |mpx h0=>first|(cases h0;done)|(simp[Q4P]at h0;done)
 |blt h1 h2=>
  simp only[opF]at h1;rw[hevt]at h1;cases hty:tyi P ty with
  |none=>rw[hty]at h1;cases h1
  |some tt=>
   rw[hty]at h1;simp only[Q3O,hH i (by omega) (by omega),qA,qC]at h1;obtain⟨hc,he⟩:=h1;subst he;refine⟨.blt (c:=a<es.length∧b+tt.sz≤sz) ?_ (by rw[hc];exact h2),λp hp=>by cases hp⟩;simp only[opF];rw[hevt,hty];simp only[Q3O,hH (m+1) hm (by omega)]
 |call h1=>cases h1
 |mcall h1=>cases h1
 |icall h1=>cases h1
 |boxr h1=>cases h1
 |appM h1=>cases h1
 |fcall h1=>cases h1
 |mapo h1=>simp[mapF]at h1
 |mkz h1=>cases h1
 |mkf h1=>cases h1
 |sto h1=>cases h1
def Mov(P:Program)(ops:Array Oper)(S:Nat→St)(E:Nat→Option Eff)(i m:Nat):Prop:=∀oi,ops[i]? =some oi→wrM false oi.op=false∧∀(ev:Operand→AV) (e:Eff),i≤m+1→m+1≤ops.size→
 AOp P false oi.op ev (S i).hp (S i).n e→e=eff E i→AOp P false oi.op ev (HS S E ops.size i) (S i).n e→(∀p∈e.new,HS S E ops.size i p.1=some p.2)→(∀t,(.tmp t:Operand)∈oi.op.operands→ev (.tmp t)=(S i).get t)→
 (∀k ok,i≤k→k≤m→ops[k]? =some ok→isMe ok.op=true→∀p∈e.new,(∀q∈(eff E k).set,q.1≠p.1)∧∀d∈(eff E k).del,d≠p.1)→
 AOp P false oi.op ev (HS S E ops.size (m+1)) (S i).n e∧∀p∈e.new,HS S E ops.size (m+1) p.1=some p.2
theorem mov_soft(T:Tr P false ops S E)(hD:SD ds (S 0))(hall:Q3k ds ops=true)(hS0:∀t id,t∉ds→Pts ((S 0).get t) id→¬Q3Y S ds id){i m:Nat}(hr:Q5z ds ops i=true):Mov P ops S E i m:=
 λoi hi=>⟨rootAt_wr hi hr,λev e him hm _ _ up nw hev _=>root_same T hD hall hS0 hi hr him hm up nw hev⟩
theorem mov_kept(T:Tr P false ops S E){rs:List Nat}{J:Nat}(hK:Kp rs J ops (S 0) (S ops.size)){i m:Nat}(hmJ:m≤J)(hr:Q4Q rs ops i=true):Mov P ops S E i m:=
 λoi hi=>⟨by obtain⟨ty,t,ho,_⟩:=Q6b hi hr;rw[ho];rfl,λev e him hm _ _ up nw hev _=>kept_same T hK hi hr him hmJ hm up hev⟩
theorem mix_keep(T:Tr P false ops S E)(hD:SD ds (S 0))(hall:Q3k ds ops=true){b id:Nat}(hb:Qq ((S b).hp id)=true):∀m,b≤m→m≤ops.size→Qq ((S m).hp id)=true:=by
 intro m
 induction m with
 |zero=>
  intro h _;have:b=0:=by omega
  subst this;exact hb
 |succ m ihm=>
  intro h1 h2;rcases zM b (m+1)with h|h
  ·have i2:=ihm (by omega) (by omega);have hg:=zK (show m<ops.size by omega);obtain⟨hf,hS,hnw,_⟩:=T.step hg;show Qq (look id (S (m+1)).h)=true;rw[hS,Q2e _ _ hf];have hh:Qq (happ (eff E m) (S m).hp id)=true:=by
    cases hw:wrM false (ops[m]).op with
    |false=>
     obtain⟨n1,n2⟩:=hnw hw;rw[QV n1 n2];exact i2
    |true=>
     have hsf:Q5C ds ops m=true:=by
      have:=List.all_eq_true.1 hall m (List.mem_range.2 (by omega));rw[hg]at this;simpa[hw]using this
     obtain⟨id',sz,es,e1,e2,_⟩:=Q86 T hD hall m (by omega) hsf;simp only[happ,e1,e2,look]
     by_cases hid:id'=id
     ·rw[if_pos hid];rfl
     rw[if_neg hid];simpa using i2
   cases hq:happ (eff E m) (S m).hp id with
   |none=>rw[hq]at hh;cases hh
   |some y=>rw[hq]at hh;exact hh
  have:b=m+1:=by omega
  subst this;exact hb
theorem Q8m{h h':HP}(hh:∀x,h' x=h x∨((∃kd es,h x=some (.mapE kd es))∧(h' x=none∨∃kd es,h' x=some (.mapE kd es)))):∀d id,cont h' d id=cont h d id:=by
 intro d
 induction d with
 |zero=>intro id;rfl
 |succ d ih=>
  intro id;rcases hh id with he|⟨⟨kd,es,h1⟩,h2⟩
  ·simp only[cont,he];cases hq:h id with
   |none=>rfl
   |some y=>
    cases y with
    |mix=>rfl
    |row=>rfl
    |mapE=>rfl
    |ali c i k sz=>
     simp only;have hx:Qq (h' c)=Qq (h c):=by
      rcases hh c with h1|⟨⟨kd,es,h1⟩,h2|⟨kd',es',h2⟩⟩
      ·rw[h1]
      ·rw[h1,h2];rfl
      rw[h1,h2];rfl
     rw[hx,ih c]
  rcases h2 with h2|⟨kd',es',h2⟩<;>simp only[cont,h1,h2]
theorem Qb8{h h':HP}(hh:∀x,h' x=h x∨((∃kd es,h x=some (.mapE kd es))∧(h' x=none∨∃kd es,h' x=some (.mapE kd es))))(ty:Option Tyi)(a:AV)(n:Nat):Q3O ty a h' n=Q3O ty a h n:=by
 unfold Q3O;split
 ·rename_i t id i k;rcases hh id with he|⟨⟨kd,es,h1⟩,h2⟩
  ·rw[he,Q8m hh]
  have hc:cont h depth id=none:=by
   cases hd:depth with
   |zero=>rfl
   |succ d=>simp only[cont,h1]
  rcases h2 with h2|⟨kd',es',h2⟩<;>simp only[h1,h2,Q8m hh,hc]
 ·rfl
 rfl
theorem mov_me(T:Tr P false ops S E){i m:Nat}(hm:meAt ops i m=true):Mov P ops S E i m:=λoi hi=>by
 have his:=(Array.getElem?_eq_some_iff.1 hi).1;unfold meAt at hm;rw[qI]at hm;obtain⟨hm1,hm3⟩:=hm;have hop:(∃ty x,oi.op= .load ty x)∨∃ty,oi.op= .makeMap ty none:=by
  rw[hi]at hm1;split at hm1
  ·rename_i h;cases h;exact .inl ⟨_,_,rfl⟩
  ·rename_i h;cases h;exact .inr ⟨_,rfl⟩
  cases hm1
 refine⟨by rcases hop with⟨ty,x,h⟩|⟨ty,h⟩<;>rw[h]<;>rfl,λev e him hms up0 hee up nw hev hne=>?_⟩;have hlast:∀k,i≤k→k≤m+1→(∀x,HS S E ops.size k x=HS S E ops.size i x∨((∃kd es,HS S E ops.size i x=some (.mapE kd es))∧(HS S E ops.size k x=none∨∃kd es,HS S E ops.size k x=some (.mapE kd es))))∧∀p∈e.new,HS S E ops.size k p.1=HS S E ops.size i p.1:=by
  intro k
  induction k with
  |zero=>
   intro h _;have:i=0:=by omega
   subst this;exact⟨λ_=>.inl rfl,λ_ _=>rfl⟩
  |succ k ih=>
   intro h1 h2;rcases zM i (k+1)with h|h
   ·obtain⟨i1,i2⟩:=ih (by omega) (by omega);have hg:=zK (show k<ops.size by omega);rw[Q5a T (by omega)];cases hw:wrM false (ops[k]).op with
    |false=>
     obtain⟨n1,n2⟩:=(T.step hg).2.2.1 hw;rw[QV n1 n2];exact⟨i1,i2⟩
    |true=>
     have hme:isMe (ops[k]).op=true:=by
      have:=List.all_eq_true.1 hm3 k (List.mem_range.2 (by omega));rw[hg]at this;simp only[yB,zL,hw,Bool.not_true,Bool.or_false,zN,decide_eq_true_eq]at this;exact this.resolve_left (by omega)
     have hrun:=T.run k _ hg;cases hE:E k with
     |none=>
      have:eff E k={v:=.tup []}:=(by simp[eff,hE]);rw[this,QV rfl rfl];exact⟨i1,i2⟩
     |some e'=>
      rw[hE]at hrun;obtain⟨_,hop',_⟩:=hrun;obtain⟨⟨id,kd,es,kd',es',r1,r2,r3⟩,r4⟩:=hop'.me hme rfl;have he:eff E k=e':=(by simp[eff,hE]);have hne':=hne k _ (by omega) (by omega) hg hme;rw[he]at hne'⊢;have hS:∀y kd es,(S k).hp y=some (.mapE kd es)→∃kd es,HS S E ops.size i y=some (.mapE kd es):=by
       intro y kd es hy;have hy':look y (S k).h=some (.mapE kd es):=hy;have hk:HS S E ops.size k y=some (.mapE kd es):=(by simp only[HS,hy']);rcases i1 y with q|⟨q,_⟩
       ·exact⟨kd,es,by rw[←q];exact hk⟩
       exact q
      refine⟨λy=>?_,λp hp=>?_⟩
      ·simp only[happ,r3,look]
       by_cases hyi:id=y
       ·subst hyi;rw[if_pos rfl];exact .inr ⟨hS id _ _ r2,.inr ⟨_,_,rfl⟩⟩
       rw[if_neg hyi];simp only
       by_cases hyd:y∈e'.del
       ·rw[if_pos hyd];obtain⟨_,kd2,es2,s2⟩:=r4 y hyd;exact .inr ⟨hS y _ _ s2,.inl rfl⟩
       rw[if_neg hyd];exact i1 y
      obtain⟨p1,p2⟩:=hne' p hp;simp only[happ,r3,look];rw[if_neg (show¬id=p.1 from p1 (id,.mapE kd' es') (by rw[r3];simp))];simp only;rw[if_neg (λhd=>p2 _ hd rfl)];exact i2 p hp
   have:i=k+1:=(by omega);subst this;exact⟨λ_=>.inl rfl,λ_ _=>rfl⟩
 replace hlast:=hlast (m+1) him (qE _);have hnew:∀p∈e.new,HS S E ops.size (m+1) p.1=some p.2:=λp hp=>by
  rw[hlast.2 p hp];exact nw p hp
 rcases hop with⟨ty,x,ho⟩|⟨ty,ho⟩
 ·rw[ho]at up⊢;obtain⟨c,hc1,hc2⟩:=up.plain rfl;refine⟨.blt (c:=c) ?_ hc2,hnew⟩;simp only[opF]at hc1⊢;rw[Qb8 hlast.1];exact hc1
 rw[ho]at up⊢;exact⟨up.mk _,hnew⟩
theorem late_eff(T:Tr P false ops S E)(hD:SD ds (S 0))(hall:Q3k ds ops=true){i k:Nat}(hk:k<ops.size)(hl:lateW ops i k=true):(∀p∈(eff E k).set,(S (i+1)).n≤p.1)∧(eff E k).del=[]:=by
 have hl2:=hl;unfold lateW at hl;split at hl
 ·rename_i d ty s x ty2 pos af ho;obtain⟨a,ha,hal⟩:=List.any_eq_true.1 hl;have ha:=List.mem_range.1 ha;simp only[qI,decide_eq_true_eq]at hal;obtain⟨a1,a2,a3,a4⟩:=Qa3 T hal.2;have hsf:Q5C ds ops k=true:=by
   have:=List.all_eq_true.1 hall k (List.mem_range.2 hk);rw[ho]at this;simpa[wrM,Q1x]using this
  obtain⟨id,sz,es,e1,e2,_⟩:=Q86 T hD hall k hk hsf;obtain⟨e,hE,hop,hS⟩:=Q4X T ho rfl;have heff:eff E k=e:=by simp[eff,hE]
  have hg:(S k).get s= .adr (S a).n 0 0:=by
   rw[Q3M T (a:=a+1) k (by omega) (by omega) λm h1 h2=>Q3i a2 (by omega) (by omega)];exact a3
  have hm:=mix_keep T hD hall a4 k (by omega) (by omega);refine⟨λp hp=>?_,e2⟩;rw[heff]at hp;have:=((Q95 hop (show(S k).ev (.tmp s)=_ from hg)) p hp).2 hm;rw[this.1];exact T.nle (by omega) (by omega)
 cases hl
theorem mov_late(T:Tr P false ops S E)(hD:SD ds (S 0))(hall:Q3k ds ops=true){i m:Nat}(hl:Q8H ops i=true):Mov P ops S E i m:=λoi hi=>by
 have his:=(Array.getElem?_eq_some_iff.1 hi).1;unfold Q8H at hl;rw[qI]at hl;obtain⟨hl1,hl2⟩:=hl;have hw:wrM false oi.op=false:=by
  rw[hi]at hl1;simpa using hl1
 refine⟨hw,λev e him hm up0 hee up nw hev _=>?_⟩;obtain⟨n1,n2⟩:=(T.step hi).2.2.1 hw;have h0:HS S E ops.size (i+1)=HS S E ops.size i:=by rw[Q5a T his,QV n1 n2]
 have key:∀q,i+1≤q→q≤ops.size→∀id,id<(S (i+1)).n→HS S E ops.size q id=HS S E ops.size (i+1) id:=by
  intro q
  induction q with
  |zero=>intro h;omega
  |succ q ih=>
   intro h1 h2 id hid;rcases zM (i+1) (q+1)with h|h
   ·rw[←ih (by omega) (by omega) id hid,Q5a T (by omega)];have hg:=zK (show q<ops.size by omega);cases hwq:wrM false (ops[q]).op with
    |false=>
     obtain⟨g1,g2⟩:=(T.step hg).2.2.1 hwq;rw[QV g1 g2]
    |true=>
     have hlw:lateW ops i q=true:=by
      have:=List.all_eq_true.1 hl2 q (List.mem_range.2 (by omega));rw[hg]at this;simp only[yB,zL,hwq,Bool.not_true,Bool.or_false,zN,decide_eq_true_eq]at this;exact this.resolve_left (by omega)
     obtain⟨g1,g2⟩:=late_eff T hD hall (by omega) hlw;simp only[happ,g2];have:look id (eff E q).set=none:=by
      cases hq:look id (eff E q).set with
      |none=>rfl
      |some y=>
       obtain⟨p,hp,hpe⟩:=List.mem_map.1 (Q2Z hq);have:=g1 p hp;omega
     rw[this];simp
   have:i=q:=(by omega);subst this;rfl
 have all:∀id,id<(S (i+1)).n→HS S E ops.size (m+1) id=HS S E ops.size i id:=by
  intro id hid;rcases zM i (m+1)with h|h
  ·rw[key (m+1) (by omega) hm id hid,h0]
  have:i=m+1:=by omega
  rw[this]
 have hle:=T.nle (show i≤i+1 by omega) (by omega);have hok:=T.all i (by omega);refine⟨up0.up (λid x hid=>?_) λid hid=>?_,λp hp=>?_⟩
 ·have hid':look id (S i).h=some x:=hid;have:=hok _ _ hid';rw[all id (by omega)];simp only[HS,hid']
 ·rw[all id (by omega)];simp only[HS,St.hp];cases hh:look id (S i).h with
  |some x=>rfl
  |none=>
   cases hl:look id (Q2Y E i (ops.size - i))with
   |none=>rfl
   |some x=>
    obtain⟨p,hp,hpe⟩:=List.mem_map.1 (Q2Z hl);have:=(Q4R T (ops.size - i) i (by omega) p hp).1;omega
 have hfe:e.fine (S i).n:=by rw[hee];exact(T.step hi).1
 have hlt:=(hfe.new p hp).2;have hn:=T.n his;rw[all p.1 (by rw[hn,←hee];exact hlt)];exact nw p hp
theorem hU_last(L:Nat→Bool):∀n,(∃k,k<n∧L k=true∧isW false ops k=true)→∃m,m<n∧hU false ops S E L n=HS S E ops.size (m+1)∧(∀k,m<k→k<n→L k=true→isW false ops k=false)∧L m=true∧isW false ops m=true:=by
 intro n
 induction n with
 |zero=>rintro ⟨k,hk,_⟩;omega
 |succ n ih=>
  rintro ⟨k,hk,h1,h2⟩
  by_cases hn:L n=true∧isW false ops n=true
  ·refine⟨n,by omega,?_,(λq h3 h4=>by omega),hn.1,hn.2⟩;simp only[hU];rw[if_pos (by simpa[isW]using hn)]
  have hkn:k<n:=by
   rcases zM k n with h|h
   ·exact h
   have:k=n:=(by omega);subst this;exact absurd ⟨h1,h2⟩ hn
  obtain⟨m,m1,m2,m3,m4,m5⟩:=ih ⟨k,hkn,h1,h2⟩;refine⟨m,by omega,?_,λq h3 h4 h5=>?_,m4,m5⟩
  ·simp only[hU];rw[if_neg (by simpa[isW]using hn)];exact m2
  by_cases hq:q=n
  ·subst hq;cases hw:isW false ops q with
   |false=>rfl
   |true=>exact absurd ⟨h5,hw⟩ hn
  exact m3 q h3 (by omega) h5
theorem mid_stepS(T:Tr P false ops S E)(hN:∀o∈ops.toList,∀d,o.dst=some d→d<N){L:Nat→Bool}{i:Nat}{oi:Oper}(hi:ops[i]? =some oi)(hL:L i=false)(hA:∀k o,k<i→ops[k]? =some o→Q4w false ops o oi=true→L k=true∨(Mov P ops S E k i∧Q4r ops o oi=false))(hB:∀k o,i<k→ops[k]? =some o→L k=true→Q4r ops oi o=false∧(Q5s oi o=true→Mov P ops S E i k)){a:Act}{w:World}(M:Mid false C R N ops S E w0 L a w){K:Act→World→Prop}(hK:∀R' a' w',RX R R' C.w0.heap.size→Mid false C R' N ops S E w0 (upL L i) a' w'→K a' w'):wpOp P ops i K a w:=by
 classical
 have hin:i<ops.size:=(Array.getElem?_eq_some_iff.1 hi).1;obtain⟨o,ρ,W,H,hx,hρ,hpin⟩:=M.ex;obtain⟨hf,hS,hnw,hnt⟩:=T.step hi;have hd:(ops[i]?).bind (·.dst)=oi.dst:=by rw[hi];rfl
 have hslot:∀t,t∈Q4W ops oi→envU ops S E L ops.size t=(S i).get t:=by
  intro t ht;rw[Q8s L t i ops.size (by omega) λk hk1 hk2 hk3=>?_]
  ·refine Q9o T L t i (by omega) λk hk1 hk2=>?_;have hk:k<ops.size:=(by omega);rw[zK hk]at hk2;have hk2:(ops[k]).dst=some t:=hk2;have hcs:Q4r ops ops[k] oi=true:=by
    simp only[Q4r,hk2,zN];left;left;simpa using ht
   rcases hA k _ hk1 (zK hk) (by rw[Qaa,hcs];rfl)with h|h
   ·exact h
   rw[hcs]at h;cases h.2
  intro hdk
  by_cases hki:k=i
  ·subst hki;rw[hL]at hk3;cases hk3
  have hk:k<ops.size:=hk2;have h1:=hB k _ (by omega) (zK hk) hk3;rw[zK hk]at hdk;exact(Q71 h1.1).2 t hdk ht
 have hown:∀t,envU ops S E (upL L i) ops.size t=if oi.dst=some t then(eff E i).v else envU ops S E L ops.size t:=by
  intro t;rw[Qah hL t ops.size λk h1 h2 h3=>?_,hd]
  ·by_cases hdt:oi.dst=some t
   ·rw[if_pos ⟨hin,hdt⟩,if_pos hdt]
   rw[if_neg (λh=>hdt h.2),if_neg hdt]
  cases hdi:oi.dst with
  |none=>right;rw[hd,hdi]
  |some d=>
   left;rw[hd,hdi,zK h2];have h4:=hB k _ h1 (zK h2) h3;exact((Q71 h4.1).1 d hdi).2
 have hdN:∀x,oi.dst=some x→x<a.tmps.size:=λx hx=>by
  rw[M.size];exact hN oi (by rw[←Array.getElem?_toList]at hi;exact List.mem_of_getElem? hi) x hx
 have hW:isW false ops i=true→(∀k,k<i→isW false ops k=true→L k=true)∧∀k,i<k→k<ops.size→L k=true→isW false ops k=false:=by
  intro hw;have hwi:wrM false oi.op=true:=by simpa[isW,hi]using hw
  have htw:∀x:Op,wrM false x=true→Q1Z x=true:=by
   intro x hx;cases x with
   |call cl=>
    obtain⟨ce,args,ts⟩:=cl;cases ce with
    |builtin b=>cases b<;>simp_all[wrM,Q48,roC,Q49,Q1x,Q1Z]
    |value=>rfl
    |invoke=>simp[wrM,Q48,roC,Q49,Q1x]at hx
   |_=>first|rfl|(simp[wrM,Q48,roC,Q49,Q1x]at hx;done)
  refine⟨λk hk hwk=>?_,λk hk hk2 hLk=>?_⟩
  ·have hks:k<ops.size:=(by omega);have hg:=zK hks;have hwk':wrM false (ops[k]).op=true:=(by simpa[isW,hg]using hwk);rcases hA k _ hk hg (by simp only[Q4w,zN,qI];left;right;exact⟨hwk',(tch0 _).trans (htw _ hwi)⟩)with h|h
   ·exact h
   have:=(h.1 _ hg).1;rw[hwk']at this;cases this
  have hg:=zK hk2;have h1:=hB k _ hk hg hLk;cases hwk:isW false ops k with
  |false=>rfl
  |true=>
   have hwk':wrM false (ops[k]).op=true:=(by simpa[isW,hg]using hwk);have h2:=h1.2 (by simp only[Q5s,hwi,htw _ hwk',Bool.and_self,Bool.true_or]);have:=(h2 _ hi).1;rw[hwi]at this;cases this
 have hcl:∀k k':Nat,k<k'→k'<ops.size→isW false ops k=true→isW false ops k'=true→upL L i k'=true→upL L i k=true:=by
  intro k k' h1 h2 h3 h4 h5;simp only[upL]at h5⊢
  by_cases hk:k=i
  ·rw[if_pos hk]
  rw[if_neg hk]
  by_cases hk':k'=i
  ·exact(hW (by rw[←hk'];exact h4)).1 k (by omega) h3
  rw[if_neg hk']at h5;exact M.cl k k' h1 h2 h3 h4 h5
 have hme:MT.on false=false→∀(k:Nat) (o:Oper),ops[k]? =some o→isMe o.op=true→upL L i k=true→(∀p∈(eff E k).set,Giv ops S (upL L i) p.1)∧∀d∈(eff E k).del,Giv ops S (upL L i) d:=by
  intro hmt k o2 hk hm hLk;have up:∀{q:Nat},Giv ops S L q→Giv ops S (upL L i) q:=by
   rintro q (h|⟨j,j1,j2,j3⟩)
   ·exact .inl h
   exact .inr ⟨j,j1,by simp only[upL];split<;>simp_all,j3⟩
  by_cases hki:k=i
  ·subst hki;rw[hi]at hk;cases hk;have hrun:=T.run k oi hi;cases hE:E k with
   |none=>simp[eff,hE]
   |some e=>
    rw[hE]at hrun;obtain⟨_,hop,_⟩:=hrun;obtain⟨⟨id,kd,es,kd',es',r1,r2,r3⟩,r4⟩:=hop.me hm hmt;have he:eff E k=e:=(by simp[eff,hE]);have giv:∀id,(∃x∈oi.op.operands,(S k).ev x= .mp id)→Giv ops S (upL L k) id:=by
     rintro id ⟨x,x1,x2⟩
     cases x with
     |tmp t1=>
      have h1:=hx t1;rw[hslot t1 (Q52 x1),show(S k).get t1= .mp id from x2]at h1;obtain⟨b,_,hb⟩:∃b,a.tmps.getD t1 undef= .map (some b)∧ρ id=some ⟨some b,0,0⟩:=by
       generalize a.tmps.getD t1 undef=vv at h1;cases h1 with
       |r h=>cases h
       |mp h=>exact⟨_,rfl,h⟩
      exact up (hρ id _ hb)
     |const v=>simp only[St.ev,cst]at x2;split at x2<;>cases x2
     |global=>cases x2
     |func f=>cases x2
    rw[he];refine⟨λp hp=>?_,λd hd=>giv d (r4 d hd).1⟩;rw[r3]at hp;simp only[zI]at hp;subst hp;exact giv id r1
  have hLk':L k=true:=by simpa[upL,hki]using hLk
  obtain⟨g1,g2⟩:=M.me hmt k o2 hk hm hLk';exact⟨λp hp=>up (g1 p hp),λd hd=>up (g2 d hd)⟩
 have fin:∀v w' R' o' ρ',RX R R' C.w0.heap.size→WF C w' ⟨R',o',ρ'⟩→HRel w' ⟨R',o',ρ'⟩ (hU false ops S E (upL L i) ops.size)→(∀id k,ρ id=some k→ρ' id=some k)→(∀id k,ρ' id=some k→ρ id=some k∨((S i).n≤id∧id<(S i).n+(eff E i).cnt))→
   XRel w' R' ρ' v (eff E i).v→(∀b,R b→w'.heap[b]? =w.heap[b]?)→K (a.put oi.dst v) w':=by
  intro v w' R' o' ρ' hX W' H' h1 h2 hv h3;refine hK R' _ _ hX ⟨by rw[QaG];exact M.size,by rw[←M.defers];cases oi.dst<;>rfl,⟨o',ρ',W',H',λt=>?_,λid k hk=>?_,λid hid=>?_,hpin.2⟩,λhmt=>hme hmt,hcl⟩
  ·rw[put_get a oi.dst v t hdN,hown];split
   ·exact hv
   exact(hx t).mono (λb hb=>⟨hX.1 b hb,h3 b hb⟩) h1
  ·rcases h2 id k hk with h4|h4
   ·rcases hρ id k h4 with h5|⟨j,hj,hLj,h5⟩
    ·exact .inl h5
    exact .inr ⟨j,hj,by simp only[upL];split<;>simp_all,h5⟩
   exact .inr ⟨i,hin,by simp[upL],h4.1,by rw[T.n hin];exact h4.2⟩
  rw[←hpin.1 id hid];cases hr:ρ id with
  |some k=>exact h1 id k hr
  |none=>
   cases hr':ρ' id with
   |none=>rfl
   |some k=>
    exfalso;rcases h2 id k hr' with h4|h4
    ·rw[hr]at h4;cases h4
    have:=T.nle (show 0≤i by omega) (by omega);have:=hpin.2;omega
 have hhU:=hU_upL T hin hL hW;have hguard:∀b,Q3p ops oi (S i)=some b→Region.wanted oi (yielded ops a.tmps)=b:=by
  intro b hb;unfold Q3p at hb;unfold Region.wanted;split at hb
  ·rename_i hg;rw[hg];simpa using hb
  rename_i j want hg;rw[hg];split at hb
  ·rename_i t ht;split at hb
   ·rename_i bb hbb;have h1:=hx t;rw[hslot t (Q3N hg ht),hbb]at h1;have h2:=h1.val_eq.1;have h3:a.tmps[t]? =some (.bool bb):=by
     cases hh:a.tmps[t]? with
     |none=>simp[hh,undef]at h2
     |some x=>simp[hh]at h2;rw[h2]
    simp only[yielded,ht,Option.bind_some,h3];simp only[qA]at hb;rw[←hb];cases bb<;>cases want<;>rfl
   ·rename_i htt;have h1:=hx t;rw[hslot t (Q3N hg ht),htt]at h1;obtain⟨cs,h2,h3,_⟩:=h1.tup_eq;have h4:cs=#[]:=(by simpa using h3);subst h4;simp only[qA]at hb;rw[←hb];have h5:a.tmps[t]? =none∨a.tmps[t]? =some (.tuple #[]):=by
     cases hh:a.tmps[t]? with
     |none=>exact .inl rfl
     |some x=>simp[hh]at h2;rw[h2];exact .inr rfl
    rcases h5 with h5|h5<;>simp[yielded,ht,h5]
   cases hb
  cases hb
 have hrun:=T.run i oi hi;unfold wpOp;rw[hi];simp only;cases hE:E i with
 |none=>
  rw[hE]at hrun;rw[hguard false hrun.1];simp only[Bool.false_eq_true,if_false];have heff:eff E i={v:=.tup []}:=by simp[eff,hE]
  refine fin undef w R o ρ .refl W ?_ (λ_ _ h=>h) (λ_ _ h=>.inl h) (by rw[heff];exact .tup rfl λk hk=>by simp at hk) (λ_ _=>rfl);rw[hhU,heff];cases isW false ops i<;>simpa[QV]using H
 |some e=>
  rw[hE]at hrun;obtain⟨hwant,hop,_⟩:=hrun;have heff:eff E i=e:=by simp[eff,hE]
  rw[hguard true hwant];simp only[if_true]
  let ev:Operand→AV:=λx=>if x∈oi.op.operands then(S i).ev x else .bot
  have hev:∀x,XRel w R ρ (a.eval x) (ev x):=by
   intro x;simp only[ev];split
   ·rename_i hmem;cases x with
    |tmp t=>
     have:=hx t;rw[hslot t (Q52 hmem)]at this;exact this
    |const v=>
     simp only[St.ev,cst,Act.eval];split
     ·rename_i hsc;exact .r (.val (Q8Z hsc))
     exact .bot
    |global=>exact .bot
    |func f=>exact .fn (by simp) (λk hk=>by simp at hk)
   exact .bot
  have hop1:AOp P false oi.op ev (S i).hp (S i).n e:=hop.congr λx hx=>by simp only[ev];rw[if_pos hx]
  have hop2:AOp P false oi.op ev (hU false ops S E L ops.size) (S i).n e∧(∀p∈e.new,hU false ops S E L ops.size p.1=some p.2):=by
   cases ht:Q1Z oi.op with
   |false=>
    have hc:=hop1.calm ht;exact⟨hc.2 _,by rw[hc.1.2.2.1];simp⟩
   |true=>
    have hok:=T.all i (by omega);have up:AOp P false oi.op ev (HS S E ops.size i) (S i).n e:=by
     refine hop1.up (λid x hid=>?_) λid hid=>?_
     ·have hid':look id (S i).h=some x:=hid;simp only[HS,hid']
     simp only[HS,St.hp];cases hh:look id (S i).h with
     |some x=>rfl
     |none=>
      cases hl:look id (Q2Y E i (ops.size - i))with
      |none=>rfl
      |some x=>
       obtain⟨p,hp,hpe⟩:=List.mem_map.1 (Q2Z hl);have:=(Q4R T (ops.size - i) i (by omega) p hp).1;omega
    have nw:∀p∈e.new,HS S E ops.size i p.1=some p.2:=by
     intro p hp;have hfe:e.fine (S i).n:=(by rw[←heff];exact hf);have hlt:=(hfe.new p hp).1;have hnone:look p.1 (S i).h=none:=by
      cases hh:look p.1 (S i).h with
      |none=>rfl
      |some x=>have:=hok _ _ hh;omega
     simp only[HS,hnone];have hlat:Q2Y E i (ops.size - i)=(eff E i).new++Q2Y E (i+1) (ops.size - (i+1)):=by
      rw[show ops.size - i=(ops.size - (i+1))+1 by omega];rfl
     rw[hlat,Q2s,heff,Q18 hfe.nodup hp]
    by_cases hlate:∃k,i<k∧k<ops.size∧L k=true∧isW false ops k=true
    ·obtain⟨k1,hk1,hk2,hk3,hk4⟩:=hlate;have hg1:=zK hk2;have hwk1:wrM false (ops[k1]).op=true:=(by simpa[isW,hg1]using hk4);obtain⟨m,hm1,hm2,hm3,hm4,hm5⟩:=hU_last (S:=S) (E:=E) L ops.size ⟨k1,hk2,hk3,hk4⟩;have him:i≤m:=by
      rcases zM m i with h|h
      ·have:=hm3 k1 (by omega) hk2 hk3;rw[this]at hk4;cases hk4
      exact h
     rw[hm2];have hne:i≠m:=λq=>by rw[q,hm4]at hL;cases hL
     have hgm:=zK hm1;have hwm:wrM false (ops[m]).op=true:=(by simpa[isW,hgm]using hm5);have hr:=(hB m _ (by omega) hgm hm4).2 (by simp only[Q5s,ht,hwm,Bool.and_self,Bool.or_true]);exact(hr _ hi).2 ev e (by omega) (by omega) hop1 heff.symm up nw (λt ht=>by simp only[ev];rw[if_pos ht];rfl) λk ok hk1 hk2 hok' hme' p hp=>by
      have hfe:e.fine (S i).n:=(by rw[←heff];exact hf);have h1:=hfe.new p hp;have hni:=T.n hin;rw[heff]at hni;have hwk:isW false ops k=true:=by
       simp only[isW,hok',yB,zL]
       revert hme'
       cases ok.op<;>simp[isMe,wrM,Q1x]
      have hLk:L k=true:=by
       rcases zM k m with hkm|hkm
       ·exact M.cl k m hkm hm1 hwk hm5 hm4
       have:k=m:=(by omega);subst this;exact hm4
      have giv:∀q,Giv ops S L q→q≠p.1:=by
       rintro q (h2|⟨j,j1,j2,j3,j4⟩) hqp
       ·have:=T.nle (show 0≤i by omega) (by omega);omega
       rcases yC j i with hji|hji|hji
       ·have:=T.nle (show j+1≤i by omega) (by omega);omega
       ·subst hji;rw[hL]at j2;cases j2
       have:=T.nle (show i+1≤j by omega) (by omega);omega
      obtain⟨g1,g2⟩:=M.me rfl k ok hok' hme' hLk;exact⟨λq hq=>giv q.1 (g1 q hq),λd hd=>giv d (g2 d hd)⟩
    have e1:hU false ops S E L ops.size=HS S E ops.size i:=by
     rw[Q66 L i ops.size (by omega) λk hk1 hk2 hk3=>?_]
     ·refine hU_at T L i (by omega) λk hk hwk=>?_;have hks:k<ops.size:=(by omega);have hg:=zK hks;have hwk':wrM false (ops[k]).op=true:=(by simpa[isW,hg]using hwk);rcases hA k _ hk hg (by simp only[Q4w,zN,qI];left;right;exact⟨hwk',(tch0 _).trans ht⟩)with h|h
      ·exact h
      have:=(h.1 _ hg).1;rw[hwk']at this;cases this
     by_cases hki:k=i
     ·subst hki;rw[hL]at hk3;cases hk3
     cases hwk:isW false ops k with
     |false=>rfl
     |true=>exact absurd ⟨k,by omega,hk2,hk3,hwk⟩ hlate
    rw[e1];exact⟨up,nw⟩
  have hfr:∀id,(S i).n≤id→id<(S i).n+e.cnt→ρ id=none:=by
   intro id h1 h2;cases hh:ρ id with
   |none=>rfl
   |some k=>
    have hni:=T.n hin;rw[heff]at hni;rcases hρ id k hh with h3|⟨j,hj,hLj,h3,h4⟩
    ·have:=T.nle (show 0≤i by omega) (by omega);omega
    rcases yC j i with hji|hji|hji
    ·have:=T.nle (show j+1≤i by omega) (by omega);omega
    ·subst hji;rw[hL]at hLj;cases hLj
    have:=T.nle (show i+1≤j by omega) (by omega);omega
  have hlim:wrM false oi.op=true→∀id k,ρ id=some k→id<(S i).n:=by
   intro hw id k hk;rcases hρ id k hk with h3|⟨j,hj,hLj,h3,h4⟩
   ·exact qO h3 (T.nle (by omega) (by omega))
   rcases yC j i with hji|hji|hji
   ·have:=T.nle (show j+1≤i by omega) (by omega);omega
   ·subst hji;rw[hL]at hLj;cases hLj
   have hg:=zK hj;have h5:Q1Z (ops[j]).op=false:=by
    cases h:Q1Z (ops[j]).op with
    |false=>rfl
    |true=>
     have h2:=(hB j _ hji hg hLj).2 (by simp only[Q5s,hw,h,Bool.and_self,Bool.true_or]);have:=(h2 _ hi).1;rw[hw]at this;cases this
   have h6:=(T.step hg).2.2.2 ((tch0 _).trans h5);have:=T.n hj;rw[h6.2.2.2]at this;omega
  have hstep:=hop2.1.step (λh=>hlim (lim_wr h)) hev W H hop2.2 hfr;refine hstep K (λ_ _ _=>True) λv w' R' o' ρ' hX W' H' h1 h2 hv h3=>?_;have hv':XRel w' R' ρ' v (eff E i).v:=by rw[heff];exact hv
  refine fin v w' R' o' ρ' hX W' ?_ h1 (by rw[heff];exact h2) hv' h3;rw[hhU,heff];cases hw:isW false ops i with
  |true=>exact H'
  |false=>
   have hwf:wrM false oi.op=false:=(by simpa[isW,hi]using hw);have:=hnw hwf;rw[heff]at this;rw[QV this.1 this.2]at H';rw[cond_false,QV rfl rfl];exact H'
theorem Q3Q(T:Tr P false ops S E)(hN:okN N ops=true){rs:List Nat}(hD:SD ds (S 0)){J:Nat}(hK:rs≠[]→Kp rs J ops (S 0) (S ops.size))(hreg:Q6n ds rs J ops=true)(hback:Q2g ops=true)(hm:P.follows .mixedOrders=true){id:Nat}{Q:Exit→Act→World→Prop}{a:Act}{w:World}(h:Rel C R N a w (S 0))(hQ:∀R' a' w',RX R R' C.w0.heap.size→Rel C R' N a' w' (S ops.size)→Q .normal a' w'):(Code.region id ops true).wpT P Q a w:=by
 have hS0:∀t id,t∉ds→Pts ((S 0).get t) id→¬Q3Y S ds id:=by
  intro t id hn ht hs;generalize hg:(S 0).get t=v0 at ht;rcases hs with hs|⟨s,hs,hc⟩
  case inr=>cases ht with
   |adr=>exact hD.sep t id _ _ hn hg s hs hc
   |own=>exact hD.sepO t id _ _ hn hg s hs hc
  refine absurd hs (Nat.not_le.2 ?_);obtain⟨_,_,_,o,ρ,_,_,hx,hρ,_⟩:=h;have:=hx t;rw[hg]at this;cases ht with
  |adr=>
   obtain⟨b,bsz,cap,hb,_⟩:=this.adr_eq;exact hρ id _ hb
  |own=>
   rcases this.own_eq with⟨s0,c0,hb,_⟩|⟨b,bsz,cap,cc,x0,hb,_⟩
   ·exact hρ id _ hb
   exact hρ id _ hb
 have mv:∀i j,((Q4Q rs ops i=true∧j≤J)∨meAt ops i j=true∨(Q3k ds ops=true∧(Q5z ds ops i=true∨Q8H ops i=true)))→Mov P ops S E i j:=λi j hi=>hi.elim (λh=>mov_kept T (hK (by rintro rfl;rw[kept_nil]at h;cases h.1)) h.2 h.1) λhi=>hi.elim (λh=>mov_me T h) λh=>h.2.elim (λq=>mov_soft T hD h.1 hS0 q) λq=>mov_late T hD h.1 q;refine wp_region_any hm λwr hrl=>?_;have key:∀(fuel:Nat) (listed:Array Bool) (R':Nat→Prop) (a:Act) (w':World),RX R R' C.w0.heap.size→listed.size=ops.size→left (λk=>listed.getD k false) ops.size≤fuel→
   (∀j,listed.getD j false=true→∀i,((Q4b ops.toList []).getD j 0).testBit i=true→listed.getD i false=true)→Mid false C R' N ops S E wr.drew (λk=>listed.getD k false) a w'→wpAny P .any ops Q fuel listed a w':=by
  intro fuel
  induction fuel with
  |zero=>
   intro listed R' a w' hX hsz hleft hanc M;have hall:=Q8M _ (show left (λk=>listed.getD k false) ops.size=0 by omega);refine⟨?_,hQ _ _ _ hX (Q6g T M hall)⟩;cases hr:Region.ready .any ops listed with
   |nil=>rfl
   |cons x xs=>
    have hx:x∈Region.ready .any ops listed:=(by rw[hr];simp);obtain⟨hf,o,ho,_⟩:=mem_ready.1 hx;have hxs:=(Array.getElem?_eq_some_iff.1 ho).1;have h1:listed.getD x false=true:=hall x hxs;have:listed.getD x true=listed.getD x false:=(by simp[show x<listed.size by omega]);rw[this,h1]at hf;cases hf
  |succ fuel ih=>
   intro listed R' a w' hX hsz hleft hanc M;refine⟨λhr=>?_,λi hi w₁ hrl1=>?_⟩
   ·
    have hall:∀k,k<ops.size→listed.getD k false=true:=by
     intro k
     induction k using Nat.strongRecOn with
     |_ k ihk=>
      intro hk;cases hl:listed.getD k false with
      |true=>rfl
      |false=>
       have:k∈Region.ready .any ops listed:=by
        refine mem_ready.2 ⟨?_,ops[k],zK hk,λe he hb=>?_⟩
        ·have:listed.getD k true=listed.getD k false:=(by simp[show k<listed.size by omega]);rw[this,hl]
        have h1:=hback;unfold Q2g at h1;simp only[qX]at h1;have h2:=h1 (ops[k],k) (List.mk_mem_zipIdx_iff_getElem?.2 (by simp[hk])) e (by simpa using he);rw[hb]at h2;have hlt:e.on<k:=(by simpa using h2);exact ihk e.on hlt (by omega)
       rw[hr]at this;cases this
    exact hQ _ _ _ hX (Q6g T M hall)
   obtain⟨hf,oi,hoi,hafter⟩:=mem_ready.1 hi;have hin:=(Array.getElem?_eq_some_iff.1 hoi).1;have hLi:listed.getD i false=false:=by
    have:listed.getD i true=listed.getD i false:=(by simp[show i<listed.size by omega]);rw[←this];exact hf
   have hanci:∀k,((Q4b ops.toList []).getD i 0).testBit k=true→listed.getD k false=true:=by
    intro k hk;obtain⟨o',ho',e,he,hb,hx⟩:=Q8R ops.toList [] i k (by simp) hk;have hoo:o'=oi:=by
     simp only[List.length_nil,yD]at ho';rw[Array.getElem?_toList,hoi]at ho';simpa using ho'.symm
    subst hoo;have h1:=hafter e (by simpa using he) hb;rcases hx with hx|⟨_,hx⟩
    ·rw[←hx];exact h1
    exact hanc _ h1 _ hx
   refine mid_stepS T (Q7X hN) hoi hLi (λk o hk ho hc=>?_) (λk o hk ho hLk=>?_) (M.rly hrl1) λR'' a' w'' hX' M'=>?_
   ·rcases Q6o hreg hk ho hoi with h|⟨h1,h2⟩
    ·exact .inl (hanci k h)
    rw[Qaa,h1,Bool.false_or]at hc;exact .inr ⟨mv k i (h2 hc),h1⟩
   ·rcases Q6o hreg hk hoi ho with h|⟨h1,h2⟩
    ·have:=hanc k hLk i h;rw[hLi]at this;cases this
    exact⟨h1,λhc=>mv i k (h2 hc)⟩
   have hset:∀k,(listed.setIfInBounds i true).getD k false=upL (λk=>listed.getD k false) i k:=by
    intro k;simp only[upL]
    by_cases hk:k=i
    ·subst hk;simp[show k<listed.size by omega]
    rw[if_neg hk,getD_set_ne false (Ne.symm hk)]
   refine ih _ R'' a' w'' (hX.trans hX' (qE _)) (by simpa using hsz) ?_ ?_ (M'.congrL λk=>(hset k).symm)
   ·have h1:=left_up (L:=λk=>listed.getD k false) hLi ops.size;rw[if_pos hin]at h1;have h2:left (λk=>(listed.setIfInBounds i true).getD k false) ops.size=left (upL (λk=>listed.getD k false) i) ops.size:=by
     congr 1;funext k;exact hset k
    omega
   intro j hj k hk;rw[hset]at hj⊢;simp only[upL]at hj⊢
   by_cases hki:k=i
   ·rw[if_pos hki]
   rw[if_neg hki]
   by_cases hji:j=i
   ·subst hji;exact hanci k hk
   rw[if_neg hji]at hj;exact hanc j hj k hk
 refine key ops.size _ R a _ .refl (by simp) ?_ ?_ ?_
 ·have:∀m,left (λk=>(zT ops.size false).getD k false) m≤m:=by
   intro m
   induction m with
   |zero=>simp[left]
   |succ m ih=>simp only[left];split<;>omega
  exact this _
 ·intro j hj;exfalso
  by_cases hjs:j<ops.size
  ·simp[hjs]at hj
  simp[hjs]at hj
 refine Q6h T (h.rly hrl).drew λk=>?_
 by_cases hk:k<ops.size
 ·simp[hk]
 simp[hk]
end
theorem w_runS{P:Program}{F:Fx}{AQ:Exit→St→Prop}{st:St}{id:Nat}{ops:Array Oper}(hm:P.follows .mixedOrders=true)(hok:(okN F.N ops&&(Q6n [] [] 0 ops&&Q2g ops))=true)(h:∀K:St→Prop,(∀st',AQ .normal st'→K st')→Q1e P false ops ops.toList st K):Wp P F (.region id ops true) AQ st:=by
 intro a w hr;obtain⟨R',hX,hr⟩:=hr;obtain⟨S,E,h0,hend,htr⟩:=Q2X ops _ _ _ (Q3u _ _ _ (h (AQ .normal) λ_ h=>h));subst h0;have T:Tr P false ops S E:=⟨hr.ok,λk o ho=>htr k o (by simpa using ho)⟩;simp only[qI]at hok;have hend':AQ .normal (S ops.size):=by simpa using hend
 exact Q3Q (ds:=[]) (rs:=[]) (J:=0) T hok.1 (sd_nil _) (λh=>absurd rfl h) hok.2.1 hok.2.2 hm hr λR'' a' w' hX' h'=>⟨_,⟨R'',hX.trans hX' (qE _),h'⟩,hend'⟩
end
section
attribute [local simp] Qa QD Qo
def callX(P:Program)(mt:MT)(all:Array Oper)(f:Nat)(az:List AV)(dst:Option Nat)(os:List Oper)(st:St)(K:St→Prop):Prop:=
 Q9h P mt all f az dst os st K∨∃keep bs res,PurK keep st.hp az bs∧FContract P keep f bs res∧Q47 P mt all os (st.app dst {v:=res}) K
def Qa7(P:Program)(mt:MT)(all:Array Oper)(az:List AV)(dst:Option Nat)(os:List Oper)(st:St)(K:St→Prop):AV→Prop
 | .fn f caps=>callX P mt all f (az++caps) dst os st K
 |_=>False
def inZ(fz:List Nat):Option Nat→Bool
 |some d=>fz.contains d
 |none=>false
def Qav(P:Program)(et:Option TypeId)(l c:AV)(n:Nat):Option (Prop×Eff):=
 match et with
 |some e=>Q5y (some (((elm P e).bind (tyi P)).getD ⟨false,1,8,[]⟩)) (tyi P e) l c n
 |none=>none
def opX(P:Program)(fz:List Nat)(dst:Option Nat)(op:Op)(ev:Operand→AV)(h:HP)(n:Nat):Option (Prop×Eff):=
 match op with
 | .box t x=>bif inZ fz dst then boxr (ev x)else boxv (ev x) n
 | .call ⟨.builtin .append,⟨[s,x]⟩,⟨[t,u]⟩⟩=>match elm P t with
  |some e=>if t=u then(bif inZ fz dst then appM (tyi P e) (ev s) (ev x) h n else Q2W (tyi P e) (ev s) (ev x) h n)else none
  |none=>none
 | .call ⟨.builtin .len,⟨[x]⟩,⟨[t]⟩⟩=>bif inZ fz dst then lenm (mty P t) (Q43 h (ev x))else match elm P t with
  |some _=>lenv (ev x)
  |none=>none
 | .makeSlice t l c=>bif inZ fz dst then Qav P (elm P t) (ev l) (ev c) n else match elm P t with
  |some e=>Q5x (tyi P e) (ev l) (ev c) n
  |none=>none
 | .makeFunc (.func f) ⟨[]⟩ caps=>some (True,{v:=.fn f (caps.toList.map ev)})
 | .makeMap t none=>makv (mty P t) n
 | .lookup t x k ok=>Q5h (mty P t) (Q43 h (ev x)) (ev k) ok
 | .mapUpdate t x k y=>updv (mty P t) h (ev x) (ev k) (ev y)
 |op=>opF P op ev h n
theorem QaF{P:Program}{mt:MT}{fz:List Nat}{dst:Option Nat}{op:Op}{ev:Operand→AV}{h:HP}{n:Nat}{c:Prop}{e:Eff}(hx:opX P fz dst op ev h n=some (c,e))(hc:c):AOp P mt op ev h n e:=by
 unfold opX at hx;split at hx
 ·rename_i t x;cases hz:inZ fz dst with
  |true=>rw[hz]at hx;exact .boxr rfl hx
  |false=>rw[hz]at hx;exact .blt hx hc
 ·rename_i s x t u;split at hx
  ·rename_i e0 hel;split at hx
   ·rename_i htu;subst htu;cases hz:inZ fz dst with
    |true=>rw[hz]at hx;exact .appM rfl hel hx hc
    |false=>
     rw[hz]at hx;refine .blt (c:=c) ?_ hc;simp only[opF,bltF,hel,if_true];exact hx
   cases hx
  cases hx
 ·rename_i x t;cases hz:inZ fz dst with
  |true=>rw[hz]at hx;exact .mapo hx hc
  |false=>rw[hz]at hx;exact .blt hx hc
 ·rename_i t l cc;cases hz:inZ fz dst with
  |true=>
   rw[hz]at hx;simp only[cond_true]at hx;unfold Qav at hx;split at hx
   ·rename_i et hel;exact .mkz rfl hel hx hc
   cases hx
  |false=>rw[hz]at hx;exact .blt hx hc
 ·simp only[qA,qC]at hx;obtain⟨_,rfl⟩:=hx;exact .mkf rfl
 ·exact .mapo hx hc
 ·exact .mapo hx hc
 ·exact .mapo hx hc
 exact .blt hx hc
def mpxA(P:Program)(mt:MT)(all:Array Oper)(op:Op)(dst:Option Nat)(os:List Oper)(st:St)(K:St→Prop):Prop:=
 ∃e,Q4P op=true∧MpOp P op st.ev st.hp st.n e∧Q47 P mt all os (st.app dst e) K
def semA(P:Program)(mt:MT)(all:Array Oper)(op:Op)(dst:Option Nat)(os:List Oper)(st:St)(K:St→Prop):Prop:=
 ((mt.on&&wrM mt op)=true∧∃e,SemOp P op st.ev st.hp st.n e∧Q47 P mt all os (st.app dst e) K)∨mpxA P mt all op dst os st K
def stoZ(P:Program)(mt:MT)(all:Array Oper)(op:Op)(t:TypeId)(av xv:AV)(dst:Option Nat)(os:List Oper)(st:St)(K:St→Prop):Prop:=stoA P mt all t av xv dst os st K∨semA P mt all op dst os st K
def Q5N(P:Program)(mt:MT)(fz:List Nat)(all:Array Oper)(os:List Oper)(K R:St→Prop)(dst:Option Nat)(st:St)(op:Op):Prop:=
 match op with
 | .call ⟨.value x,args,_⟩=>Qa7 P mt all (args.toList.map st.ev) dst os st K (st.ev x)
 | .store t a x=>Q5o R (stoZ P mt all (.store t a x) t (st.ev a) (st.ev x) dst os st K) dst st (Q3C (tyi P t) (st.ev a) (st.ev x) st.hp)
 | .call ⟨.builtin .append,args,ts⟩=>Q5o R (semA P mt all (.call ⟨.builtin .append,args,ts⟩) dst os st K) dst st (opX P fz dst (.call ⟨.builtin .append,args,ts⟩) st.ev st.hp st.n)
 | .lookup t x k ok=>Q5o R (semA P mt all (.lookup t x k ok) dst os st K) dst st (Q5h (mty P t) (Q43 st.hp (st.ev x)) (st.ev k) ok)
 | .mapUpdate t x k y=>Q5o R (semA P mt all (.mapUpdate t x k y) dst os st K) dst st (updv (mty P t) st.hp (st.ev x) (st.ev k) (st.ev y))
 | .call ⟨.builtin .clear,args,ts⟩=>semA P mt all (.call ⟨.builtin .clear,args,ts⟩) dst os st K
 | .mapEntry t x k=>semA P mt all (.mapEntry t x k) dst os st K
 | .entryStore t x s y=>semA P mt all (.entryStore t x s y) dst os st K
 |op=>Q6O R dst st (opX P fz dst op st.ev st.hp st.n)
def Q9s(P:Program)(mt:MT)(fz:List Nat)(all:Array Oper)(os:List Oper)(K R:St→Prop)(dst:Option Nat)(st:St)(op:Op)(t:Nat)(want:Bool):AV→Prop
 | .val (.bool b)=>(b=want→Q5N P mt fz all os K R dst (st.put t (.val (.bool want))) op)∧(b= !want→R ((st.put t (.val (.bool !want))).app dst {v:=.tup []}))
 | .tup []=>R (st.app dst {v:=.tup []})
 |_=>False
def Q7H(P:Program)(mt:MT)(fz:List Nat)(all:Array Oper)(os:List Oper)(K R:St→Prop)(dst:Option Nat)(st:St)(op:Op)(want:Bool):Option Nat→Prop
 |some t=>Q9s P mt fz all os K R dst st op t want (st.get t)
 |none=>False
def runX(P:Program)(mt:MT)(fz:List Nat)(all:Array Oper):List Oper→St→(St→Prop)→Prop
 |[],st,K=>K st
 |o::os,st,K=>match o.guard with
  |none=>Q5N P mt fz all os K (λst'=>runX P mt fz all os st' K) o.dst st o.op
  |some (j,want)=>Q7H P mt fz all os K (λst'=>runX P mt fz all os st' K) o.dst st o.op want ((all[j]?).bind (·.dst))
theorem goX_one{P:Program}{mt:MT}{fz:List Nat}{all:Array Oper}{o:Oper}{os:List Oper}{st:St}{K R:St→Prop}(hw:Q3p all o st=some true)(ih:∀st',R st'→Q47 P mt all os st' K)(h:Q5N P mt fz all os K R o.dst st o.op):Q47 P mt all (o::os) st K:=by
 refine .inl ⟨hw,?_⟩;unfold Q5N at h;split at h
 ·rename_i x args ts ho;unfold Qa7 at h;split at h
  ·rename_i f caps hx;rcases h with(⟨bs,res,h1,h2,h3⟩|⟨h0,args,ms,res,m,Pt,sets,dels,h1,h2,h3,h4,h5,h6⟩|⟨h0,e,h1,h2⟩)|⟨keep,bs,res,h1,h2,h3⟩
   ·exact⟨_,.call ho rfl hx h1 h2,h3⟩
   ·exact⟨_,.mcall (Q5T h0 ho hx) ho rfl hx h1 h2 h3 h4 h5,h6⟩
   ·exact⟨_,.icall (Q5T h0 ho hx) ho rfl hx h1,h2⟩
   exact⟨_,.fcall ho rfl hx h1 h2,h3⟩
  exact h.elim
 ·rename_i t a x ho;unfold Q5o at h;split at h
  ·rename_i c e he;exact⟨e,.blt (by rw[ho];exact he) h.1,ih _ h.2⟩
  rcases h with⟨ty,id,i,k,b,sz,es,ds,dels,h1,h2,h3,h4,h5⟩|⟨h0,e,h1,h2⟩|⟨e,h0,h1,h2⟩
  ·exact⟨_,.sto ho h1 h2 h3 h4,h5⟩
  ·exact⟨e,.sem (by rw[ho];exact h0) (by rw[ho];exact h1),h2⟩
  exact⟨e,.mpx (by rw[ho];exact h0) (by rw[ho];exact h1),h2⟩
 ·rename_i args ts ho;unfold Q5o at h;split at h
  ·rename_i c e he;exact⟨e,QaF (fz:=fz) (dst:=o.dst) (by rw[ho];exact he) h.1,ih _ h.2⟩
  rcases h with⟨h0,e,h1,h2⟩|⟨e,h0,h1,h2⟩
  ·exact⟨e,.sem (by rw[ho];exact h0) (by rw[ho];exact h1),h2⟩
  exact⟨e,.mpx (by rw[ho];exact h0) (by rw[ho];exact h1),h2⟩
 ·rename_i t x k ok ho;unfold Q5o at h;split at h
  ·rename_i c e he;exact⟨e,QaF (fz:=fz) (dst:=o.dst) (by rw[ho];exact he) h.1,ih _ h.2⟩
  rcases h with⟨h0,e,h1,h2⟩|⟨e,h0,h1,h2⟩
  ·exact⟨e,.sem (by rw[ho];exact h0) (by rw[ho];exact h1),h2⟩
  exact⟨e,.mpx (by rw[ho];exact h0) (by rw[ho];exact h1),h2⟩
 ·rename_i t x k y ho;unfold Q5o at h;split at h
  ·rename_i c e he;exact⟨e,QaF (fz:=fz) (dst:=o.dst) (by rw[ho];exact he) h.1,ih _ h.2⟩
  rcases h with⟨h0,e,h1,h2⟩|⟨e,h0,h1,h2⟩
  ·exact⟨e,.sem (by rw[ho];exact h0) (by rw[ho];exact h1),h2⟩
  exact⟨e,.mpx (by rw[ho];exact h0) (by rw[ho];exact h1),h2⟩
 ·rename_i args ts ho;rcases h with⟨h0,e,h1,h2⟩|⟨e,h0,h1,h2⟩
  ·exact⟨e,.sem (by rw[ho];exact h0) (by rw[ho];exact h1),h2⟩
  exact⟨e,.mpx (by rw[ho];exact h0) (by rw[ho];exact h1),h2⟩
 ·rename_i t x k ho;rcases h with⟨h0,e,h1,h2⟩|⟨e,h0,h1,h2⟩
  ·exact⟨e,.sem (by rw[ho];exact h0) (by rw[ho];exact h1),h2⟩
  exact⟨e,.mpx (by rw[ho];exact h0) (by rw[ho];exact h1),h2⟩
 ·rename_i t x s y ho;rcases h with⟨h0,e,h1,h2⟩|⟨e,h0,h1,h2⟩
  ·exact⟨e,.sem (by rw[ho];exact h0) (by rw[ho];exact h1),h2⟩
  exact⟨e,.mpx (by rw[ho];exact h0) (by rw[ho];exact h1),h2⟩
 unfold Q6O at h;split at h
 ·rename_i c e he;exact⟨e,QaF he h.1,ih _ h.2⟩
 exact h.elim
theorem Q3l{P:Program}{mt:MT}{fz:List Nat}{all:Array Oper}:∀(os:List Oper) (st:St) (K:St→Prop),runX P mt fz all os st K→Q47 P mt all os st K:=by
 intro os
 induction os with
 |nil=>intro st K h;exact h
 |cons o os ih=>
  intro st K h;unfold runX at h;split at h
  ·rename_i hg;exact goX_one (by simp[Q3p,hg]) (λst'=>ih st' K) h
  rename_i j want hg;unfold Q7H at h;split at h
  ·rename_i t ht;unfold Q9s at h;split at h
   ·rename_i b hb;have hput:∀b',b=b'→st.put t (.val (.bool b'))=st:=(by rintro _ rfl;exact St.put_get hb (by simp));obtain⟨h1,h2⟩:=h
    by_cases hbw:b=want
    ·have h1:=h1 hbw;rw[hput _ hbw]at h1;exact goX_one (by simp only[Q3p,hg,ht,hb,hbw,beq_self_eq_true]) (λst'=>ih st' K) h1
    have hb':b= !want:=(by cases b<;>cases want<;>simp_all);have h2:=h2 hb';rw[hput _ hb']at h2;refine .inr ⟨?_,ih _ _ h2⟩;have:(b==want)=false:=(by simpa using hbw);simp only[Q3p,hg,ht,hb,this]
   ·rename_i htt;refine .inr ⟨?_,ih _ _ h⟩;simp only[Q3p,hg,ht,htt]
   exact h.elim
  exact h.elim
section
variable {P:Program}{mt:MT}{fz:List Nat}{all:Array Oper}{f:Nat}{az bs:List AV}{res:AV}{dst:Option Nat}{os:List Oper}{st:St}{K:St→Prop}
theorem QG(hc:Contract P f bs res)(hp:PurL st.hp az bs)(h:runX P mt fz all os (st.app dst (unk st.n res)) K):callX P mt all f az dst os st K:=.inl (.inl ⟨bs,res,hp,hc,Q3l _ _ _ h⟩)
theorem Q4G(keep:Bool)(hc:FContract P keep f bs res)(hp:PurK keep st.hp az bs)(h:runX P mt fz all os (st.app dst {v:=res}) K):callX P mt all f az dst os st K:=.inr ⟨keep,bs,res,hp,hc,Q3l _ _ _ h⟩
theorem Q2B{e:Eff}(hc:ICon P f az st.hp st.n e)(h:runX P mt fz all os (st.app dst e) K)(hm:mt.may f=true:=by rfl):callX P mt all f az dst os st K:=.inl (.inr (.inr ⟨hm,e,hc,Q3l _ _ _ h⟩))
theorem Qbr{op:Op}{t:TypeId}{ty:Tyi}{xv b:AV}{id i k sz:Nat}{es:List (List AV)}{ds:List Nat}(dels:List Nat)(h1:tyi P t=some ty)(h2:ty.sz=1)(h3:Sto st.hp st.n id i k xv b sz es ds dels)(h:runX P mt fz all os (st.app dst {v:=.bot,set:=[(id,.row sz (es.set i ((es.getD i []).set k b)))],del:=ds++dels}) K):stoZ P mt all op t (.adr id i k) xv dst os st K:=
 .inl ⟨ty,id,i,k,b,sz,es,ds,dels,h1,h2,rfl,h3,Q3l _ _ _ h⟩
theorem PurK.ofN{h:HP}(hp:PurL (λ_=>none) az bs):PurK true h az bs:=hp
end
theorem w_runX{P:Program}{F:Fx}{AQ:Exit→St→Prop}{st:St}{id:Nat}{ops:Array Oper}{d:Bool}(fz:List Nat)(hm:P.follows .mixedOrders=true)(hok:(okN F.N ops&&(!d||(Q4V false ops&&Q2g ops)))=true)(h:∀K:St→Prop,(∀st',AQ .normal st'→K st')→runX P false fz ops ops.toList st K):Wp P F (.region id ops d) AQ st:=
 Q5S hm hok λK hK=>Q3l _ _ _ (h K hK)
theorem Q3W{P:Program}{F:Fx}{AQ:Exit→St→Prop}{st:St}{id:Nat}{ops:Array Oper}{d:Bool}(fz:List Nat)(hm:P.follows .mixedOrders=true)(hok:(okN F.N ops&&(!d||(Q4V true ops&&Q2g ops)))=true)(h:∀K:St→Prop,(∀st',AQ .normal st'→K st')→runX P true fz ops ops.toList st K):Wp P F (.region id ops d) AQ st:=
 Q5S hm hok λK hK=>Q3l _ _ _ (h K hK)
theorem w_runXS{P:Program}{F:Fx}{AQ:Exit→St→Prop}{st:St}{id:Nat}{ops:Array Oper}(fz:List Nat)(hm:P.follows .mixedOrders=true)(hok:(okN F.N ops&&(Q6n [] [] 0 ops&&Q2g ops))=true)(h:∀K:St→Prop,(∀st',AQ .normal st'→K st')→runX P false fz ops ops.toList st K):Wp P F (.region id ops true) AQ st:=by
 intro a w hr;obtain⟨R',hX,hr⟩:=hr;obtain⟨S,E,h0,hend,htr⟩:=Q2X ops _ _ _ (Q3l _ _ _ (h (AQ .normal) λ_ h=>h));subst h0;have T:Tr P false ops S E:=⟨hr.ok,λk o ho=>htr k o (by simpa using ho)⟩;simp only[qI]at hok;have hend':AQ .normal (S ops.size):=by simpa using hend
 exact Q3Q (ds:=[]) (rs:=[]) (J:=0) T hok.1 (sd_nil _) (λh=>absurd rfl h) hok.2.1 hok.2.2 hm hr λR'' a' w' hX' h'=>⟨_,⟨R'',hX.trans hX' (qE _),h'⟩,hend'⟩
theorem w_runXD{P:Program}{F:Fx}{AQ:Exit→St→Prop}{st:St}{id:Nat}{ops:Array Oper}(fz ds:List Nat)(hm:P.follows .mixedOrders=true)(hok:(okN F.N ops&&(Q6n ds [] 0 ops&&Q2g ops))=true)(hd:sdB ds st=true)(h:∀K:St→Prop,(∀st',AQ .normal st'→K st')→runX P false fz ops ops.toList st K):Wp P F (.region id ops true) AQ st:=by
 intro a w hr;obtain⟨R',hX,hr⟩:=hr;obtain⟨S,E,h0,hend,htr⟩:=Q2X ops _ _ _ (Q3l _ _ _ (h (AQ .normal) λ_ h=>h));subst h0;have T:Tr P false ops S E:=⟨hr.ok,λk o ho=>htr k o (by simpa using ho)⟩;simp only[qI]at hok;have hend':AQ .normal (S ops.size):=by simpa using hend
 exact Q3Q (ds:=ds) (rs:=[]) (J:=0) T hok.1 (sd_ok hd) (λh=>absurd rfl h) hok.2.1 hok.2.2 hm hr λR'' a' w' hX' h'=>⟨_,⟨R'',hX.trans hX' (qE _),h'⟩,hend'⟩
theorem Q89{P:Program}{F:Fx}{AQ:Exit→St→Prop}{st:St}{id:Nat}{ops:Array Oper}(fz rs:List Nat)(J:Nat)(hm:P.follows .mixedOrders=true)(hok:(okN F.N ops&&(Q6n [] rs J ops&&Q2g ops))=true)(h:∀K:St→Prop,(∀st',AQ .normal st'→kpB rs J ops st st'=true→K st')→runX P false fz ops ops.toList st K):Wp P F (.region id ops true) AQ st:=by
 intro a w hr;obtain⟨R',hX,hr⟩:=hr;obtain⟨S,E,h0,hend,htr⟩:=Q2X ops _ _ _ (Q3l _ _ _ (h (λst'=>AQ .normal st'∧kpB rs J ops st st'=true) λ_ h h'=>⟨h,h'⟩));subst h0;have T:Tr P false ops S E:=⟨hr.ok,λk o ho=>htr k o (by simpa using ho)⟩;simp only[qI]at hok;have hend':AQ .normal (S ops.size)∧kpB rs J ops (S 0) (S ops.size)=true:=by simpa using hend
 exact Q3Q (ds:=[]) (rs:=rs) (J:=J) T hok.1 (sd_nil _) (λ_=>kp_ok hend'.2) hok.2.1 hok.2.2 hm hr λR'' a' w' hX' h'=>⟨_,⟨R'',hX.trans hX' (qE _),h'⟩,hend'.1⟩
def rE(P:Program)(mt:MT)(fz:List Nat)(all:Array Oper)(os:List Oper)(dst:Option Nat)(st:St)(K:St→Prop)(x:Option (Prop×Eff)):Prop:=Q6O (λst'=>runX P mt fz all os st' K) dst st x
def rS(P:Program)(mt:MT)(fz:List Nat)(all:Array Oper)(os:List Oper)(dst:Option Nat)(st:St)(K:St→Prop)(op:Op)(t:TypeId)(av xv:AV)(x:Option (Prop×Eff)):Prop:=Q5o (λst'=>runX P mt fz all os st' K) (stoZ P mt all op t av xv dst os st K) dst st x
def rL(P:Program)(mt:MT)(fz:List Nat)(all:Array Oper)(os:List Oper)(dst:Option Nat)(st:St)(K:St→Prop)(op:Op)(x:Option (Prop×Eff)):Prop:=Q5o (λst'=>runX P mt fz all os st' K) (semA P mt all op dst os st K) dst st x
def rO(P:Program)(mt:MT)(fz:List Nat)(all:Array Oper)(os:List Oper)(dst:Option Nat)(st:St)(K:St→Prop)(op:Op):Prop:=Q5N P mt fz all os K (λst'=>runX P mt fz all os st' K) dst st op
def gE(P:Program)(mt:MT)(fz:List Nat)(all:Array Oper)(os:List Oper)(dst:Option Nat)(st:St)(K:St→Prop)(op:Op)(t:Nat)(want:Bool)(x:AV):Prop:=Q9s P mt fz all os K (λst'=>runX P mt fz all os st' K) dst st op t want x
def gT(P:Program)(mt:MT)(fz:List Nat)(all:Array Oper)(os:List Oper)(dst:Option Nat)(st:St)(K:St→Prop)(op:Op)(want:Bool)(x:Option Nat):Prop:=Q7H P mt fz all os K (λst'=>runX P mt fz all os st' K) dst st op want x
section
variable {P:Program}{mt:MT}{fz:List Nat}{all:Array Oper}{os:List Oper}{dst:Option Nat}{st:St}{K:St→Prop}{op:Op}{ty:TypeId}{pos:String}{af:Array Edge}
@[simp] theorem rE_some{c:Prop}{e:Eff}:rE P mt fz all os dst st K (some (c,e))=(c∧runX P mt fz all os (st.app dst e) K):=rfl
@[simp] theorem callEX_fn{f:Nat}{caps az:List AV}:Qa7 P mt all az dst os st K (.fn f caps)=callX P mt all f (az++caps) dst os st K:=rfl
@[simp] theorem rO_call{x:Operand}{args:Array Operand}{ts:Array TypeId}:rO P mt fz all os dst st K (.call ⟨.value x,args,ts⟩)=Qa7 P mt all (args.toList.map st.ev) dst os st K (st.ev x):=rfl
@[simp] theorem rO_move{x}:rO P mt fz all os dst st K (.move x)=runX P mt fz all os (st.app dst {v:=st.ev x}) K:=by simp[rO,Q5N,Q6O,opX,opF]
@[simp] theorem rO_assign{x}:rO P mt fz all os dst st K (.assign x)=runX P mt fz all os (st.app dst {v:=st.ev x}) K:=by simp[rO,Q5N,Q6O,opX,opF]
@[simp] theorem rO_pick{c a b}:rO P mt fz all os dst st K (.pick c a b)=rE P mt fz all os dst st K (pick (st.ev c) (st.ev a) (st.ev b)):=rfl
@[simp] theorem rO_alloc{e}:rO P mt fz all os dst st K (.alloc e)=rE P mt fz all os dst st K (Vc.alloc (tyi P e) st.n):=rfl
@[simp] theorem rO_box{t x}:rO P mt fz all os dst st K (.box t x)=rE P mt fz all os dst st K (bif inZ fz dst then boxr (st.ev x)else boxv (st.ev x) st.n):=rfl
@[simp] theorem rO_build{t parts}:rO P mt fz all os dst st K (.build t parts)=rE P mt fz all os dst st K (build (tyi P t) (Q40 P t) (parts.toList.map λp=>(p.1,st.ev p.2))):=rfl
@[simp] theorem rO_buildSlice{t len parts}:rO P mt fz all os dst st K (.buildSlice t len parts)=rE P mt fz all os dst st K (elmE (λe=>buildSlice (tyi P e) len (parts.toList.map λp=>(p.1,st.ev p.2)) st.n) (elm P t)):=by
 simp only[rO,rE,Q5N,opX,opF];cases elm P t<;>rfl
@[simp] theorem rO_load{t a}:rO P mt fz all os dst st K (.load t a)=rE P mt fz all os dst st K (Q3O (tyi P t) (st.ev a) st.hp st.n):=rfl
@[simp] theorem rO_store{t a x}:rO P mt fz all os dst st K (.store t a x)=rS P mt fz all os dst st K (.store t a x) t (st.ev a) (st.ev x) (Q3C (tyi P t) (st.ev a) (st.ev x) st.hp):=rfl
@[simp] theorem rS_some{op:Op}{t:TypeId}{av xv:AV}{c:Prop}{e:Eff}:rS P mt fz all os dst st K op t av xv (some (c,e))=(c∧runX P mt fz all os (st.app dst e) K):=rfl
@[simp] theorem rS_none{op:Op}{t:TypeId}{av xv:AV}:rS P mt fz all os dst st K op t av xv none=stoZ P mt all op t av xv dst os st K:=rfl
@[simp] theorem rO_nilCheck{x}:rO P mt fz all os dst st K (.nilCheck x)=rE P mt fz all os dst st K (nilCheck (st.ev x)):=rfl
@[simp] theorem rO_binOp{o xt x y yt}:rO P mt fz all os dst st K (.binOp o xt x y yt)=rE P mt fz all os dst st K (Q5U (eqT P xt) o (st.ev x) (st.ev y)):=rfl
@[simp] theorem rO_unOp{o t x}:rO P mt fz all os dst st K (.unOp o t x)=rE P mt fz all os dst st K (unop o (st.ev x)):=rfl
@[simp] theorem rO_makeSlice{t l c}:rO P mt fz all os dst st K (.makeSlice t l c)=rE P mt fz all os dst st K (bif inZ fz dst then Qav P (elm P t) (st.ev l) (st.ev c) st.n else elmE (λe=>Q5x (tyi P e) (st.ev l) (st.ev c) st.n) (elm P t)):=by
 simp only[rO,rE,Q5N,opX,opF];cases elm P t<;>rfl
@[simp] theorem makeSX_some{e:TypeId}{l c:AV}{n:Nat}:Qav P (some e) l c n=Q5y (some (((elm P e).bind (tyi P)).getD ⟨false,1,8,[]⟩)) (tyi P e) l c n:=rfl
attribute [simp] Q5y zc
@[simp] theorem rO_fieldAddr{t x k}:rO P mt fz all os dst st K (.fieldAddr t x k)=rE P mt fz all os dst st K (fieldAddr (fld P t k) (st.ev x)):=rfl
@[simp] theorem rO_indexAddr{t x i}:rO P mt fz all os dst st K (.indexAddr t x i)=rE P mt fz all os dst st K (elmE (λe=>Q2c (tyi P e) (st.ev x) (st.ev i) st.hp) (elm P t)):=by
 simp only[rO,rE,Q5N,opX,opF];cases elm P t<;>rfl
@[simp] theorem rO_extract{x k}:rO P mt fz all os dst st K (.extract x k)=rE P mt fz all os dst st K (Q3L (st.ev x) k):=rfl
@[simp] theorem rO_len{x t}:rO P mt fz all os dst st K (.call ⟨.builtin .len,#[x],#[t]⟩)=rE P mt fz all os dst st K (bif inZ fz dst then lenm (mty P t) (Q43 st.hp (st.ev x))else elmE (λ_=>lenv (st.ev x)) (elm P t)):=by
 simp only[rO,rE,Q5N,opX];cases inZ fz dst<;>cases elm P t<;>rfl
@[simp] theorem rO_append{x y t u}:rO P mt fz all os dst st K (.call ⟨.builtin .append,#[x,y],#[t,u]⟩)=rL P mt fz all os dst st K (.call ⟨.builtin .append,#[x,y],#[t,u]⟩) (elmE (λe=>if t=u then(bif inZ fz dst then appM (tyi P e) (st.ev x) (st.ev y) st.hp st.n else Q2W (tyi P e) (st.ev x) (st.ev y) st.hp st.n)else none) (elm P t)):=by
 simp only[rO,rL,Q5N,opX];cases elm P t<;>rfl
@[simp] theorem rO_min{xs ts}:rO P mt fz all os dst st K (.call ⟨.builtin .min,xs,ts⟩)=rE P mt fz all os dst st K (Q4U (λa b=>if b<a then b else a) (xs.toList.map st.ev)):=rfl
@[simp] theorem rO_max{xs ts}:rO P mt fz all os dst st K (.call ⟨.builtin .max,xs,ts⟩)=rE P mt fz all os dst st K (Q4U (λa b=>if b>a then b else a) (xs.toList.map st.ev)):=rfl
@[simp] theorem rO_makeFunc{f caps}:rO P mt fz all os dst st K (.makeFunc (.func f) #[] caps)=rE P mt fz all os dst st K (some (True,{v:=.fn f (caps.toList.map st.ev)})):=rfl
@[simp] theorem rO_makeMap{t}:rO P mt fz all os dst st K (.makeMap t none)=rE P mt fz all os dst st K (makv (mty P t) st.n):=rfl
@[simp] theorem rL_some{op:Op}{c:Prop}{e:Eff}:rL P mt fz all os dst st K op (some (c,e))=(c∧runX P mt fz all os (st.app dst e) K):=rfl
@[simp] theorem rL_none{op:Op}:rL P mt fz all os dst st K op none=semA P mt all op dst os st K:=rfl
theorem Q2t{op:Op}{e:Eff}(hs:MpOp P op st.ev st.hp st.n e)(h:runX P mt fz all os (st.app dst e) K)(hm:Q4P op=true:=by rfl):semA P mt all op dst os st K:=.inr ⟨e,hm,hs,Q3l _ _ _ h⟩
@[simp] theorem rO_mapEntry{t:TypeId}{x k:Operand}:rO P mt fz all os dst st K (.mapEntry t x k)=semA P mt all (.mapEntry t x k) dst os st K:=rfl
@[simp] theorem rO_entryStore{t:TypeId}{x s y:Operand}:rO P mt fz all os dst st K (.entryStore t x s y)=semA P mt all (.entryStore t x s y) dst os st K:=rfl
@[simp] theorem MK.plain_ext{x:XP}:(MK.ext x).plain=false:=rfl
@[simp] theorem lookv_no{m:Option (MK×Value)}{k:AV}{ok:Bool}:Q5h m none k ok=none:=by unfold Q5h;split<;>simp_all
@[simp] theorem rO_lookup{t x k ok}:rO P mt fz all os dst st K (.lookup t x k ok)=rL P mt fz all os dst st K (.lookup t x k ok) (Q5h (mty P t) (Q43 st.hp (st.ev x)) (st.ev k) ok):=rfl
@[simp] theorem rO_mapUpdate{t x k y}:rO P mt fz all os dst st K (.mapUpdate t x k y)=rL P mt fz all os dst st K (.mapUpdate t x k y) (updv (mty P t) st.hp (st.ev x) (st.ev k) (st.ev y)):=rfl
@[simp] theorem runX_nil:runX P mt fz all [] st K=K st:=rfl
@[simp] theorem runX_go:runX P mt fz all (⟨dst,op,ty,pos,af,none⟩::os) st K=rO P mt fz all os dst st K op:=rfl
@[simp] theorem runX_guard{j:Nat}{want:Bool}:runX P mt fz all (⟨dst,op,ty,pos,af,some (j,want)⟩::os) st K=gT P mt fz all os dst st K op want ((all[j]?).bind (·.dst)):=rfl
@[simp] theorem gT_some{want:Bool}{t:Nat}:gT P mt fz all os dst st K op want (some t)=gE P mt fz all os dst st K op t want (st.get t):=rfl
theorem gE_b{want:Bool}{t:Nat}{b:Bool}:gE P mt fz all os dst st K op t want (.val (.bool b))=((b=want→rO P mt fz all os dst (st.put t (.val (.bool want))) K op)∧(b= !want→runX P mt fz all os ((st.put t (.val (.bool !want))).app dst {v:=.tup []}) K)):=rfl
@[simp high] theorem gE_tt{t:Nat}:gE P mt fz all os dst st K op t true (.val (.bool true))=rO P mt fz all os dst (st.put t (.val (.bool true))) K op:=by simp[gE_b]
@[simp high] theorem gE_tf{t:Nat}:gE P mt fz all os dst st K op t true (.val (.bool false))=runX P mt fz all os ((st.put t (.val (.bool false))).app dst {v:=.tup []}) K:=by simp[gE_b]
theorem Q8B{t:Nat}{want:Bool}{b:Bool}(h1:b=want→rO P mt fz all os dst (st.put t (.val (.bool want))) K op)(h2:b=(!want)→runX P mt fz all os ((st.put t (.val (.bool !want))).app dst {v:=.tup []}) K):
  gE P mt fz all os dst st K op t want (.val (.bool b)):=by
 rw[gE_b];exact⟨h1,h2⟩
end
section
variable {h:HP}{n:Nat}{sz off m id:Nat}{es:List (List AV)}{kd:MK}{me:List (Value × Value)}{z:Value}{t:Tyi}
def srcME(sz off m:Nat):Option Ent→Option (Prop×List (List AV))
 |some (.mix sz' es)=>if sz'=sz then some (off+m≤es.length,(es.drop off).take m)else none
 |_=>none
def baseME(sz id m:Nat):Option Ent→Option (Prop×List (List AV)×List Nat)
 |some (.mix sz' es)=>if sz'=sz then some (m=es.length,es,[id])else none
 |_=>none
def mcontE:Option Ent→Option (MK×List (Value×Value))
 |some (.mapE kd es)=>if kd.plain=true then some (kd,es)else none
 |_=>none
def updE(kd:MK)(id:Nat)(kv v:Value):Option Ent→Option (Prop×Eff)
 |some (.mapE kd' es)=>if kd'=kd∧kd.is kv=true then some (es.length<1099511627776,{v:=.bot,set:=[(id,.mapE kd (mset kv v es))]})else none
 |_=>none
theorem srcM_nil:srcM h sz (.val (.slice none 0 0))=some (True,[]):=rfl
theorem srcM_lst{u:Bool}{sz':Nat}:srcM h sz (.lst u sz' es)=if sz'=sz then some (True,es)else none:=rfl
theorem srcM_E:srcM h sz (.own id off m)=srcME sz off m (h id):=rfl
@[simp] theorem srcME_mix{sz':Nat}:srcME sz off m (some (.mix sz' es))=if sz'=sz then some (off+m≤es.length,(es.drop off).take m)else none:=rfl
theorem baseM_nil:Q6K h sz (.val (.slice none 0 0))=some (True,[],[]):=rfl
theorem baseM_E:Q6K h sz (.own id 0 m)=baseME sz id m (h id):=rfl
@[simp] theorem baseME_mix{sz':Nat}:baseME sz id m (some (.mix sz' es))=if sz'=sz then some (m=es.length,es,[id])else none:=rfl
def appME(t:Tyi)(n:Nat):Option (Prop×List (List AV)×List Nat)→Option (Prop×List (List AV))→Option (Prop×Eff)
 |some (c1,es,i),some (c2,news)=>some ((0<news.length∨i≠[])∧n∉i∧c1∧c2∧(es.length+news.length)*t.bytes≤140737488355328∧es.length+news.length≤140737488355328∧0<t.sz,
    {v:=.own n 0 (es.length+news.length),del:=i,new:=[(n,.mix t.sz (es++news))],cnt:=1})
 |_,_=>none
theorem appM_E{s x:AV}:appM (some t) s x h n=appME t n (Q6K h t.sz s) (srcM h t.sz x):=by
 simp only[appM,appME];cases Q6K h t.sz s with
 |none=>rfl
 |some p=>cases srcM h t.sz x<;>rfl
@[simp] theorem appME_some{c1 c2:Prop}{i:List Nat}{news:List (List AV)}:appME t n (some (c1,es,i)) (some (c2,news))=some ((0<news.length∨i≠[])∧n∉i∧c1∧c2∧(es.length+news.length)*t.bytes≤140737488355328∧es.length+news.length≤140737488355328∧0<t.sz,
    {v:=.own n 0 (es.length+news.length),del:=i,new:=[(n,.mix t.sz (es++news))],cnt:=1}):=rfl
theorem mcont_mp:Q43 h (.mp id)=mcontE (h id):=rfl
theorem Qbd:Q43 h (.cmap kd me)=some (kd,me):=rfl
@[simp] theorem mcontE_map:mcontE (some (.mapE kd me))=if kd.plain=true then some (kd,me)else none:=rfl
theorem Qba{kd':MK}{kv:Value}{ok:Bool}:Q5h (some (kd,z)) (some (kd',me)) (.val kv) ok=if kd'=kd∧kd.is kv=true then
   some (True,{v:=bif ok then .tup [.val ((Q1F kv me).getD z),.val (.bool (Q1F kv me).isSome)]else .val ((Q1F kv me).getD z)})else none:=rfl
theorem lookv_agg{kd':MK}{az:List AV}{ok:Bool}:Q5h (some (kd,z)) (some (kd',me)) (.agg az) ok=(Qh az).elim none λl=>if kd'=kd∧kd.is (.agg (l.map (Value.int .i64)).toArray)=true then
   some (True,{v:=bif ok then .tup [.val ((Q1F (.agg (l.map (Value.int .i64)).toArray) me).getD z),.val (.bool (Q1F (.agg (l.map (Value.int .i64)).toArray) me).isSome)]else .val ((Q1F (.agg (l.map (Value.int .i64)).toArray) me).getD z)})else none:=by
 simp only[Q5h,keyV];cases Qh az<;>rfl
theorem updv_agg{az:List AV}{v:Value}:updv (some (kd,z)) h (.mp id) (.agg az) (.val v)=(Qh az).elim none λl=>updE kd id (.agg (l.map (Value.int .i64)).toArray) v (h id):=by
 simp only[updv,keyV];cases Qh az<;>rfl
theorem updv_mp{kv v:Value}:updv (some (kd,z)) h (.mp id) (.val kv) (.val v)=updE kd id kv v (h id):=rfl
@[simp] theorem updE_map{kd':MK}{kv v:Value}:updE kd id kv v (some (.mapE kd' me))=if kd'=kd∧kd.is kv=true then some (me.length<1099511627776,{v:=.bot,set:=[(id,.mapE kd (mset kv v me))]})else none:=rfl
theorem makv_some:makv (some (kd,z)) n=some (True,{v:=.mp n,new:=[(n,.mapE kd [])],cnt:=1}):=rfl
theorem lenm_some{p:MK×Value}{kd':MK}:lenm (some p) (some (kd',me))=some (True,{v:=.val (.int .i64 me.length)}):=rfl
end
theorem boxr_if{x:AV}:boxr x=if x.cells.all AV.ro&&x.shr then some (True,{v:=.rptr x.cells})else none:=rfl
attribute [simp] srcM_nil srcM_lst srcM_E baseM_nil baseM_E appM_E mcont_mp Qbd Qba updv_mp lookv_agg updv_agg makv_some lenm_some boxr_if inZ AV.ro AV.ro1 AV.shr MK.is
attribute [simp] rl
def Em{α β:Type}(ek:α→Value)(ev:β→Value)(xs:List (α×β)):List (Value×Value):=xs.map λp=>(ek p.1,ev p.2)
def QO{α β:Type}[DecidableEq α](k:α):List (α×β)→Option β
 |[]=>none
 |(a,v)::r=>if a=k then some v else QO k r
def tset{α β:Type}[DecidableEq α](k:α)(v:β):List (α×β)→List (α×β)
 |[]=>[(k,v)]
 |(a,x)::r=>if a=k then(a,v)::r else(a,x)::tset k v r
theorem Q4T{α β:Type}[DecidableEq α]{ek:α→Value}{ev:β→Value}(hi:∀a b,ek a=ek b→a=b)(k:α):∀xs:List (α×β),Q1F (ek k) (Em ek ev xs)=(QO k xs).map ev:=by
 intro xs
 induction xs with
 |nil=>rfl
 |cons p r ih=>
  obtain⟨a,v⟩:=p;simp only[Em,qK,Q1F,QO]
  by_cases h:a=k
  ·subst h;simp
  rw[if_neg (λh'=>h (hi _ _ h')),if_neg h];exact ih
theorem Q7U{α β:Type}[DecidableEq α]{ek:α→Value}{ev:β→Value}(hi:∀a b,ek a=ek b→a=b)(k:α)(v:β):∀xs:List (α×β),mset (ek k) (ev v) (Em ek ev xs)=Em ek ev (tset k v xs):=by
 intro xs
 induction xs with
 |nil=>rfl
 |cons p r ih=>
  obtain⟨a,x⟩:=p;simp only[Em,qK,mset,tset]
  by_cases h:a=k
  ·subst h;simp
  rw[if_neg (λh'=>h (hi _ _ h')),if_neg h];simp only[qK];have:mset (ek k) (ev v) (r.map λp=>(ek p.1,ev p.2))=(tset k v r).map λp=>(ek p.1,ev p.2):=ih;rw[this]
def vI(x:Int):Value:=.int .i64 x
def Mii(xs:List (Int×Int)):List (Value×Value):=Em vI vI xs
theorem vI_inj(a b:Int)(h:vI a=vI b):a=b:=by cases h;rfl
@[simp] theorem Mii_nil:Mii []=[]:=rfl
@[simp] theorem Mii_length(xs:List (Int×Int)):(Mii xs).length=xs.length:=by simp[Mii,Em]
@[simp] theorem find_Mii(k:Int)(xs:List (Int×Int)):(Q1F (.int .i64 k) (Mii xs)).getD (.int .i64 0)= .int .i64 ((QO k xs).getD 0):=by
 have:=Q4T (ev:=vI) vI_inj k xs;show((Q1F (vI k) (Em vI vI xs)).getD (vI 0))=_;rw[this];cases QO k xs<;>rfl
@[simp] theorem some_Mii(k:Int)(xs:List (Int×Int)):(Q1F (.int .i64 k) (Mii xs)).isSome=(QO k xs).isSome:=by
 have:=Q4T (ev:=vI) vI_inj k xs;show(Q1F (vI k) (Em vI vI xs)).isSome=_;rw[this];cases QO k xs<;>rfl
@[simp] theorem set_Mii(k v:Int)(xs:List (Int×Int)):mset (.int .i64 k) (.int .i64 v) (Mii xs)=Mii (tset k v xs):=Q7U (ev:=vI) vI_inj k v xs
def ownRet:AV→AV→Prop
 | .val _,_=>True
 | .mp _,.cmap _ _=>True
 |_,_=>False
structure RetF(keep:Bool)(ts:List Nat)(st:St)(rs:List AV):Prop where
 len:rs.length=ts.length
 pur:∀k,k<ts.length→PurTo st.hp (st.get (ts.getD k 0)) (rs.getD k .bot)
 own:keep=false→∀k,k<ts.length→ownRet (st.get (ts.getD k 0)) (rs.getD k .bot)
def retFQ(keep:Bool)(ts:List Nat)(rs:List AV):Exit→St→Prop
 | .normal,st=>RetF keep ts st rs
 | .ret,st=>RetF keep ts st rs
 |_,_=>False
theorem Q60{P:Program}(keep:Bool){f:Nat}{fn:Func}{c:Code}{args:List AV}{ts:List Nat}{rs:List AV}{res:AV}(hf:P.funcs[f]? =some fn)(hb:fn.body=some c)(hrt:resT fn.results=some ts)(hrs:res=QU rs)(hname:(fn.name=="runtime.NumGoroutine")=false)(hN:args.length≤fn.ntmps)(h:∀F:Fx,F.N=fn.ntmps→F.pins=0→Wp P F c (retFQ keep ts rs) ⟨Q2J 0 args,[],0⟩):FContract P keep f args res:=by
 subst hrs;refine⟨⟨fn,hf,hname,by rw[hb];rfl⟩,λw R vals hR hsz hx=>?_⟩;refine calls_of_wp hf hb ?_
 let C:Ctx:=⟨w,λ_=>False,λ_=>none,0⟩
 have hrel:Rel C R fn.ntmps {tmps:=vals++zT (fn.ntmps - vals.size) undef,defers:=[]} w ⟨Q2J 0 args,[],0⟩:=by
  refine⟨by simp;omega,rfl,(λid x h=>by cases h),λ_=>none,noρ,⟨λb hb=>⟨hR b hb,rfl⟩,(λb L hb=>by cases hb),rfl,⟨rfl,qE _⟩,rfl,qE _,λb _ _=>rfl⟩,⟨(λid sz es bk _ hb=>by cases hb),(λid sz es bk _ hb=>by cases hb),(λid c i k sz bk _ hb=>by cases hb),(λid kd es bk _ hb=>by cases hb)⟩,λt=>?_,(λid k hk=>by cases hk),(λid hid=>by cases hid),qE _⟩;simp only[St.get,Q1V]
  by_cases ht:t<args.length
  ·rw[if_pos (by omega)];simp only[yD,zL];have:=hx t ht;have h2:(vals++zT (fn.ntmps - vals.size) undef).getD t undef=vals.getD t undef:=by
    simp[zZ,show t<vals.size by omega]
   rw[h2];exact this
  rw[if_neg (by omega)];exact .bot
 refine Q2R (λe a w' hq=>?_) (h ⟨C,R,fn.ntmps,0,rfl⟩ rfl rfl _ w (.of hrel));obtain⟨st,⟨R',hX,hr⟩,hq⟩:=hq;have fin:RetF keep ts st rs→a.defers=[]∧∃v,(results fn a.tmps).run P w'= .ok v w'∧∃v' R1,Ending.returned v= .returned v'∧Blw w.heap.size w w'∧(∀b,R1 b→b<w'.heap.size∧((keep=true∧R b)∨w.heap.size≤b))∧XRel w' R1 noρ v' (QU rs):=by
  intro hA;obtain⟨_,hdef,_,o,ρ,W,H,hxx,_⟩:=hr
  let R1:Nat→Prop:=if keep then RAll ⟨R',o,ρ⟩else λb=>∃L,o b=some L
  have hown:∀b L,o b=some L→b<w'.heap.size∧w.heap.size≤b:=λb L hb=>by
   obtain⟨q1,q2⟩:=W.o b L hb;exact⟨q1,q2.resolve_right id⟩
  have hR1:∀b,R1 b→b<w'.heap.size∧((keep=true∧R b)∨w.heap.size≤b):=λb hb=>by
   cases keep with
   |true=>
    rcases(show RAll ⟨R',o,ρ⟩ b from hb)with hb|⟨L,hb⟩
    ·exact⟨(W.R b hb).1,(hX.2 b hb).imp (λh=>⟨rfl,h⟩) id⟩
    exact⟨(hown b L hb).1,.inr (hown b L hb).2⟩
   |false=>
    obtain⟨L,hb⟩:=hb;exact⟨(hown b L hb).1,.inr (hown b L hb).2⟩
  have hcell:∀k,k<ts.length→XRel w' R1 noρ (a.tmps.getD (ts.getD k 0) undef) (rs.getD k .bot):=by
   intro k hk;have h1:=hA.pur k hk;have h2:=hxx (ts.getD k 0);cases hkp:keep with
   |true=>subst hkp;exact(Q5l H h1 h2).1
   |false=>
    subst hkp;have h3:=hA.own rfl k hk;generalize st.get (ts.getD k 0)=av at h1 h2 h3;generalize rs.getD k .bot=rv at h1 h3⊢;generalize a.tmps.getD (ts.getD k 0) undef=vv at h2⊢;cases av with
    |val v=>
     cases h1 with
     |val=>obtain⟨rfl,hs⟩:=h2.val_eq;exact .r (.val hs)
     |nil=>obtain⟨rfl,hs⟩:=h2.val_eq;exact .r (.nil (by decide))
    |mp id=>
     cases h1 with
     |mp he hk=>
      obtain⟨b,rfl,hb⟩:=h2.mp_eq;obtain⟨b',q1,q2,q3,q4⟩:=(H.map _ _ _ _ he hb).plain hk;simp only[Bk.mk.injEq,qA,and_true]at q1;subst q1;exact .r (.cmap ⟨_,q2⟩ q3 q4)
     |mpG he=>exact False.elim h3
    |_=>exact False.elim h3
  refine⟨hdef,_,Q33 hrt _,_,R1,rfl,⟨W.os,W.tape,W.output,W.size,λb hb=>W.keep b hb id⟩,hR1,?_⟩;have hl:=hA.len
  match ts,rs,hl,hcell with
  |[],[],_,_=>exact .tup rfl λk hk=>by simp at hk
  |[t],[r],_,hcell=>exact hcell 0 (by simp)
  |t::u::ts,r::s::rs,hl,hcell=>
   simp only[qK,Q2E,QU];refine .tup (by simp at hl;simp;omega) λk hk=>?_;have hk':k<(t::u::ts).length:=(by simp at hl hk;simp;omega);have:=hcell k hk';have h1:((a.tmps.getD t undef::a.tmps.getD u undef::ts.map λt=>a.tmps.getD t undef).toArray).getD k undef=a.tmps.getD ((t::u::ts).getD k 0) undef:=by
    have e1:(a.tmps.getD t undef::a.tmps.getD u undef::ts.map λt=>a.tmps.getD t undef)=(t::u::ts).map λt=>a.tmps.getD t undef:=rfl;rw[e1];have hk2:k<(List.map (λt=>a.tmps.getD t undef) (t::u::ts)).toArray.size:=(by simpa using hk');rw[yA,zK hk2,zL];simp only[List.getElem_toArray,List.getElem_map];rw[qB,qF hk',zL]
   rw[h1];exact this
 cases e with
 |normal=>exact fin hq
 |ret=>exact fin hq
 |_=>exact hq.elim
theorem RetF.nil{keep:Bool}{st:St}:RetF keep [] st []:=⟨rfl,λk hk=>by simp at hk,λ_ k hk=>by simp at hk⟩
theorem RetF.cons{keep:Bool}{t:Nat}{ts:List Nat}{st:St}{r:AV}{rs:List AV}(hp:PurTo st.hp (st.get t) r)(ho:keep=false→ownRet (st.get t) r)(h:RetF keep ts st rs):RetF keep (t::ts) st (r::rs):=by
 refine⟨by simp[h.len],λk hk=>?_,λhkp k hk=>?_⟩
 ·cases k with
  |zero=>exact hp
  |succ k=>simpa using h.pur k (by simpa using hk)
 cases k with
 |zero=>exact ho hkp
 |succ k=>simpa using h.own hkp k (by simpa using hk)
end
section
attribute [local simp] Qa QD Qo
theorem wp_wk{P:Program}{F:Fx}{c:Code}{AQ:Exit→St→Prop}{st:St}(h:Wp P F c (λe st=>∃st',Wk F st st'∧AQ e st') st):Wp P F c AQ st:=by
 intro a w hr;refine wp_mono (h a w hr) λe a w he=>?_;obtain⟨st1,h1,st2,h2,h3⟩:=he;exact⟨st2,h2 a w h1,h3⟩
def Qao(F:Fx)(ts:List Nat)(H:List (Nat×Ent))(n:Nat)(e:Eff):Exit→St→Prop
 | .normal,st=>∃st',Wk F st st'∧IRet ts H n e st'
 | .ret,st=>∃st',Wk F st st'∧IRet ts H n e st'
 |_,_=>False
theorem Q1D{P:Program}{f:Nat}{fn:Func}{c:Code}{az:List AV}{ts:List Nat}{H:List (Nat×Ent)}{n:Nat}{e:Eff}(hf:P.funcs[f]? =some fn)(hb:fn.body=some c)(hrt:resT fn.results=some ts)(hname:(fn.name=="runtime.NumGoroutine")=false)(hN:az.length≤fn.ntmps)(hH:∀p∈H,p.1<n)(hfine:e.fine n)(hnew:∀id,n≤id→id<n+e.cnt→id∈e.new.map qG)(h:∀F:Fx,F.N=fn.ntmps→F.pins=n→Wp P F c (Qao F ts H n e) ⟨Q2J 0 az,H,n⟩):ICon P f az (λid=>look id H) n e:=by
 refine Qb5 hf hb hrt hname hN hH hfine hnew λF h1 h2=>wp_wk (Wp.mono ?_ (h F h1 h2));intro ex st hq;cases ex with
 |normal=>exact hq
 |ret=>exact hq
 |_=>exact hq.elim
theorem iw_r{F:Fx}{ts:List Nat}{H:List (Nat×Ent)}{n:Nat}{e:Eff}{st st':St}(h:Wk F st st')(h2:IRet ts H n e st'):Qao F ts H n e .ret st:=⟨st',h,h2⟩
theorem iw_n{F:Fx}{ts:List Nat}{H:List (Nat×Ent)}{n:Nat}{e:Eff}{st st':St}(h:Wk F st st')(h2:IRet ts H n e st'):Qao F ts H n e .normal st:=⟨st',h,h2⟩
structure IRetG(P:Program)(rvs:List ResultVar)(H:List (Nat×Ent))(n:Nat)(e:Eff)(st:St):Prop where
 res:∃az,RGet P st rvs az∧QU az=e.v
 n:st.n=n+e.cnt
 h:st.h=Q5B e.set (Q4I e.del H)++e.new
def pinsB(n:Nat)(m:List (Nat×Nat)):Bool:=(zW n).all λi=>look i m==some i
theorem pins_ok{n:Nat}{m:List (Nat×Nat)}(h:pinsB n m=true):∀id,id<n→look id m=some id:=by
 intro id hid;unfold pinsB at h;have:=List.all_eq_true.1 h id (List.mem_range.2 hid);simpa using this
theorem Wk.rP{F:Fx}{st st':St}(n:Nat)(m:List (Nat×Nat))(hP:F.pins=n)(hpin:pinsB n m=true)(h:(m.map qG).Nodup∧(m.map Prod.snd).Nodup∧(∀p∈m,p.2<st'.n)∧(∀p∈st'.h,p.1<st'.n)∧(∀p∈st'.s,p.2=rl m (st.get p.1)∨p.2= .bot)∧∀p∈st'.h,hhOk m st.h p.1 p.2):Wk F st st':=
 Wk.rel m h.1 h.2.1 (by rw[hP];exact pins_ok hpin) h.2.2.1 h.2.2.2.1 h.2.2.2.2.1 h.2.2.2.2.2
theorem Q4L{e:Eff}{n:Nat}(h:(∀p∈e.new,n≤p.1∧p.1<n+e.cnt)∧(e.new.map qG).Nodup∧(∀x∈e.del,x<n)∧(e.set.map qG).Nodup∧∀p∈e.set,p.1<n):e.fine n:=⟨h.1,h.2.1,h.2.2.1,h.2.2.2⟩
def newB(n cnt:Nat)(l:List Nat):Bool:=(zW cnt).all λi=>l.contains (n+i)
theorem newI{e:Eff}{n:Nat}(h:newB n e.cnt (e.new.map qG)=true):∀id,n≤id→id<n+e.cnt→id∈e.new.map qG:=by
 intro id h1 h2;unfold newB at h;have:=List.all_eq_true.1 h (id - n) (List.mem_range.2 (by omega));rw[show n+(id - n)=id by omega]at this;simpa using this
def QaI(sz:Nat)(es:List (List AV)):Prop:=∀e∈es,e.length=sz∧∀c∈e,AV.ro c=true
theorem roPur{h:HP}{c:AV}(hc:c.ro=true):PurTo h c c:=by
 cases c with
 |val=>exact .val
 |lst=>exact .lst
 |rptr=>exact .rptr
 |cmap=>exact .cmap
 |cmapM=>exact .cmapM
 |fn f cs=>
  refine .fn rfl (λk hk ds e=>?_) λk hk=>?_
  ·have h4:=Q82 hc hk;rw[e]at h4;cases h4
  have h4:=Q82 hc hk;generalize cs.getD k .bot=a at h4;cases a with
  |val=>exact .val
  |lst=>exact .lst
  |rptr=>exact .rptr
  |cmap=>exact .cmap
  |cmapM=>exact .cmapM
  |_=>cases h4
 |_=>cases hc
theorem PurTo.smix{h:HP}{id n sz:Nat}{u:Bool}{es:List (List AV)}(he:h id=some (.mix sz es))(hn:n=es.length)(hr:QaI sz es):PurTo h (.own id 0 n) (.lst u sz es):=by
 subst hn;refine .mix he (by omega) rfl (λi hi=>?_) λi k hi hk=>?_
 ·have hm:es.getD i []∈es:=by simp[qB,qF hi]
  exact(hr _ hm).1
 have hm:es.getD i []∈es:=by simp[qB,qF hi]
 have hk':k<(es.getD i []).length:=by rw[(hr _ hm).1];exact hk
 rw[Nat.zero_add];refine roPur ((hr _ hm).2 _ ?_);generalize es.getD i []=q at hk';simp[qB,qF hk']
theorem Q7d{α:Type}{c:α→List AV}{sz:Nat}{xs:List α}(h:∀x,(c x).length=sz∧∀d∈c x,AV.ro d=true):QaI sz (xs.map c):=by
 intro e he;obtain⟨x,_,rfl⟩:=List.mem_map.1 he;exact h x
theorem RetF.two{t:Nat}{ts:List Nat}{st:St}{r:AV}{rs:List AV}(hp:PurTo st.hp (st.get t) r)(h:RetF true ts st rs):RetF true (t::ts) st (r::rs):=.cons hp (λh=>by cases h) h
end
section
attribute [local simp] Qa QD Qo
theorem stoX_row{op:Op}{P:Program}{mt:MT}{fz:List Nat}{all:Array Oper}{t:TypeId}{ty:Tyi}{xv b:AV}{id i k sz:Nat}{es es2:List (List AV)}{ds:List Nat}{dst:Option Nat}{os:List Oper}{st:St}{K:St→Prop}(dels:List Nat)(h1:tyi P t=some ty)(h2:ty.sz=1)(he:look id st.h=some (.row sz es))(hl:layC st.hp xv=some (b,ds))(hi:i<es.length)(hk:k<sz)(hn:(id::ds).Nodup)(hlt:∀y∈ds++dels,y<st.n)(ha:∀p∈st.h,Q8F p.2=true→p.1∈dels)(h2':es.set i ((es.getD i []).set k b)=es2)(h:runX P mt fz all os (st.app dst {v:=.bot,set:=[(id,.row sz es2)],del:=ds++dels}) K):stoZ P mt all op t (.adr id i k) xv dst os st K:=by
 subst h2';exact Qbr dels h1 h2 ⟨he,hl,hi,hk,hn,hlt,λid' _ _ _ _ _ h3=>.inl (ha (id',_) (Qf h3) rfl)⟩ h
theorem w_label{P:Program}{F:Fx}{AQ:Exit→St→Prop}{st:St}{l:Nat}(h:AQ .normal st):Wp P F (.label l) AQ st:=λ_ _ hr=>wp_label ⟨st,hr,h⟩
end
section
attribute [local simp] Qa QD Qo
def shm(n cnt:Nat):List (Nat×Nat):=(zW cnt).map λi=>(i,n+i)
theorem look_map{n:Nat}:∀(l:List Nat) (i:Nat),look i (l.map λi=>(i,n+i))=if i∈l then some (n+i)else none:=by
 intro l
 induction l with
 |nil=>intro i;simp[look]
 |cons a r ih=>
  intro i;simp only[qK,look,ih,List.mem_cons]
  by_cases h:a=i
  ·subst h;simp
  have:¬i=a:=λq=>h q.symm;simp[h,this]
theorem Q1z{n cnt i:Nat}:look i (shm n cnt)=if i<cnt then some (n+i)else none:=by
 unfold shm;rw[look_map];simp
theorem shm_fst(n cnt:Nat):((shm n cnt).map qG).Nodup:=by
 have:(shm n cnt).map qG=zW cnt:=by simp[shm,Function.comp_def]
 rw[this];exact List.nodup_range
theorem shm_snd(n cnt:Nat):((shm n cnt).map Prod.snd).Nodup:=by
 have:(shm n cnt).map Prod.snd=(zW cnt).map (n+·):=by simp[shm,Function.comp_def]
 rw[this];exact List.Pairwise.map (R:=λa b=>a≠b) _ (λa b h e=>h (by omega)) List.nodup_range
theorem ro_rel{w:World}{R:Nat→Prop}{ρ ρ':Nat→Option Bk}{v:Value}{a:AV}(h:XRel w R ρ v a)(ha:AV.ro a=true):XRel w R ρ' v a:=by
 exact .r (h.toR ha)
def Q6M:Ent→Bool
 | .ali _ _ _ _=>false
 |_=>true
theorem ICon.lift{P:Program}{f:Nat}{vs:List AV}{e e':Eff}{h:HP}{n:Nat}(hc:ICon P f vs (λ_=>none) 0 e)(hro:∀a∈vs,AV.ro a=true)(hs:e.set=[]∧e.del=[])(hs':e'.set=[]∧e'.del=[])(hcnt:e'.cnt=e.cnt)(hv:e'.v=rl (shm n e.cnt) e.v)(hna:∀p∈e.new,Q6M p.2=true)(hnew:∀i,i<e.cnt→∃x y,look i e.new=some x∧rlE (shm n e.cnt) x=some y∧(n+i,y)∈e'.new)(hfine:e'.fine n):ICon P f vs h n e':=by
 refine⟨hc.enters,λ_=>hfine,λC w g h' vals hag hnw hlim W H hsz hargs=>?_⟩;have hf0:=hc.fine (λid x hx=>by cases hx);have W0:WF ⟨w,λ_=>False,λ_=>none,0⟩ w ⟨g.R,λ_=>none,λ_=>none⟩:=⟨λb hb=>⟨(W.R b hb).1,rfl⟩,(λb L hb=>by cases hb),rfl,⟨rfl,qE _⟩,rfl,qE _,λb _ _=>rfl⟩;have H0:HRel w ⟨g.R,λ_=>none,λ_=>none⟩ (λid=>look id e.new):=⟨(λid sz es bk _ hb=>by cases hb),(λid sz es bk _ hb=>by cases hb),(λid c i k sz bk _ hb=>by cases hb),(λid kd es bk _ hb=>by cases hb)⟩;refine(hc.calls _ w _ _ vals (λid hid=>absurd hid (Nat.not_lt_zero _)) (λp hp=>Q18 hf0.nodup hp) (λid k hk=>by cases hk) W0 H0 hsz (λk hk=>ro_rel (hargs k hk) (hro _ (by
  rw[qB,qF hk];exact zY hk)))).mono λex w' ⟨v,R',o',ρ',q0,q1,q2,q3,q4,q5,q6,q7⟩=>?_
 rw[QV hs.1 hs.2]at q3;have ho':∀b L,o' b=some L→w.heap.size≤b∧b<w'.heap.size:=λb L hb=>⟨(q2.o b L hb).2.resolve_right id,(q2.o b L hb).1⟩;have hkeep:∀b,b<w.heap.size→w'.heap[b]? =w.heap[b]?:=λb hb=>q2.keep b hb id;have hgo:∀b L,o' b=some L→g.o b=none:=by
  intro b L hb;cases hg:g.o b with
  |none=>rfl
  |some M=>have:=(W.o b M hg).1;have:=(ho' b L hb).1;omega
 have hm2:=shm_snd n e.cnt;have hrρ:∀j bk,rlρ (shm n e.cnt) ρ' j=some bk→∃i,i<e.cnt∧j=n+i∧look i (shm n e.cnt)=some j∧ρ' i=some bk:=by
  intro j bk hj;simp only[rlρ]at hj;split at hj
  ·rename_i i hi;have hl:=Q7p (shm_fst n e.cnt) hi;have hl2:=hl;rw[Q1z]at hl2;split at hl2
   ·rename_i hlt;simp only[qA]at hl2;exact⟨i,hlt,hl2.symm,hl,hj⟩
   cases hl2
  cases hj
 have hgρ:∀j bk,rlρ (shm n e.cnt) ρ' j=some bk→g.ρ j=none:=by
  intro j bk hj;obtain⟨i,hi,rfl,_⟩:=hrρ j bk hj;cases hg:g.ρ (n+i)with
  |none=>rfl
  |some k=>have:=hlim _ _ hg;omega
 let o2:Nat→Option (List Nat):=λb=>match g.o b with|some L=>some L|none=>rlo (shm n e.cnt) o' b
 let ρ2:Nat→Option Bk:=λid=>match g.ρ id with|some k=>some k|none=>rlρ (shm n e.cnt) ρ' id
 have ho2:∀b L,g.o b=some L→o2 b=some L:=λb L hb=>by simp only[o2,hb]
 have ho3:∀b i M,i<e.cnt→o' b=some (i::M)→o2 b=some ((n+i)::M):=by
  intro b i M hi hb;simp only[o2,hgo b _ hb,rlo,hb,Q1z,if_pos hi]
 have hρ2:∀id k,g.ρ id=some k→ρ2 id=some k:=λid k hk=>by simp only[ρ2,hk]
 have hρ3:∀id k,rlρ (shm n e.cnt) ρ' id=some k→ρ2 id=some k:=λid k hk=>by simp only[ρ2,hgρ id k hk,hk]
 have hX:∀v a,XRel w' R' ρ' v a→XRel w' R' ρ2 v (rl (shm n e.cnt) a):=λv a hx=>(QaH hm2 hx).mono (λb hb=>⟨hb,rfl⟩) hρ3;have hent:∀id x bk,h' id=some x→g.ρ id=none→ρ2 id=some bk→∃i y,i<e.cnt∧id=n+i∧ρ' i=some bk∧look i e.new=some y∧rlE (shm n e.cnt) y=some x∧Q6M y=true:=by
  intro id x bk hx hg hb;simp only[ρ2,hg]at hb;obtain⟨i,hi,rfl,_,hr⟩:=hrρ id bk hb;obtain⟨y,z,h1,h2,h3⟩:=hnew i hi;have:=hnw _ h3;simp only at this;rw[this]at hx;cases hx;exact⟨i,y,hi,rfl,hr,h1,h2,hna _ (Qf h1)⟩
 have H1:HRel w' ⟨g.R,o2,g.ρ⟩ h':=H.mono (λb hb=>hkeep b (W.R b hb).1) (λb L hb=>⟨ho2 b L hb,hkeep b (W.o b L hb).1⟩) (λ_ _ hk=>hk) (λid sz es bk _ h1 h2=>by rw[h1]at h2;cases h2) (λid sz es bk _ h1 h2=>by rw[h1]at h2;cases h2)
  (λid c i k sz bk _ h1 h2=>by rw[h1]at h2;cases h2)
 have H2:HRel w' ⟨R',o2,g.ρ⟩ h':=H1.growR q1.1;have H3:HRel w' ⟨R',o2,ρ2⟩ h':=by
  refine H2.mono (λ_ _=>rfl) (λb L hb=>⟨hb,rfl⟩) hρ2 (λid sz es bk he hg hb=>?_) (λid sz es bk he hg hb=>?_) (λid c i k sz bk he hg hb=>?_) (λid kd es bk he hg hb=>?_)
  ·obtain⟨i,y,hi,rfl,hr,h1,h2,h3⟩:=hent id _ bk he hg hb;cases y with
   |mix s2 e2=>
    simp only[rlE,qA,Ent.mix.injEq]at h2;obtain⟨rfl,rfl⟩:=h2;rcases(q3.mix i _ _ bk h1 hr).ex0 with⟨rfl,h0⟩|⟨b,cur,el,us,cpm,p1,p2,p3,p4,p5,p5',p6,p7,p8,p9⟩
    ·exact⟨.inl ⟨rfl,h0⟩⟩
    refine .mk' ⟨b,cur,el,us,cpm,p1,ho3 b i [] hi p2,p3,p4,by rw[QY];exact p5,p5',λj hj=>?_,λj l hj hl=>?_,λj l hj hl=>?_,λj l hj hl=>?_⟩
    ·rw[QY]at hj;rw[Q3w,Q1q];exact p6 j hj
    ·rw[QY]at hj;exact p7 j l hj hl
    ·rw[QY]at hj;exact p8 j l hj hl
    rw[QY]at hj;rw[Q3w,Q3R];exact hX _ _ (p9 j l hj hl)
   |row=>simp[rlE]at h2
   |mapE=>simp[rlE]at h2
   |ali=>cases h3
  ·obtain⟨i,y,hi,rfl,hr,h1,h2,h3⟩:=hent id _ bk he hg hb;cases y with
   |mix=>simp[rlE]at h2
   |row s2 e2=>
    simp only[rlE,qA,Ent.row.injEq]at h2;obtain⟨rfl,rfl⟩:=h2;obtain⟨v,hv,hh2⟩:=q3.row i _ _ bk h1 hr;exact⟨v,hv.mono (R':=R') [n+i] λb M hbo=>⟨ho3 b i M hi hbo,rfl⟩,hh2⟩
   |mapE=>simp[rlE]at h2
   |ali=>cases h3
  ·obtain⟨i0,y,hi,rfl,hr,h1,h2,h3⟩:=hent id _ bk he hg hb;cases y with
   |mix=>simp[rlE]at h2
   |row=>simp[rlE]at h2
   |mapE=>simp[rlE]at h2
   |ali=>cases h3
  obtain⟨i,y,hi,rfl,hr,h1,h2,h3⟩:=hent id _ bk he hg hb;cases y with
  |mix=>simp[rlE]at h2
  |row=>simp[rlE]at h2
  |mapE kd2 e2=>
   simp only[rlE,qA,Ent.mapE.injEq]at h2;obtain⟨rfl,rfl⟩:=h2;exact(q3.map i _ _ bk h1 hr).move (λb hb=>⟨hb,rfl⟩) λb M p2=>⟨ho3 b i M hi p2,rfl⟩
  |ali=>cases h3
 refine⟨v,R',o2,ρ2,q0,⟨q1.1,λb hb=>(q1.2 b hb).imp id (qL W.size)⟩,⟨λb hb=>⟨(q2.R b hb).1,?_⟩,λb L hb=>?_,q2.os.trans W.os,tpt q2.tape W.tape,q2.output.trans W.output,qL W.size q2.size,λb hb hw=>(hkeep b (qO hb W.size)).trans (W.keep b hb hw)⟩,by rw[QV hs'.1 hs'.2];exact H3,hρ2,λid k hk=>?_,by rw[hv];exact hX _ _ q6,q7⟩
 ·have h1:o' b=none:=(q2.R b hb).2;show o2 b=none;rcases q1.2 b hb with hg|hg
  ·simp only[o2,show g.o b=none from(W.R b hg).2,rlo,h1]
  have hg':g.o b=none:=by
   cases hq:g.o b with
   |none=>rfl
   |some M=>have:=(W.o b M hq).1;simp only at hg;omega
  simp only[o2,hg',rlo,h1]
 ·have hb':o2 b=some L:=hb;cases hq:g.o b with
  |some M=>exact⟨qO (W.o b M hq).1 q2.size,(W.o b M hq).2⟩
  |none=>
   simp only[o2,hq,rlo]at hb';split at hb'
   ·rename_i x M hx;exact⟨(ho' b _ hx).2,.inl (qL W.size (ho' b _ hx).1)⟩
   cases hb'
 have hk':ρ2 id=some k:=hk;cases hg:g.ρ id with
 |some k2=>simp only[ρ2,hg]at hk';exact .inl hk'
 |none=>
  simp only[ρ2,hg]at hk';obtain⟨i,hi,rfl,_⟩:=hrρ id k hk';exact .inr ⟨by omega,by omega⟩
def rlE'(m:List (Nat×Nat))(x:Ent):Ent:=(rlE m x).getD x
@[simp] theorem rlE'_mix{m:List (Nat×Nat)}{sz:Nat}{es:List (List AV)}:rlE' m (.mix sz es)= .mix sz (rlLL m es):=rfl
@[simp] theorem rlE'_row{m:List (Nat×Nat)}{sz:Nat}{es:List (List AV)}:rlE' m (.row sz es)= .row sz es:=rfl
@[simp] theorem rlE'_map{m:List (Nat×Nat)}{kd:MK}{es:List (Value×Value)}:rlE' m (.mapE kd es)= .mapE kd es:=rfl
theorem ICon.liftL{P:Program}{f:Nat}{vs:List AV}{e e':Eff}{h:HP}{n:Nat}(hc:ICon P f vs (λ_=>none) 0 e)(hro:∀a∈vs,AV.ro a=true)(hs:e.set=[]∧e.del=[])(hs':e'.set=[]∧e'.del=[])(hcnt:e'.cnt=e.cnt)(hv:e'.v=rl (shm n e.cnt) e.v)(hna:∀p∈e.new,Q6M p.2=true)(hcomp:newB 0 e.cnt (e.new.map qG)=true)(hn:e'.new=e.new.map λp=>(n+p.1,rlE' (shm n e.cnt) p.2))(hfine:e'.fine n):ICon P f vs h n e':=by
 refine hc.lift hro hs hs' hcnt hv hna (λi hi=>?_) hfine;have hm:=newI (n:=0) (e:=e) hcomp i (zV _) (by omega);obtain⟨p,hp,rfl⟩:=List.mem_map.1 hm;have hf0:=hc.fine (λid x hx=>by cases hx);refine⟨p.2,rlE' (shm n e.cnt) p.2,Q18 hf0.nodup hp,?_,by rw[hn];exact List.mem_map.2 ⟨p,hp,rfl⟩⟩;have:=hna p hp;generalize p.2=x at this;cases x with
 |ali=>cases this
 |_=>rfl
end
section
attribute [local simp] Qa QD Qo
inductive PreL:List AV→List AV→Prop
 |nil:PreL [] []
 |eq {a az bs}:PreL az bs→PreL (a::az) (a::bs)
 |pre {xs cs az bs}:xs.take cs.length=cs→PreL az bs→PreL (.rptr xs::az) (.rptr cs::bs)
 |nz {u sz az bs}:PreL az bs→PreL (.val (.slice none 0 0)::az) (.lst u sz []::bs)
 |nl {id u sz az bs}:PreL az bs→PreL (.own id 0 0::az) (.lst u sz []::bs)
theorem PreL.at{az bs:List AV}(h:PreL az bs):az.length=bs.length∧∀k,k<az.length→∀{w:World} {R:Nat→Prop} {ρ:Nat→Option Bk} {v:Value},XRel w R ρ v (az.getD k .bot)→XRel w R ρ v (bs.getD k .bot):=by
 induction h with
 |nil=>exact⟨rfl,λk hk=>by simp at hk⟩
 |eq _ ih=>
  refine⟨by simp[ih.1],λk hk=>?_⟩;cases k with
  |zero=>intro w R ρ v hx;exact hx
  |succ k=>intro w R ρ v hx;exact ih.2 k (by simpa using hk) hx
 |@pre xs cs az bs e _ ih=>
  refine⟨by simp[ih.1],λk hk=>?_⟩;cases k with
  |succ k=>intro w R ρ v hx;exact ih.2 k (by simpa using hk) hx
  |zero=>
   intro w R ρ v hx;have hx':XRel w R ρ v (.rptr xs):=hx;obtain⟨b,x,cur,el,fr,us,h1,h2,h3,h4,h5,h6⟩:=hx'.rptr_eq;have hl:cs.length≤xs.length:=by
    have:=congrArg List.length e;simp at this;omega
   subst h1;show XRel w R ρ _ (.rptr cs);refine .r (.rptr us h2 h3 (λk hk=>h4 k (by omega)) (λk hk=>h5 k (by omega)) λk hk=>?_);have:=h6 k (by omega);have e2:cs.getD k .bot=xs.getD k .bot:=by
    rw[←e];simp[qB,hk]
   rw[e2];exact this
 |@nz u sz az bs _ ih=>
  refine⟨by simp[ih.1],λk hk=>?_⟩;cases k with
  |succ k=>intro w R ρ v hx;exact ih.2 k (by simpa using hk) hx
  |zero=>
   intro w R ρ v hx;have hx':XRel w R ρ v (.val (.slice none 0 0)):=hx;show XRel w R ρ _ (.lst u sz []);rw[hx'.val_eq.1];exact .r (.nil (by decide))
 |@nl id u sz az bs _ ih=>
  refine⟨by simp[ih.1],λk hk=>?_⟩;cases k with
  |succ k=>intro w R ρ v hx;exact ih.2 k (by simpa using hk) hx
  |zero=>
   intro w R ρ v hx;have hx':XRel w R ρ v (.own id 0 0):=hx;show XRel w R ρ _ (.lst u sz []);rcases hx'.own_eq with⟨_,_,_,e2,_,_⟩|⟨b,_,cap,cc,x,_,e2,e3,_,_,_,e7⟩
   ·rw[e2];exact .r (.nil (by simp))
   rw[e2];exact .r (.nil (by omega))
theorem ICon.preL{P:Program}{f:Nat}{az bs:List AV}{h:HP}{n:Nat}{e:Eff}(hp:PreL az bs)(hc:ICon P f bs h n e):ICon P f az h n e:=
 ⟨hc.enters,hc.fine,λC w g h' vals h1 h2 h3 W H hsz hx=>hc.calls C w g h' vals h1 h2 h3 W H (by rw[←hp.at.1];exact hsz) λk hk=>hp.at.2 k (by rw[hp.at.1];exact hk) (hx k (by rw[hp.at.1];exact hk))⟩
end
section
attribute [local simp] Qa QD Qo
structure RetFG(P:Program)(rvs:List ResultVar)(st:St)(rs:List AV):Prop where
 ex:∃az,RGet P st rvs az∧PurL st.hp az rs
def retFGQ(P:Program)(rvs:List ResultVar)(rs:List AV):Exit→St→Prop
 | .normal,st=>RetFG P rvs st rs
 | .ret,st=>RetFG P rvs st rs
 |_,_=>False
theorem Q5J{P:Program}{f:Nat}{fn:Func}{c:Code}{args:List AV}{rvs:List ResultVar}{rs:List AV}{res:AV}(hf:P.funcs[f]? =some fn)(hb:fn.body=some c)(hrt:fn.results=rvs.toArray)(hrs:res=QU rs)(hname:(fn.name=="runtime.NumGoroutine")=false)(hN:args.length≤fn.ntmps)(h:∀F:Fx,F.N=fn.ntmps→F.pins=0→Wp P F c (retFGQ P rvs rs) ⟨Q2J 0 args,[],0⟩):FContract P true f args res:=by
 subst hrs;refine⟨⟨fn,hf,hname,by rw[hb];rfl⟩,λw R vals hR hsz hx=>?_⟩;refine calls_of_wp hf hb ?_
 let C:Ctx:=⟨w,λ_=>False,λ_=>none,0⟩
 have hrel:Rel C R fn.ntmps {tmps:=vals++zT (fn.ntmps - vals.size) undef,defers:=[]} w ⟨Q2J 0 args,[],0⟩:=by
  refine⟨by simp;omega,rfl,(λid x h=>by cases h),λ_=>none,noρ,⟨λb hb=>⟨hR b hb,rfl⟩,(λb L hb=>by cases hb),rfl,⟨rfl,qE _⟩,rfl,qE _,λb _ _=>rfl⟩,⟨(λid sz es bk _ hb=>by cases hb),(λid sz es bk _ hb=>by cases hb),(λid c i k sz bk _ hb=>by cases hb),(λid kd es bk _ hb=>by cases hb)⟩,λt=>?_,(λid k hk=>by cases hk),?_⟩;rotate_left
  ·exact⟨λid hid=>absurd hid (Nat.not_lt_zero id),zV _⟩
  simp only[St.get,Q1V]
  by_cases ht:t<args.length
  ·rw[if_pos (by omega)];simp only[yD,zL];have:=hx t ht;have h2:(vals++zT (fn.ntmps - vals.size) undef).getD t undef=vals.getD t undef:=by
    simp[zZ,show t<vals.size by omega]
   rw[h2];exact this
  rw[if_neg (by omega)];exact .bot
 refine Q2R (λe a w' hq=>?_) (h ⟨C,R,fn.ntmps,0,rfl⟩ rfl rfl _ w (.of hrel));obtain⟨st,⟨R',hX,hr⟩,hq⟩:=hq;have fin:RetFG P rvs st rs→a.defers=[]∧∃v,(results fn a.tmps).run P w'= .ok v w'∧∃v' R1,Ending.returned v= .returned v'∧Blw w.heap.size w w'∧(∀b,R1 b→b<w'.heap.size∧((true=true∧R b)∨w.heap.size≤b))∧XRel w' R1 noρ v' (QU rs):=by
  intro hA;obtain⟨az,hg,hl,hp⟩:=hA.ex;obtain⟨_,hdef,_,o,ρ,W,H,hxx,_⟩:=hr;obtain⟨vs,h1,h2,h3⟩:=Q7Z H hxx hg
  let R1:Nat→Prop:=RAll ⟨R',o,ρ⟩
  have hown:∀b L,o b=some L→b<w'.heap.size∧w.heap.size≤b:=λb L hb=>by
   obtain⟨q1,q2⟩:=W.o b L hb;exact⟨q1,q2.resolve_right id⟩
  have hR1:∀b,R1 b→b<w'.heap.size∧((true=true∧R b)∨w.heap.size≤b):=λb hb=>by
   rcases(show RAll ⟨R',o,ρ⟩ b from hb)with hb|⟨L,hb⟩
   ·exact⟨(W.R b hb).1,(hX.2 b hb).imp (λh=>⟨rfl,h⟩) id⟩
   exact⟨(hown b L hb).1,.inr (hown b L hb).2⟩
  have hcell:∀k,k<vs.length→XRel w' R1 noρ (vs.getD k undef) (rs.getD k .bot):=λk hk=>(Q5l H (hp k (by omega)) (h3 k (by omega))).1;refine⟨hdef,_,Q4c hrt h1,_,R1,rfl,⟨W.os,W.tape,W.output,W.size,λb hb=>W.keep b hb id⟩,hR1,?_⟩;have hl2:vs.length=rs.length:=by omega
  match vs,rs,hl2,hcell with
  |[],[],_,_=>exact .tup rfl λk hk=>by simp at hk
  |[t],[r],_,hcell=>exact hcell 0 (by simp)
  |t::u::ts,r::s::rs,hl,hcell=>
   simp only[Q2E,QU];refine .tup (by simp at hl;simp;omega) λk hk=>?_;have hk':k<(t::u::ts).length:=(by simp at hl hk;simp;omega);have:=hcell k hk';have h1:((t::u::ts).toArray).getD k undef=(t::u::ts).getD k undef:=by
    have hk2:k<(t::u::ts).toArray.size:=(by simpa using hk');rw[yA,zK hk2,zL];simp only[List.getElem_toArray];rw[qB,qF hk',zL]
   rw[h1];exact this
 cases e with
 |normal=>exact fin hq
 |ret=>exact fin hq
 |_=>exact hq.elim
theorem RetFG.mk'{P:Program}{rvs:List ResultVar}{st:St}{az rs:List AV}(hg:RGet P st rvs az)(hp:PurL st.hp az rs):RetFG P rvs st rs:=⟨_,hg,hp⟩
def pko(p i k j:Nat)(o:Nat→Option (List Nat)):Nat→Option (List Nat):=λb=>match o b with
 |some (x::M)=>if x=p then(match M with
  |i'::k'::M'=>if i'=i∧k'=k then some (j::M')else none
  |_=>none)else some (x::M)
 |_=>none
theorem Q6p{p i k j:Nat}{o:Nat→Option (List Nat)}{b x:Nat}{M:List Nat}(h:o b=some (x::M))(hx:x≠p):pko p i k j o b=some (x::M):=by
 simp only[pko,h,if_neg hx]
theorem pko_cell{p i k j:Nat}{o:Nat→Option (List Nat)}{b:Nat}{M:List Nat}(h:o b=some (p::i::k::M)):pko p i k j o b=some (j::M):=by
 simp[pko,h]
theorem pko_some{p i k j:Nat}{o:Nat→Option (List Nat)}{b:Nat}{L:List Nat}(h:pko p i k j o b=some L):∃L',o b=some L':=by
 unfold pko at h;split at h
 ·rename_i hb;exact⟨_,hb⟩
 cases h
theorem Wk.pick{F:Fx}{st st':St}{p j i k sz sz2:Nat}{es es2:List (List AV)}(hp:look p st.h=some (.row sz es))(hj:look j st.h=some (.ali p i k sz2))(hi:i<es.length)(hk:k<sz)(hc:(es.getD i []).getD k .bot= .lst true sz2 es2)(hs:∀q∈st'.s,st.get q.1=q.2∨q.2= .bot)(hn:st'.n=st.n)(hh:∀q∈st'.h,q=(j,.row sz2 es2)∨(q.1≠p∧look q.1 st.h=some q.2∧(match q.2 with|.ali _ _ _ _=>False|_=>True))):Wk F st st':=by
 intro a w ⟨R,hX,hr⟩;obtain⟨r1,r2,r3,o,ρ,W,H,hx,hρ,hpn⟩:=hr;have hent:∀id e,st'.hp id=some e→(id=j∧e= .row sz2 es2)∨(id≠p∧st.hp id=some e∧(match e with|.ali _ _ _ _=>False|_=>True)):=λid e h=>by
  rcases hh (id,e) (Qf h)with q|q
  ·simp only[qC]at q;exact .inl q
  exact .inr q
 refine⟨R,hX,r1,r2,λid x hx'=>?_,pko p i k j o,ρ,⟨λb hb=>⟨(W.R b hb).1,?_⟩,λb L hb=>?_,W.os,W.tape,W.output,W.size,W.keep⟩,⟨λid z xs bk h1 h2=>?_,λid z xs bk h1 h2=>?_,λid c i' k' z bk h1 h2=>?_,λid kd xs bk h1 h2=>?_⟩,λt=>?_,λid kk hk'=>?_,λid hid=>hpn.1 id hid,by rw[hn];exact hpn.2⟩
 ·rw[hn];rcases hent id x hx' with⟨rfl,_⟩|⟨_,q,_⟩
  ·exact r3 _ _ hj
  exact r3 _ _ q
 ·have h3:o b=none:=(W.R b hb).2;simp only[pko,h3]
 ·obtain⟨L',h3⟩:=pko_some hb;exact W.o b L' h3
 ·rcases hent id _ h1 with⟨_,q⟩|⟨q1,q2,_⟩
  ·cases q
  rcases(H.mix id z xs bk q2 h2).ex0 with h0|⟨b,cur,el,us,cp,p1,p2,p3⟩
  ·exact⟨.inl h0⟩
  exact .mk' ⟨b,cur,el,us,cp,p1,Q6p p2 q1,p3⟩
 ·rcases hent id _ h1 with⟨rfl,q⟩|⟨q1,q2,_⟩
  ·simp only[Ent.row.injEq]at q;obtain⟨rfl,rfl⟩:=q;obtain⟨e1,bkc,e2,e3⟩:=H.ali id p i k z bk hj h2;obtain⟨bc,cur,el,v,c1,c2,c3,c4⟩:=e3 1 sz es (by simp only[cont];rw[show st.hp p=some (.row sz es) from hp]) (by rw[show st.hp p=some (.row sz es) from hp];rfl) hi hk;obtain⟨vp,t1,t2⟩:=H.row p sz es bkc hp e2;generalize hL:([p]:List Nat)=L at t1;cases t1 with
   |nil=>simp at hi
   |@own _ _ _ b cap cur' el' us u1 u2 u3 u4 u5 u6 u7 u8 u9=>
    subst hL;cases t2;simp only[qA]at c1;subst c1;rw[u2]at c2;simp only[qA,Obj.cells.injEq]at c2;obtain⟨rfl,_,_⟩:=c2;have hv:us i k=v:=by
     have:=u7 i k hi hk;rw[c3]at this;exact(Option.some.inj this).symm
    have T:=u9 i k hi hk;rw[hc,hv]at T;refine⟨v,T.mono [id] λb' M hb'=>⟨?_,rfl⟩,?_⟩
    ·have:o b'=some (p::i::k::M):=(by simpa using hb');simpa using pko_cell (j:=id) this
    rcases c4 with c4|c4
    ·exact c4
    exact(T.scn_lst c4).elim
  obtain⟨v,t1,t2⟩:=H.row id z xs bk q2 h2;exact⟨v,t1.same λb M hb=>⟨by
   have h3:o b=some (id::M):=(by simpa using hb);simpa using Q6p h3 q1,rfl⟩,t2⟩
 ·rcases hent id _ h1 with⟨_,q⟩|⟨_,_,q⟩
  ·cases q
  exact q.elim
 ·rcases hent id _ h1 with⟨_,q⟩|⟨q1,q2,_⟩
  ·cases q
  exact(H.map id kd xs bk q2 h2).move (λb hb=>⟨hb,rfl⟩) λb M p2=>⟨Q6p p2 q1,rfl⟩
 ·cases hl:look t st'.s with
  |none=>simp only[St.get,hl,zO];exact .bot
  |some v=>
   simp only[St.get,hl,zL];rcases hs _ (Qf hl)with h|h
   ·simp only at h;rw[←h];exact hx t
   simp only at h;rw[h];exact .bot
 rw[hn];exact hρ id kk hk'
end
section
attribute [local simp] Qa QD Qo
def fzo(j:Nat)(o:Nat→Option (List Nat)):Nat→Option (List Nat):=λb=>match o b with
 |some (x::M)=>if x=j then none else some (x::M)
 |y=>y
theorem Q63{j:Nat}{o:Nat→Option (List Nat)}{b x:Nat}{M:List Nat}(h:o b=some (x::M))(hx:x≠j):fzo j o b=some (x::M):=by
 simp only[fzo,h,if_neg hx]
theorem fzo_none{j:Nat}{o:Nat→Option (List Nat)}{b:Nat}{M:List Nat}(h:o b=some (j::M)):fzo j o b=none:=by
 simp[fzo,h]
theorem fzo_some{j:Nat}{o:Nat→Option (List Nat)}{b:Nat}{L:List Nat}(h:fzo j o b=some L):o b=some L:=by
 unfold fzo at h;split at h
 ·split at h
  ·cases h
  rename_i hb _;rw[hb];exact h
 exact h
theorem Wk.frzL{F:Fx}{st st':St}(hW:∀b,¬F.C.wrb b){j sz:Nat}{es:List (List AV)}(hj:look j st.h=some (.mix sz es))(hr:QaI sz es)(hs:∀q∈st'.s,st.get q.1=q.2∨q.2= .bot∨(st.get q.1= .own j 0 es.length∧q.2= .lst true sz es))(hn:st'.n=st.n)(hh:∀q∈st'.h,q.1≠j∧look q.1 st.h=some q.2∧(match q.2 with|.ali _ _ _ _=>False|_=>True)):Wk F st st':=by
 intro a w ⟨R,hX,hr0⟩;obtain⟨r1,r2,r3,o,ρ,W,H,hx,hρ,hpn⟩:=hr0;have hent:∀id e,st'.hp id=some e→id≠j∧st.hp id=some e∧(match e with|.ali _ _ _ _=>False|_=>True):=λid e h=>hh (id,e) (Qf h);have hRR:∀b,R b→(R b∨∃M,o b=some (j::M))∧w.heap[b]? =w.heap[b]?:=λb hb=>⟨.inl hb,rfl⟩;refine⟨λb=>R b∨∃M,o b=some (j::M),⟨λb hb=>.inl (hX.1 b hb),λb hb=>?_⟩,r1,r2,λid x hx'=>?_,fzo j o,ρ,⟨λb hb=>?_,λb L hb=>W.o b L (fzo_some hb),W.os,W.tape,W.output,W.size,W.keep⟩,
  ⟨λid z xs bk h1 h2=>?_,λid z xs bk h1 h2=>?_,λid c i' k' z bk h1 h2=>?_,λid kd xs bk h1 h2=>?_⟩,λt=>?_,λid kk hk'=>?_,λid hid=>hpn.1 id hid,by rw[hn];exact hpn.2⟩
 ·rcases hb with hb|⟨M,hb⟩
  ·exact hX.2 b hb
  rcases(W.o b _ hb).2 with h|h
  ·exact .inr h
  exact absurd h (hW b)
 ·rw[hn];exact r3 _ _ (hent id x hx').2.1
 ·rcases hb with hb|⟨M,hb⟩
  ·have h3:o b=none:=(W.R b hb).2;exact⟨(W.R b hb).1,by simp only[fzo,h3]⟩
  exact⟨(W.o b _ hb).1,fzo_none hb⟩
 ·obtain⟨q1,q2,_⟩:=hent id _ h1;rcases(H.mix id z xs bk q2 h2).ex0 with h0|⟨b,cur,el,us,cp,p1,p2,p3,p4,p5,p6,p7,p8,p9,p10⟩
  ·exact⟨.inl h0⟩
  exact .mk' ⟨b,cur,el,us,cp,p1,Q63 p2 q1,p3,p4,p5,p6,p7,p8,p9,λi k hi hk=>(p10 i k hi hk).mono hRR (λ_ _ h=>h)⟩
 ·obtain⟨q1,q2,_⟩:=hent id _ h1;obtain⟨v,t1,t2⟩:=H.row id z xs bk q2 h2;exact⟨v,t1.mono [id] λb M hb=>⟨by
   have h3:o b=some (id::M):=(by simpa using hb);simpa using Q63 h3 q1,rfl⟩,t2⟩
 ·exact(hent id _ h1).2.2.elim
 ·obtain⟨q1,q2,_⟩:=hent id _ h1;exact(H.map id kd xs bk q2 h2).move hRR λb M p2=>⟨Q63 p2 q1,rfl⟩
 ·cases hl:look t st'.s with
  |none=>simp only[St.get,hl,zO];exact .bot
  |some v=>
   simp only[St.get,hl,zL];rcases hs _ (Qf hl)with h|h|⟨h,h'⟩
   ·simp only at h;rw[←h];exact(hx t).mono hRR (λ_ _ h=>h)
   ·simp only at h;rw[h];exact .bot
   simp only at h h';rw[h'];have hv:=hx t;rw[h]at hv;rcases hv.own_eq with⟨sz',cap,e1,e2,_,e4⟩|⟨b,sz',cap,cc,x,e1,e2,e3,e4,e5,e6,e7⟩
   ·rw[e2];have:es=[]:=List.length_eq_zero_iff.1 e4;subst this;exact .r (.nil (by simp))
   obtain⟨b',cur,el,us,cp,p1,p2,p3,p4,p5,p6,p7,p8,p9,p10⟩:=(H.mix j sz es _ (show st.hp j=_ from hj) e1).ex (by simp);simp only[Bk.mk.injEq,qA]at p1;obtain⟨rfl,rfl,rfl⟩:=p1;have hx0:x=0:=e6 rfl;subst hx0;rw[e2];refine .r (.lst us (.inr ⟨[],p2⟩) p3 e4 (by omega) p7 (λi k hi hk=>by rw[Nat.zero_add];exact p8 i k hi hk) p9 λi k hi hk=>?_);have hm:es.getD i []∈es:=(by simp[qB,qF hi]);have hk':k<(es.getD i []).length:=(by rw[(hr _ hm).1];exact hk);have hro:((es.getD i []).getD k .bot).ro=true:=(hr _ hm).2 _ (by
    generalize es.getD i []=q at hk';simp[qB,qF hk'])
   exact((p10 i k hi hk).toR hro).mono λb hb=>⟨.inl hb,rfl⟩
 rw[hn];exact hρ id kk hk'
end
section
attribute [local simp] Qa QD Qo
def pkt(p i k j:Nat)(o:Nat→Option (List Nat)):Nat→Option (List Nat):=λb=>match o b with
 |some (x::M)=>if x=p then(match M with
  |[]=>some [p]
  |i'::k'::M'=>if i'=i∧k'=k then some (j::M')else none
  |_=>none)else some (x::M)
 |_=>none
theorem Q6q{p i k j:Nat}{o:Nat→Option (List Nat)}{b x:Nat}{M:List Nat}(h:o b=some (x::M))(hx:x≠p):pkt p i k j o b=some (x::M):=by
 simp only[pkt,h,if_neg hx]
theorem pkt_cell{p i k j:Nat}{o:Nat→Option (List Nat)}{b:Nat}{M:List Nat}(h:o b=some (p::i::k::M)):pkt p i k j o b=some (j::M):=by
 simp[pkt,h]
theorem pkt_root{p i k j:Nat}{o:Nat→Option (List Nat)}{b:Nat}(h:o b=some [p]):pkt p i k j o b=some [p]:=by
 simp[pkt,h]
theorem pkt_some{p i k j:Nat}{o:Nat→Option (List Nat)}{b:Nat}{L:List Nat}(h:pkt p i k j o b=some L):∃L',o b=some L':=by
 unfold pkt at h;split at h
 ·rename_i hb;exact⟨_,hb⟩
 cases h
theorem Wk.take{F:Fx}{st st':St}{p j i k sz sz2:Nat}{es es2 es':List (List AV)}(hp:look p st.h=some (.row sz es))(hj:look j st.h=some (.ali p i k sz2))(hpj:p≠j)(hi:i<es.length)(hk:k<sz)(hc:(es.getD i []).getD k .bot= .lst true sz2 es2)(hl:es'.length=es.length)(hz:∀i,i<es.length→(es'.getD i []).length=sz)(hb:∀i k,(es'.getD i []).getD k .bot= .bot)(hs:∀q∈st'.s,st.get q.1=q.2∨q.2= .bot)(hn:st'.n=st.n)(hh:∀q∈st'.h,q=(j,.row sz2 es2)∨q=(p,.mix sz es')∨(q.1≠p∧look q.1 st.h=some q.2∧(match q.2 with|.ali _ _ _ _=>False|_=>True))):Wk F st st':=by
 intro a w ⟨R,hX,hr⟩;obtain⟨r1,r2,r3,o,ρ,W,H,hx,hρ,hpn⟩:=hr;have hent:∀id e,st'.hp id=some e→(id=j∧e= .row sz2 es2)∨(id=p∧e= .mix sz es')∨(id≠p∧st.hp id=some e∧(match e with|.ali _ _ _ _=>False|_=>True)):=λid e h=>by
  rcases hh (id,e) (Qf h)with q|q|q
  ·simp only[qC]at q;exact .inl q
  ·simp only[qC]at q;exact .inr (.inl q)
  exact .inr (.inr q)
 refine⟨R,hX,r1,r2,λid x hx'=>?_,pkt p i k j o,ρ,⟨λb hb=>⟨(W.R b hb).1,?_⟩,λb L hb=>?_,W.os,W.tape,W.output,W.size,W.keep⟩,⟨λid z xs bk h1 h2=>?_,λid z xs bk h1 h2=>?_,λid c i' k' z bk h1 h2=>?_,λid kd xs bk h1 h2=>?_⟩,λt=>?_,λid kk hk'=>?_,λid hid=>hpn.1 id hid,by rw[hn];exact hpn.2⟩
 ·rw[hn];rcases hent id x hx' with⟨rfl,_⟩|⟨rfl,_⟩|⟨_,q,_⟩
  ·exact r3 _ _ hj
  ·exact r3 _ _ hp
  exact r3 _ _ q
 ·have h3:o b=none:=(W.R b hb).2;simp only[pkt,h3]
 ·obtain⟨L',h3⟩:=pkt_some hb;exact W.o b L' h3
 ·rcases hent id _ h1 with⟨_,q⟩|⟨rfl,q⟩|⟨q1,q2,_⟩
  ·cases q
  ·simp only[Ent.mix.injEq]at q;obtain⟨rfl,rfl⟩:=q;obtain⟨vp,t1,t2⟩:=H.row id z es bk hp h2;generalize hL:([id]:List Nat)=L at t1;cases t1 with
   |nil=>simp at hi
   |@own _ _ _ b cap cur' el' us u1 u2 u3 u4 u5 u6 u7 u8 u9=>
    subst hL;cases t2;exact .mk' ⟨b,cur',el',us,cap,rfl,pkt_root u1,u2,u3,by omega,u5,λi hi=>hz i (by omega),λi k hi hk=>u7 i k (by omega) hk,λi k hi hk=>u8 i k (by omega) hk,λi k hi hk=>by rw[hb i k];exact .bot⟩
  rcases(H.mix id z xs bk q2 h2).ex0 with h0|⟨b,cur,el,us,cp,p1,p2,p3⟩
  ·exact⟨.inl h0⟩
  exact .mk' ⟨b,cur,el,us,cp,p1,Q6q p2 q1,p3⟩
 ·rcases hent id _ h1 with⟨rfl,q⟩|⟨_,q⟩|⟨q1,q2,_⟩
  ·simp only[Ent.row.injEq]at q;obtain⟨rfl,rfl⟩:=q;obtain⟨e1,bkc,e2,e3⟩:=H.ali id p i k z bk hj h2;obtain⟨bc,cur,el,v,c1,c2,c3,c4⟩:=e3 1 sz es (by simp only[cont];rw[show st.hp p=some (.row sz es) from hp]) (by rw[show st.hp p=some (.row sz es) from hp];rfl) hi hk;obtain⟨vp,t1,t2⟩:=H.row p sz es bkc hp e2;generalize hL:([p]:List Nat)=L at t1;cases t1 with
   |nil=>simp at hi
   |@own _ _ _ b cap cur' el' us u1 u2 u3 u4 u5 u6 u7 u8 u9=>
    subst hL;cases t2;simp only[qA]at c1;subst c1;rw[u2]at c2;simp only[qA,Obj.cells.injEq]at c2;obtain⟨rfl,_,_⟩:=c2;have hv:us i k=v:=by
     have:=u7 i k hi hk;rw[c3]at this;exact(Option.some.inj this).symm
    have T:=u9 i k hi hk;rw[hc,hv]at T;refine⟨v,T.mono [id] λb' M hb'=>⟨?_,rfl⟩,?_⟩
    ·have:o b'=some (p::i::k::M):=(by simpa using hb');simpa using pkt_cell (j:=id) this
    rcases c4 with c4|c4
    ·exact c4
    exact(T.scn_lst c4).elim
  ·cases q
  obtain⟨v,t1,t2⟩:=H.row id z xs bk q2 h2;exact⟨v,t1.same λb M hb=>⟨by
   have h3:o b=some (id::M):=(by simpa using hb);simpa using Q6q h3 q1,rfl⟩,t2⟩
 ·rcases hent id _ h1 with⟨_,q⟩|⟨_,q⟩|⟨_,_,q⟩
  ·cases q
  ·cases q
  exact q.elim
 ·rcases hent id _ h1 with⟨_,q⟩|⟨_,q⟩|⟨q1,q2,_⟩
  ·cases q
  ·cases q
  exact(H.map id kd xs bk q2 h2).move (λb hb=>⟨hb,rfl⟩) λb M p2=>⟨Q6q p2 q1,rfl⟩
 ·cases hl:look t st'.s with
  |none=>simp only[St.get,hl,zO];exact .bot
  |some v=>
   simp only[St.get,hl,zL];rcases hs _ (Qf hl)with h|h
   ·simp only at h;rw[←h];exact hx t
   simp only at h;rw[h];exact .bot
 rw[hn];exact hρ id kk hk'
end
section
attribute [local simp] Qa QD Qo
theorem nlA_self{news:List (Nat×Nat)}{a:AV}:nlA news a a:=.inl rfl
theorem QaC{news:List (Nat×Nat)}:∀{l:List AV},nlL news l l
 |[]=>trivial
 |_::_=>⟨nlA_self,QaC⟩
theorem entN_mm{news:List (Nat×Nat)}{sz sz':Nat}{cs ds:List AV}:entN news (.mix sz [cs]) (.mix sz' [ds])=(sz=sz'∧nlL news cs ds):=rfl
theorem entN_mr{news:List (Nat×Nat)}{sz sz':Nat}{es:List (List AV)}:entN news (.mix sz []) (.row sz' es)=(sz=sz'∧es=[]):=rfl
theorem entN_self{news:List (Nat×Nat)}{e:Ent}:entN news e e:=by
 cases e with
 |mix sz es=>
  cases es with
  |nil=>rfl
  |cons a r=>
   cases r with
   |nil=>exact⟨rfl,QaC⟩
   |cons b s=>rfl
 |row sz es=>rfl
 |ali c i k sz=>rfl
 |mapE kd es=>rfl
theorem Wk.rowMix{F:Fx}{st st':St}(hs:∀q∈st'.s,st.get q.1=q.2∨q.2= .bot)(hn:st'.n=st.n)(hh:∀q∈st'.h,(look q.1 st.h=some q.2∧(match q.2 with|.ali _ _ _ _=>False|_=>True))∨∃sz,look q.1 st.h=some (.row sz [])∧q.2= .mix sz []):Wk F st st':=by
 intro a w ⟨R,hX,hr0⟩;obtain⟨r1,r2,r3,o,ρ,W,H,hx,hρ,hpn⟩:=hr0;have hent:∀id e,st'.hp id=some e→(st.hp id=some e∧(match e with|.ali _ _ _ _=>False|_=>True))∨∃sz,st.hp id=some (.row sz [])∧e= .mix sz []:=λid e h=>hh (id,e) (Qf h);refine⟨R,hX,r1,r2,λid x hx'=>?_,o,ρ,W,⟨λid z xs bk h1 h2=>?_,λid z xs bk h1 h2=>?_,λid c i' k' z bk h1 h2=>?_,λid kd xs bk h1 h2=>?_⟩,λt=>?_,λid kk hk'=>?_,λid hid=>hpn.1 id hid,by rw[hn];exact hpn.2⟩
 ·rw[hn];rcases hent id x hx' with⟨h,_⟩|⟨sz,h,_⟩
  ·exact r3 _ _ h
  exact r3 _ _ h
 ·rcases hent id _ h1 with⟨h,_⟩|⟨sz,h,e⟩
  ·exact H.mix id z xs bk h h2
  simp only[Ent.mix.injEq]at e;obtain⟨rfl,rfl⟩:=e;obtain⟨v,t1,t2⟩:=H.row id z [] bk h h2;generalize hL:([id]:List Nat)=L at t1;cases t2 with
  |@nil sz' cap=>exact⟨.inl ⟨rfl,_,rfl⟩⟩
  |@own b n cap sz'=>
   cases t1 with
   |@own _ _ _ _ _ cur el us u1 u2 u3 u4 u5 u6 u7 u8 u9=>
    subst hL;exact .mk' ⟨b,cur,el,us,cap,rfl,u1,u2,u3,zV _,u5,λi hi=>by simp at hi,λi k hi=>by simp at hi,λi k hi=>by simp at hi,λi k hi=>by simp at hi⟩
 ·rcases hent id _ h1 with⟨h,_⟩|⟨sz,h,e⟩
  ·exact H.row id z xs bk h h2
  cases e
 ·rcases hent id _ h1 with⟨h,q⟩|⟨sz,h,e⟩
  ·exact q.elim
  cases e
 ·rcases hent id _ h1 with⟨h,_⟩|⟨sz,h,e⟩
  ·exact H.map id kd xs bk h h2
  cases e
 ·cases hl:look t st'.s with
  |none=>simp only[St.get,hl,zO];exact .bot
  |some v=>
   simp only[St.get,hl,zL];rcases hs _ (Qf hl)with h|h
   ·simp only at h;rw[←h];exact hx t
   simp only at h;rw[h];exact .bot
 rw[hn];exact hρ id kk hk'
end
section
attribute [local simp] Qa QD Qo
structure ICon0(P:Program)(f:Nat)(az:List AV)(h:HP)(n:Nat)(e:Eff):Prop where
 enters:∃fn,P.funcs[f]? =some fn∧(fn.name=="runtime.NumGoroutine")=false∧fn.body.isSome=true
 fine:(∀id x,h id=some x→id<n)→e.fine n
 calls:∀(C:Ctx) (w:World) (g:Gh) (h':HP) (vals:Array Value),(∀id,id<n→h' id=h id)→(∀p∈e.new,h' p.1=some p.2)→(∀id k,g.ρ id=some k→id<n)→WF C w g→HRel w g h'→(∀b,g.o b=none)→vals.size=az.length→
  (∀k,k<az.length→XRel w g.R g.ρ (vals.getD k undef) (az.getD k .bot))→
  Callz P f vals w λex w'=>∃v R' o' ρ',ex= .returned v∧RX g.R R' C.w0.heap.size∧WF C w' ⟨R',o',ρ'⟩∧HRel w' ⟨R',o',ρ'⟩ (happ e h')∧(∀id k,g.ρ id=some k→ρ' id=some k)∧
   (∀id k,ρ' id=some k→g.ρ id=some k∨(n≤id∧id<n+e.cnt))∧XRel w' R' ρ' v e.v∧(∀b,g.R b→w'.heap[b]? =w.heap[b]?)
theorem Q9u{P:Program}{f:Nat}{fn:Func}{c:Code}{az:List AV}{ts:List Nat}{H:List (Nat×Ent)}{n:Nat}{e:Eff}(hf:P.funcs[f]? =some fn)(hb:fn.body=some c)(hrt:resT fn.results=some ts)(hname:(fn.name=="runtime.NumGoroutine")=false)(hN:az.length≤fn.ntmps)(hH:∀p∈H,p.1<n)(hfine:e.fine n)(hnew:∀id,n≤id→id<n+e.cnt→id∈e.new.map qG)(h:∀F:Fx,F.N=fn.ntmps→F.pins=n→(∀b,¬F.C.wrb b)→Wp P F c (iretQ ts H n e) ⟨Q2J 0 az,H,n⟩):ICon0 P f az (λid=>look id H) n e:=by
 refine⟨⟨fn,hf,hname,by rw[hb];rfl⟩,λ_=>hfine,λC w g h' vals hag hne hlim W HH hgo hsz hargs=>?_⟩;refine calls_of_wp hf hb ?_
 let C':Ctx:=⟨w,λb=>∃L,g.o b=some L,g.ρ,n⟩
 have hrel:Rel C' g.R fn.ntmps {tmps:=vals++zT (fn.ntmps - vals.size) undef,defers:=[]} w ⟨Q2J 0 az,H,n⟩:=by
  refine⟨by simp;omega,rfl,λid x hx=>hH (id,x) (Qf hx),g.o,g.ρ,⟨W.R,λb L hb=>⟨(W.o b L hb).1,.inr ⟨L,hb⟩⟩,rfl,⟨rfl,qE _⟩,rfl,qE _,λb _ _=>rfl⟩,
   HH.grow λid k hk=>(hag id (hlim id k hk)).symm,λt=>?_,hlim,λid _=>rfl,qE _⟩
  simp only[St.get,Q1V]
  by_cases ht:t<az.length
  ·rw[if_pos (by omega)];simp only[yD,zL];have h2:(vals++zT (fn.ntmps - vals.size) undef).getD t undef=vals.getD t undef:=by
    simp[zZ,show t<vals.size by omega]
   rw[h2];exact hargs t ht
  rw[if_neg (by omega)];exact .bot
 refine Q2R (λex a w' hq=>?_) (h ⟨C',g.R,fn.ntmps,n,rfl⟩ rfl rfl (λb ⟨L,hL⟩=>by rw[hgo b]at hL;cases hL) _ w (.of hrel));obtain⟨st,⟨R',hX,hr⟩,hq⟩:=hq;have fin:IRet ts H n e st→a.defers=[]∧∃v,(results fn a.tmps).run P w'= .ok v w'∧∃v' R' o' ρ',Ending.returned v= .returned v'∧RX g.R R' C.w0.heap.size∧WF C w' ⟨R',o',ρ'⟩∧HRel w' ⟨R',o',ρ'⟩ (happ e h')∧(∀id k,g.ρ id=some k→ρ' id=some k)∧
   (∀id k,ρ' id=some k→g.ρ id=some k∨(n≤id∧id<n+e.cnt))∧XRel w' R' ρ' v' e.v∧(∀b,g.R b→w'.heap[b]? =w.heap[b]?):=by
  intro hA;obtain⟨_,hdef,_,o',ρ',W',HH',hx,hlt',hpin⟩:=hr;obtain⟨a1,a2,a3⟩:=hA;have hρ1:∀id,id<n→ρ' id=g.ρ id:=hpin.1;have hcC:∀b,b<C.w0.heap.size→¬C.wrb b→g.o b=none:=by
   intro b hb hw;cases ho:g.o b with
   |none=>rfl
   |some L=>
    rcases(W.o b L ho).2 with h|h
    ·omega
    exact absurd h hw
  have hkeep:∀b,b<w.heap.size→g.o b=none→w'.heap[b]? =w.heap[b]?:=λb hb ho=>W'.keep b hb (by rintro ⟨L,hL⟩;rw[ho]at hL;cases hL);refine⟨hdef,_,Q33 hrt _,_,R',o',ρ',rfl,⟨hX.1,λb hb=>(hX.2 b hb).imp id (qL W.size)⟩,⟨W'.R,λb L hb=>⟨(W'.o b L hb).1,?_⟩,W'.os.trans W.os,tpt W'.tape W.tape,W'.output.trans W.output,qL W.size W'.size,λb hb hw=>?_⟩,
   HH'.grow λid k hk=>?_,λid k hk=>(hρ1 id (hlim id k hk)).trans hk,λid k hk=>?_,?_,λb hb=>hkeep b (W.R b hb).1 (W.R b hb).2⟩
  ·rcases(W'.o b L hb).2 with h|⟨L',h⟩
   ·exact .inl (qL W.size h)
   exact(W.o b L' h).2
  ·exact(hkeep b (qO hb W.size) (hcC b hb hw)).trans (W.keep b hb hw)
  ·have hid:id<n+e.cnt:=(by rw[←a2];exact hlt' id k hk);have hl:look id st.h=match happ e (λid=>look id H) id with|some x=>some x|none=>look id e.new:=by
    have:=Q2e (st:=⟨[],H,n⟩) none hfine id;simp only[St.app]at this;rw[a3];exact this
   show happ e h' id=look id st.h;rw[hl]
   by_cases hlt:id<n
   ·have hn:look id e.new=none:=by
     cases hq:look id e.new with
     |none=>rfl
     |some x=>have:=(hfine.new _ (Qf hq)).1;simp only at this;omega
    have he:happ e h' id=happ e (λid=>look id H) id:=by
     simp only[happ,hag id hlt]
    rw[he,hn];cases happ e (λid=>look id H) id<;>rfl
   obtain⟨p,hp,hpe⟩:=List.mem_map.1 (hnew id (by omega) hid);have h1:happ e (λid=>look id H) id=none:=by
    simp only[happ];have h2:look id e.set=none:=by
     cases hq:look id e.set with
     |none=>rfl
     |some x=>have:=hfine.sets.2 _ (Qf hq);simp only at this;omega
    have h3:look id H=none:=by
     cases hq:look id H with
     |none=>rfl
     |some x=>have:=hH _ (Qf hq);simp only at this;omega
    rw[h2,h3];simp
   have h2:happ e h' id=h' id:=by
    simp only[happ];have h2:look id e.set=none:=by
     cases hq:look id e.set with
     |none=>rfl
     |some x=>have:=hfine.sets.2 _ (Qf hq);simp only at this;omega
    rw[h2,if_neg];intro hd;have:=hfine.del id hd;omega
   rw[h1,h2];obtain⟨i,x⟩:=p;simp only at hpe;subst hpe;rw[hne _ hp,Q18 hfine.nodup hp]
  ·by_cases hlt:id<n
   ·exact .inl ((hρ1 id hlt).symm.trans hk)
   exact .inr ⟨by omega,by rw[←a2];exact hlt' id k hk⟩
  rw[←a1];exact res_rel hx ts
 cases ex with
 |normal=>exact fin hq
 |ret=>exact fin hq
 |_=>exact hq.elim
theorem Q8D{P:Program}{f:Nat}{fn:Func}{c:Code}{az:List AV}{ts:List Nat}{H:List (Nat×Ent)}{n:Nat}{e:Eff}(hf:P.funcs[f]? =some fn)(hb:fn.body=some c)(hrt:resT fn.results=some ts)(hname:(fn.name=="runtime.NumGoroutine")=false)(hN:az.length≤fn.ntmps)(hH:∀p∈H,p.1<n)(hfine:e.fine n)(hnew:∀id,n≤id→id<n+e.cnt→id∈e.new.map qG)(h:∀F:Fx,F.N=fn.ntmps→F.pins=n→(∀b,¬F.C.wrb b)→Wp P F c (Qao F ts H n e) ⟨Q2J 0 az,H,n⟩):ICon0 P f az (λid=>look id H) n e:=by
 refine Q9u hf hb hrt hname hN hH hfine hnew λF h1 h2 h3=>wp_wk (Wp.mono ?_ (h F h1 h2 h3));intro ex st hq;cases ex with
 |normal=>exact hq
 |ret=>exact hq
 |_=>exact hq.elim
theorem ICon0.lift{P:Program}{f:Nat}{vs:List AV}{e e':Eff}{h:HP}{n:Nat}(hc:ICon0 P f vs (λ_=>none) 0 e)(hro:∀a∈vs,AV.ro a=true)(hs:e.set=[]∧e.del=[])(hs':e'.set=[]∧e'.del=[])(hcnt:e'.cnt=e.cnt)(hv:e'.v=rl (shm n e.cnt) e.v)(hna:∀p∈e.new,Q6M p.2=true)(hnew:∀i,i<e.cnt→∃x y,look i e.new=some x∧rlE (shm n e.cnt) x=some y∧(n+i,y)∈e'.new)(hfine:e'.fine n):ICon P f vs h n e':=by
 refine⟨hc.enters,λ_=>hfine,λC w g h' vals hag hnw hlim W H hsz hargs=>?_⟩;have hf0:=hc.fine (λid x hx=>by cases hx);have W0:WF ⟨w,λ_=>False,λ_=>none,0⟩ w ⟨g.R,λ_=>none,λ_=>none⟩:=⟨λb hb=>⟨(W.R b hb).1,rfl⟩,(λb L hb=>by cases hb),rfl,⟨rfl,qE _⟩,rfl,qE _,λb _ _=>rfl⟩;have H0:HRel w ⟨g.R,λ_=>none,λ_=>none⟩ (λid=>look id e.new):=⟨(λid sz es bk _ hb=>by cases hb),(λid sz es bk _ hb=>by cases hb),(λid c i k sz bk _ hb=>by cases hb),(λid kd es bk _ hb=>by cases hb)⟩;refine(hc.calls _ w _ _ vals (λid hid=>absurd hid (Nat.not_lt_zero _)) (λp hp=>Q18 hf0.nodup hp) (λid k hk=>by cases hk) W0 H0 (λ_=>rfl) hsz (λk hk=>ro_rel (hargs k hk) (hro _ (by
  rw[qB,qF hk];exact zY hk)))).mono λex w' ⟨v,R',o',ρ',q0,q1,q2,q3,q4,q5,q6,q7⟩=>?_
 rw[QV hs.1 hs.2]at q3;have ho':∀b L,o' b=some L→w.heap.size≤b∧b<w'.heap.size:=λb L hb=>⟨(q2.o b L hb).2.resolve_right id,(q2.o b L hb).1⟩;have hkeep:∀b,b<w.heap.size→w'.heap[b]? =w.heap[b]?:=λb hb=>q2.keep b hb id;have hgo:∀b L,o' b=some L→g.o b=none:=by
  intro b L hb;cases hg:g.o b with
  |none=>rfl
  |some M=>have:=(W.o b M hg).1;have:=(ho' b L hb).1;omega
 have hm2:=shm_snd n e.cnt;have hrρ:∀j bk,rlρ (shm n e.cnt) ρ' j=some bk→∃i,i<e.cnt∧j=n+i∧look i (shm n e.cnt)=some j∧ρ' i=some bk:=by
  intro j bk hj;simp only[rlρ]at hj;split at hj
  ·rename_i i hi;have hl:=Q7p (shm_fst n e.cnt) hi;have hl2:=hl;rw[Q1z]at hl2;split at hl2
   ·rename_i hlt;simp only[qA]at hl2;exact⟨i,hlt,hl2.symm,hl,hj⟩
   cases hl2
  cases hj
 have hgρ:∀j bk,rlρ (shm n e.cnt) ρ' j=some bk→g.ρ j=none:=by
  intro j bk hj;obtain⟨i,hi,rfl,_⟩:=hrρ j bk hj;cases hg:g.ρ (n+i)with
  |none=>rfl
  |some k=>have:=hlim _ _ hg;omega
 let o2:Nat→Option (List Nat):=λb=>match g.o b with|some L=>some L|none=>rlo (shm n e.cnt) o' b
 let ρ2:Nat→Option Bk:=λid=>match g.ρ id with|some k=>some k|none=>rlρ (shm n e.cnt) ρ' id
 have ho2:∀b L,g.o b=some L→o2 b=some L:=λb L hb=>by simp only[o2,hb]
 have ho3:∀b i M,i<e.cnt→o' b=some (i::M)→o2 b=some ((n+i)::M):=by
  intro b i M hi hb;simp only[o2,hgo b _ hb,rlo,hb,Q1z,if_pos hi]
 have hρ2:∀id k,g.ρ id=some k→ρ2 id=some k:=λid k hk=>by simp only[ρ2,hk]
 have hρ3:∀id k,rlρ (shm n e.cnt) ρ' id=some k→ρ2 id=some k:=λid k hk=>by simp only[ρ2,hgρ id k hk,hk]
 have hX:∀v a,XRel w' R' ρ' v a→XRel w' R' ρ2 v (rl (shm n e.cnt) a):=λv a hx=>(QaH hm2 hx).mono (λb hb=>⟨hb,rfl⟩) hρ3;have hent:∀id x bk,h' id=some x→g.ρ id=none→ρ2 id=some bk→∃i y,i<e.cnt∧id=n+i∧ρ' i=some bk∧look i e.new=some y∧rlE (shm n e.cnt) y=some x∧Q6M y=true:=by
  intro id x bk hx hg hb;simp only[ρ2,hg]at hb;obtain⟨i,hi,rfl,_,hr⟩:=hrρ id bk hb;obtain⟨y,z,h1,h2,h3⟩:=hnew i hi;have:=hnw _ h3;simp only at this;rw[this]at hx;cases hx;exact⟨i,y,hi,rfl,hr,h1,h2,hna _ (Qf h1)⟩
 have H1:HRel w' ⟨g.R,o2,g.ρ⟩ h':=H.mono (λb hb=>hkeep b (W.R b hb).1) (λb L hb=>⟨ho2 b L hb,hkeep b (W.o b L hb).1⟩) (λ_ _ hk=>hk) (λid sz es bk _ h1 h2=>by rw[h1]at h2;cases h2) (λid sz es bk _ h1 h2=>by rw[h1]at h2;cases h2)
  (λid c i k sz bk _ h1 h2=>by rw[h1]at h2;cases h2)
 have H2:HRel w' ⟨R',o2,g.ρ⟩ h':=H1.growR q1.1;have H3:HRel w' ⟨R',o2,ρ2⟩ h':=by
  refine H2.mono (λ_ _=>rfl) (λb L hb=>⟨hb,rfl⟩) hρ2 (λid sz es bk he hg hb=>?_) (λid sz es bk he hg hb=>?_) (λid c i k sz bk he hg hb=>?_) (λid kd es bk he hg hb=>?_)
  ·obtain⟨i,y,hi,rfl,hr,h1,h2,h3⟩:=hent id _ bk he hg hb;cases y with
   |mix s2 e2=>
    simp only[rlE,qA,Ent.mix.injEq]at h2;obtain⟨rfl,rfl⟩:=h2;rcases(q3.mix i _ _ bk h1 hr).ex0 with⟨rfl,h0⟩|⟨b,cur,el,us,cpm,p1,p2,p3,p4,p5,p5',p6,p7,p8,p9⟩
    ·exact⟨.inl ⟨rfl,h0⟩⟩
    refine .mk' ⟨b,cur,el,us,cpm,p1,ho3 b i [] hi p2,p3,p4,by rw[QY];exact p5,p5',λj hj=>?_,λj l hj hl=>?_,λj l hj hl=>?_,λj l hj hl=>?_⟩
    ·rw[QY]at hj;rw[Q3w,Q1q];exact p6 j hj
    ·rw[QY]at hj;exact p7 j l hj hl
    ·rw[QY]at hj;exact p8 j l hj hl
    rw[QY]at hj;rw[Q3w,Q3R];exact hX _ _ (p9 j l hj hl)
   |row=>simp[rlE]at h2
   |mapE=>simp[rlE]at h2
   |ali=>cases h3
  ·obtain⟨i,y,hi,rfl,hr,h1,h2,h3⟩:=hent id _ bk he hg hb;cases y with
   |mix=>simp[rlE]at h2
   |row s2 e2=>
    simp only[rlE,qA,Ent.row.injEq]at h2;obtain⟨rfl,rfl⟩:=h2;obtain⟨v,hv,hh2⟩:=q3.row i _ _ bk h1 hr;exact⟨v,hv.mono (R':=R') [n+i] λb M hbo=>⟨ho3 b i M hi hbo,rfl⟩,hh2⟩
   |mapE=>simp[rlE]at h2
   |ali=>cases h3
  ·obtain⟨i0,y,hi,rfl,hr,h1,h2,h3⟩:=hent id _ bk he hg hb;cases y with
   |mix=>simp[rlE]at h2
   |row=>simp[rlE]at h2
   |mapE=>simp[rlE]at h2
   |ali=>cases h3
  obtain⟨i,y,hi,rfl,hr,h1,h2,h3⟩:=hent id _ bk he hg hb;cases y with
  |mix=>simp[rlE]at h2
  |row=>simp[rlE]at h2
  |mapE kd2 e2=>
   simp only[rlE,qA,Ent.mapE.injEq]at h2;obtain⟨rfl,rfl⟩:=h2;exact(q3.map i _ _ bk h1 hr).move (λb hb=>⟨hb,rfl⟩) λb M p2=>⟨ho3 b i M hi p2,rfl⟩
  |ali=>cases h3
 refine⟨v,R',o2,ρ2,q0,⟨q1.1,λb hb=>(q1.2 b hb).imp id (qL W.size)⟩,⟨λb hb=>⟨(q2.R b hb).1,?_⟩,λb L hb=>?_,q2.os.trans W.os,tpt q2.tape W.tape,q2.output.trans W.output,qL W.size q2.size,λb hb hw=>(hkeep b (qO hb W.size)).trans (W.keep b hb hw)⟩,by rw[QV hs'.1 hs'.2];exact H3,hρ2,λid k hk=>?_,by rw[hv];exact hX _ _ q6,q7⟩
 ·have h1:o' b=none:=(q2.R b hb).2;show o2 b=none;rcases q1.2 b hb with hg|hg
  ·simp only[o2,show g.o b=none from(W.R b hg).2,rlo,h1]
  have hg':g.o b=none:=by
   cases hq:g.o b with
   |none=>rfl
   |some M=>have:=(W.o b M hq).1;simp only at hg;omega
  simp only[o2,hg',rlo,h1]
 ·have hb':o2 b=some L:=hb;cases hq:g.o b with
  |some M=>exact⟨qO (W.o b M hq).1 q2.size,(W.o b M hq).2⟩
  |none=>
   simp only[o2,hq,rlo]at hb';split at hb'
   ·rename_i x M hx;exact⟨(ho' b _ hx).2,.inl (qL W.size (ho' b _ hx).1)⟩
   cases hb'
 have hk':ρ2 id=some k:=hk;cases hg:g.ρ id with
 |some k2=>simp only[ρ2,hg]at hk';exact .inl hk'
 |none=>
  simp only[ρ2,hg]at hk';obtain⟨i,hi,rfl,_⟩:=hrρ id k hk';exact .inr ⟨by omega,by omega⟩
theorem ICon0.liftL{P:Program}{f:Nat}{vs:List AV}{e e':Eff}{h:HP}{n:Nat}(hc:ICon0 P f vs (λ_=>none) 0 e)(hro:∀a∈vs,AV.ro a=true)(hs:e.set=[]∧e.del=[])(hs':e'.set=[]∧e'.del=[])(hcnt:e'.cnt=e.cnt)(hv:e'.v=rl (shm n e.cnt) e.v)(hna:∀p∈e.new,Q6M p.2=true)(hcomp:newB 0 e.cnt (e.new.map qG)=true)(hn:e'.new=e.new.map λp=>(n+p.1,rlE' (shm n e.cnt) p.2))(hfine:e'.fine n):ICon P f vs h n e':=by
 refine hc.lift hro hs hs' hcnt hv hna (λi hi=>?_) hfine;have hm:=newI (n:=0) (e:=e) hcomp i (zV _) (by omega);obtain⟨p,hp,rfl⟩:=List.mem_map.1 hm;have hf0:=hc.fine (λid x hx=>by cases hx);refine⟨p.2,rlE' (shm n e.cnt) p.2,Q18 hf0.nodup hp,?_,by rw[hn];exact List.mem_map.2 ⟨p,hp,rfl⟩⟩;have:=hna p hp;generalize p.2=x at this;cases x with
 |ali=>cases this
 |_=>rfl
end
end Go.Vc
