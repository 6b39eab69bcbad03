/- A part of the proof. -/
import Derived.Test.YtbanpimdoabfmaaH5
import Derived.IntWalk
import Derived.Laws.BytesString
import Derived.Scope
set_option maxRecDepth 100000
set_option maxHeartbeats 4000000
set_option linter.unusedSimpArgs false
set_option linter.unusedVariables false
set_option linter.unusedSectionVars false
set_option linter.unnecessarySimpa false

open Option.some renaming injEq→qA
open List renaming getD_eq_getElem?_getD→qB
open Prod.mk renaming injEq→qC
open Option renaming bind_some→yA
open Array renaming getElem?_eq_getElem→zP
open Prod renaming fst→qE
open Nat renaming le_refl→qF
open Bool renaming and_eq_true→qG
open List renaming getElem?_eq_getElem→qI
open List renaming range→yB
open Option renaming getD_some→zQ
open Nat renaming le_trans→qK
open Nat renaming lt_of_lt_of_le→qN
open Nat renaming lt_or_ge→zR
open List renaming map_cons→qP
open Bool renaming false_eq_true→zM
open Bool renaming or_eq_true→zS
open Array renaming getElem?_append→zJ
open List renaming getElem_mem→yC
open Array renaming replicate→zY
open List renaming all_eq_true→qW
open Prod renaming snd→zT
open Option renaming map_some→qY
open Nat renaming zero_le→yD
open List renaming mem_singleton→zN
open Array renaming getElem?_toList→yE
open Nat renaming strongRecOn→yF
open Nat renaming sub_zero→yG
open Nat renaming lt_trichotomy→yH
open List renaming nodup_range→yI
noncomputable section
namespace Go.Vc
open Go
inductive Good:AV→Prop
 |val {v}:sc v→Good (.val v)
 |lst {u sz es}:es.length≤maxLen→(∀i,i<es.length→(es.getD i []).length=sz)→(∀i k,i<es.length→k<sz→Good ((es.getD i []).getD k .bot))→Good (.lst u sz es)
 |rptr {cs}:(∀k,k<cs.length→Good (cs.getD k .bot))→Good (.rptr cs)
 |agg {cs}:(∀k,k<cs.length→Good (cs.getD k .bot))→Good (.agg cs)
 |other {a}:(match a with|.val _|.lst _ _ _|.rptr _|.agg _=>False|_=>True)→Good a
theorem RRel.good{w:World}{R:Nat→Prop}{v:Value}{a:AV}(h:RRel w R v a):Good a:=by
 induction h with
 |val h=>exact .val h
 |nil=>exact .lst (by simp) (λi hi=>by simp at hi) (λi k hi=>by simp at hi)
 |lst us _ _ h1 h2 h3 _ _ _ ih=>exact .lst (by omega) h3 ih
 |rptr us _ _ _ _ _ ih=>exact .rptr ih
 |fn=>exact .other trivial
 |bnd=>exact .other trivial
 |ifc=>exact .other trivial
 |ifs=>exact .other trivial
 |cmap=>exact .other trivial
 |nilm=>exact .other trivial
 |cmapM=>exact .other trivial
 |bot=>exact .other trivial
theorem XRel.good{w:World}{R:Nat→Prop}{ρ:Nat→Option Bk}{v:Value}{a:AV}(h:XRel w R ρ v a):Good a:=by
 induction h with
 |r h=>exact h.good
 |agg _ _ _ ih=>exact .agg ih
 |_=>exact .other trivial
section
variable {P:Program}{F:Fx}{AQ:Exit→St→Prop}{st:St}{c:Code}
theorem w_good(t:Nat)(h:Good (st.get t)→Wp P F c AQ st):Wp P F c AQ st:=by
 intro a w hr;have:Good (st.get t):=by
  obtain⟨_,_,_,_,_,o,ρ,_,_,hx,_⟩:=hr;exact(hx t).good
 exact h this a w hr
theorem w_sr{id:Nat}{ops:Array Oper}{d:Bool}{y:Code}(hm:P.follows .mixedOrders=true)(hok:(okN F.N ops&&(!d||(Q4N false ops&&Q2b ops)))=true)(h:∀K:St→Prop,(∀st',Wp P F y AQ st'→K st')→Q1s P false ops ops.toList st K):Wp P F (.seq (.region id ops d) y) AQ st:=
 Q0 (w_run hm hok λK hK=>h K λst' h'=>hK st' h')
end
def Is(xs:List Int):List (List AV):=xs.map λx=>[.val (.int .i64 x)]
@[simp] theorem Is_length(xs:List Int):(Is xs).length=xs.length:=by simp[Is]
@[simp] theorem Is_nil:Is []=[]:=rfl
theorem Is_get(xs:List Int)(i:Nat)(h:i<xs.length):(Is xs).getD i []=[.val (.int .i64 (xs.getD i 0))]:=by
 simp[Is,qB,h]
theorem Is_append(xs ys:List Int):Is (xs++ys)=Is xs++Is ys:=by simp[Is]
def B64(x:Int):Prop:=-9223372036854775808≤x∧x≤9223372036854775807
theorem Good.is{u:Bool}{xs:List Int}(h:Good (.lst u 1 (Is xs))):xs.length≤9223372036854775807∧∀x∈xs,B64 x:=by
 cases h with
 |lst h1 h2 h3=>
  refine⟨by rw[Is_length]at h1;exact qK h1 (by decide),λx hx=>?_⟩;obtain⟨i,hi,rfl⟩:=List.getElem_of_mem hx;have:=h3 i 0 (by simpa using hi) (by omega);rw[Is_get _ _ hi]at this;simp only[List.getD_cons_zero]at this;cases this with
  |val h=>
   simp only[sc]at h;have e1:IntKind.i64.min= -9223372036854775808:=(by decide);have e2:IntKind.i64.max=9223372036854775807:=(by decide);simpa[qB,hi,B64,e1,e2]using h
  |other h=>exact h.elim
 |other h=>exact h.elim
@[simp] theorem i64_min:IntKind.i64.min= -9223372036854775808:=by decide
theorem Qh{x:Int}(h:B64 x):IntKind.i64.wrap x=x:=IntWalk.i64_in x h
theorem QP(xs:List Int)(i:Nat)(h:i<xs.length):(Is xs)[i]? =some [.val (.int .i64 xs[i])]:=by simp[Is,h]
attribute [local simp] QP
theorem Qv(xs:List Int)(i:Nat)(h:i<(Is xs).length):(Is xs)[i]=[.val (.int .i64 (xs[i]'(by simpa using h)))]:=by simp[Is]
attribute [local simp] Qv
@[simp] theorem Is_set(xs:List Int)(i:Nat)(x:Int):(Is xs).set i [.val (.int .i64 x)]=Is (xs.set i x):=by simp[Is,List.map_set]
@[simp] theorem Is_rep(n:Nat)(x:Int):List.replicate n [.val (.int .i64 x)]=Is (List.replicate n x):=by simp[Is]
theorem QT{t:Nat}{v v':Value}{st:St}(h:st.get t= .val v)(e:v=v'):RetA [t] st [.val v']:=by
 subst e;refine⟨?_,[.val v],[],?_,.nil,UpL.refl _⟩
 ·simp only[qP,List.map_nil,h];exact .one rfl rfl .nil
 simp only[qP,List.map_nil,h,List.flatMap_cons,List.flatMap_nil,AV.cells,List.append_nil];rfl
theorem Q79{t id n sz:Nat}{es fs:List (List AV)}{st:St}(h:st.get t= .own id 0 n)(he:look id st.h=some (.row sz es))(hn:es.length=n)(e:es=fs):RetA [t] st [.lst true sz fs]:=by
 subst e;refine⟨?_,[.lst true sz es],[id],?_,by simp,UpL.refl _⟩
 ·simp only[qP,List.map_nil,h];exact .one rfl rfl .nil
 have he':st.hp id=some (.row sz es):=he;simp only[qP,List.map_nil,h,List.flatMap_cons,List.flatMap_nil,AV.cells,List.append_nil];simp[Q2F,layC,layD,Go.Vc.depth,he',hn]
theorem QK{i n:Nat}(h:i<n)(hn:n≤9223372036854775807):IntKind.i64.wrap ((i:Int)+1)=((i+1:Nat):Int):=by
 rw[Qh ⟨by omega,by omega⟩];rfl
def contE(h:HP)(d:Nat):Option Ent→Option (Nat×List (List AV))
 |some (.mix sz es)=>some (sz,es)
 |some (.row sz es)=>some (sz,es)
 | some (.ali c i k sz)=>if Qm (h c) then none else match cont h d c with
   |some (_,es)=>match(es.getD i []).getD k .bot with
    | .lst true sz' es'=>if sz'=sz then some (sz,es')else none
    |_=>none
   |none=>none
 |some (.mapE _ _)=>none
 |none=>none
theorem cont_E{h:HP}{d id:Nat}:cont h (d+1) id=contE h d (h id):=by
 simp only[cont];cases h id with
 |none=>rfl
 |some e=>cases e<;>rfl
def wrE(h:HP)(d id:Nat)(es:List (List AV)):Option Ent→Option (List (Nat×Ent))
 |some (.mix sz _)=>some [(id,.mix sz es)]
 |some (.row sz _)=>some [(id,.row sz es)]
 | some (.ali c i k sz)=>match cont h d c with
   |some (_,fs)=>wr h d c (fs.set i ((fs.getD i []).set k (.lst true sz es)))
   |none=>none
 |some (.mapE _ _)=>none
 |none=>none
theorem wr_E{h:HP}{d id:Nat}{es:List (List AV)}:wr h (d+1) id es=wrE h d id es (h id):=by
 simp only[wr];cases h id with
 |none=>rfl
 |some e=>cases e<;>rfl
def Q8p(t:Tyi)(id i k n:Nat):Option (Nat×List (List AV))→Option (Prop×Eff)
 |some (sz,es)=>some (i<es.length∧k+t.sz≤sz,{v:=bif t.agg then .agg (Q1d id i k n (((es.getD i []).drop k).take t.sz)).1 else(Q1d id i k n (((es.getD i []).drop k).take t.sz)).1.getD 0 .bot,new:=(Q1d id i k n (((es.getD i []).drop k).take t.sz)).2,cnt:=t.sz})
 |none=>none
def Q9B(t:Tyi)(id i k n:Nat)(h:HP):Option Ent→Option (Prop×Eff)
 |some (.mix sz es)=>some (i<es.length∧k+t.sz≤sz,{v:=bif t.agg then .agg (((es.getD i []).drop k).take t.sz)else(es.getD i []).getD k .bot})
 |some (.row sz es)=>Q8p t id i k n (some (sz,es))
 |some (.ali _ _ _ _)=>Q8p t id i k n (cont h depth id)
 |some (.mapE _ _)=>none
 |none=>none
theorem Q8q{t:Tyi}{id i k n:Nat}{h:HP}:Q1X (some t) (.adr id i k) h n=Q9B t id i k n h (h id):=by
 simp only[Q1X,Q9B];cases he:h id with
 |none=>rfl
 |some e=>
  cases e with
  |mix=>rfl
  |row sz es=>
   have:cont h depth id=some (sz,es):=(by simp[cont,depth,he]);simp only[this,Q8p]
  |ali=>simp only[Q8p];cases cont h depth id<;>rfl
  |mapE kd es=>
   have:cont h depth id=none:=(by simp[cont,depth,he]);simp only[this]
def Q5m(t:Tyi)(id i k:Nat)(x:AV)(h:HP):Option (Nat×List (List AV))→Option (Prop×Eff)
 |some (sz,es)=>match x with
  | .val v=>if t.sz=1∧Q6z v=true then
    match wr h depth id (es.set i ((es.getD i []).set k (.val v)))with
    |some s=>some (i<es.length∧k<sz,{v:=.bot,set:=s})
    |none=>none
   else none
  |_=>none
 |none=>none
def Q7Z(t:Tyi)(id i k:Nat)(x:AV)(h:HP):Option Ent→Option (Prop×Eff)
 |some (.mix sz es)=>if x.cells.length=t.sz&&Q5t x then
    some (i<es.length∧k+t.sz≤sz,{v:=.bot,set:=[(id,.mix sz (es.set i (Q1Z (es.getD i []) k x.cells)))]})
   else none
 |some (.row _ _)=>Q5m t id i k x h (cont h depth id)
 |some (.ali _ _ _ _)=>Q5m t id i k x h (cont h depth id)
 |some (.mapE _ _)=>none
 |none=>none
theorem storev_E{t:Tyi}{id i k:Nat}{x:AV}{h:HP}:Q3w (some t) (.adr id i k) x h=Q7Z t id i k x h (h id):=by
 simp only[Q3w,Q7Z];cases he:h id with
 |none=>rfl
 |some e=>
  cases e with
  |mapE kd es=>
   have:cont h depth id=none:=(by simp[cont,depth,he]);simp only[this]
  |_=>first|rfl|(simp only[Q5m];cases cont h depth id<;>rfl)
def layE(h:HP)(d:Nat)(id n:Nat):Option Ent→Option (AV×List Nat)
 |some (.row sz es)=>if es.length=n then some (.lst true sz es,[id])else none
 | some (.mix sz es)=>if es.length=n then match Q2j (layD h d) es with
   |some (q,ds)=>some (.lst true sz q,id::ds)
   |none=>none
   else none
 |some (.ali _ _ _ _)=>none
 |some (.mapE _ _)=>none
 |none=>none
theorem layD_val{h:HP}{d:Nat}{v:Value}:layD h (d+1) (.val v)=some (.val v,[]):=rfl
theorem layD_E{h:HP}{d id n:Nat}:layD h (d+1) (.own id 0 n)=layE h d id n (h id):=by
 simp only[layD,layE];cases he:h id with
 |none=>rfl
 |some e=>cases e<;>rfl
def idxC(t:Tyi)(id off n:Nat)(j:Int):Option (Nat×List (List AV))→Option (Prop×Eff)
 |some (sz,_)=>if sz=t.sz then some (0≤j∧j<n,{v:=.adr id (off+j.toNat) 0})else none
 |none=>none
theorem Q8l{t:Tyi}{id off n:Nat}{k:IntKind}{j:Int}{h:HP}:QY (some t) (.own id off n) (.val (.int k j)) h=idxC t id off n j (cont h depth id):=by
 simp only[QY,idxC];cases cont h depth id<;>rfl
theorem Q8j{t:Tyi}{u:Bool}{sz:Nat}{es:List (List AV)}{k:IntKind}{j:Int}{h:HP}:
  QY (some t) (.lst u sz es) (.val (.int k j)) h=if sz=t.sz then some (0≤j∧j<es.length,{v:=.rptr (es.getD j.toNat [])})else none:=rfl
def srcE(h:HP)(sz id off n:Nat):Option Ent→Option (Prop×List (List AV)×List Nat)
 | some (.mix sz' es)=>if sz'=sz then match Q4K h ((es.drop off).take n) with
   |some (q,d)=>some (off+n≤es.length,q,d)
   |none=>none
   else none
 |some (.row sz' es)=>if sz'=sz then some (off+n≤es.length∧∀e∈es,∀c∈e,isVal c=true,(es.drop off).take n,[])else none
 | some (.ali _ _ _ _)=>match cont h depth id with
   |some (sz',es)=>if sz'=sz then some (off+n≤es.length∧∀e∈es,∀c∈e,isVal c=true,(es.drop off).take n,[])else none
   |none=>none
 |some (.mapE _ _)=>none
 |none=>none
theorem src_nil{h:HP}{sz:Nat}:src h sz (.val (.slice none 0 0))=some (True,[],[]):=rfl
theorem src_lst{h:HP}{sz:Nat}{u:Bool}{sz':Nat}{es:List (List AV)}:src h sz (.lst u sz' es)=if sz'=sz then some (∀e∈es,∀c∈e,isVal c=true,es,[])else none:=rfl
theorem src_E{h:HP}{sz id off n:Nat}:src h sz (.own id off n)=srcE h sz id off n (h id):=by
 simp only[src,srcE];cases he:h id with
 |none=>rfl
 |some e=>
  cases e with
  |mix=>rfl
  |row sz' es=>
   have:cont h depth id=some (sz',es):=(by simp[cont,depth,he]);simp only[this]
  |mapE kd es=>
   have:cont h depth id=none:=(by simp[cont,depth,he]);simp only[this]
  |ali=>rfl
def baseE(h:HP)(sz id m:Nat):Option Ent→Option (Prop×List (List AV)×List Nat×List Nat)
 |some (.row sz' es)=>if sz'=sz then some (m≤es.length,es.take m,[id],[])else none
 | some (.mix sz' es)=>if sz'=sz then match Q4K h (es.take m) with
   |some (q,d)=>some (m≤es.length,q,[id],d)
   |none=>none
   else none
 |some (.ali _ _ _ _)=>none
 |some (.mapE _ _)=>none
 |none=>none
theorem base_nil{h:HP}{sz:Nat}:base h sz (.val (.slice none 0 0))=some (True,[],[],[]):=rfl
theorem base_E{h:HP}{sz id m:Nat}:base h sz (.own id 0 m)=baseE h sz id m (h id):=by
 simp only[base,baseE];cases he:h id with
 |none=>rfl
 |some e=>cases e<;>rfl
def appE(t:Tyi)(n:Nat):Option (Prop×List (List AV)×List Nat×List Nat)→Option (Prop×List (List AV)×List Nat)→Option (Prop×Eff)
 | some (c1,es,i,d1),some (c2,news,d2) =>
   if(n::(i++(d1++d2))).Nodup then
    some (c1∧c2∧(es.length+news.length)*t.bytes≤140737488355328∧es.length+news.length≤140737488355328∧0<t.sz,
     {v:=.own n 0 (es.length+news.length),del:=i++(d1++d2),new:=[(n,.row t.sz (es++news))],cnt:=1})else none
 |_,_=>none
theorem appendv_E{t:Tyi}{s x:AV}{h:HP}{n:Nat}:Q30 (some t) s x h n=appE t n (base h t.sz s) (src h t.sz x):=by
 simp only[Q30,appE];cases base h t.sz s with
 |none=>rfl
 |some p=>cases src h t.sz x<;>rfl
def slcC(t:Tyi)(id off n:Nat)(lo hi:Int):Option (Nat×List (List AV))→Option (Prop×Eff)
 |some (sz,_)=>if sz=t.sz then some (0≤lo∧lo≤hi∧hi≤n,{v:=.own id (off+lo.toNat) (hi - lo).toNat})else none
 |none=>none
theorem Q8C{t:Tyi}{h:HP}{id off n:Nat}{lo hi:Int}:Q1E t h (.own id off n) lo hi=slcC t id off n lo hi (cont h depth id):=by
 simp only[Q1E,slcC];cases cont h depth id<;>rfl
theorem Q8B{t:Tyi}{h:HP}{u:Bool}{sz:Nat}{es:List (List AV)}{lo hi:Int}:
  Q1E t h (.lst u sz es) lo hi=if sz=t.sz then some (0≤lo∧lo≤hi∧hi≤es.length,{v:=.lst u sz ((es.drop lo.toNat).take (hi - lo).toNat)})else none:=rfl
@[simp] theorem hp_mk{s:List (Nat×AV)}{h:List (Nat×Ent)}{n id:Nat}:St.hp ⟨s,h,n⟩ id=look id h:=rfl
section
variable {h:HP}{d id n k i c j l off m sz:Nat}{es:List (List AV)}{t:Tyi}{x:AV}{q:Int}
@[simp] theorem contE_mix:contE h d (some (.mix sz es))=some (sz,es):=rfl
@[simp] theorem contE_row:contE h d (some (.row sz es))=some (sz,es):=rfl
def contI(h:HP)(d i k sz:Nat):Bool→Option (Nat×List (List AV))→Option (Nat×List (List AV))
 |true,_=>none
 |false,some (_,es)=>match(es.getD i []).getD k .bot with
    | .lst true sz' es'=>if sz'=sz then some (sz,es')else none
    |_=>none
 |false,none=>none
@[simp] theorem contE_ali:contE h d (some (.ali c i k sz))=contI h d i k sz (Qm (h c)) (cont h d c):=by
 simp only[contE,contI];cases Qm (h c)with
 |true=>rfl
 |false=>simp only[zM,if_false];cases cont h d c<;>rfl
@[simp] theorem contI_some{z:Nat}:contI h d i k sz false (some (z,es))=match(es.getD i []).getD k .bot with
    | .lst true sz' es'=>if sz'=sz then some (sz,es')else none
    |_=>none:=rfl
@[simp] theorem wrE_mix:wrE h d id es (some (.mix sz es))=some [(id,.mix sz es)]:=rfl
@[simp] theorem wrE_row{fs:List (List AV)}:wrE h d id es (some (.row sz fs))=some [(id,.row sz es)]:=rfl
def wrI(h:HP)(d c i k sz:Nat)(es:List (List AV)):Option (Nat×List (List AV))→Option (List (Nat×Ent))
 |some (_,fs)=>wr h d c (fs.set i ((fs.getD i []).set k (.lst true sz es)))
 |none=>none
@[simp] theorem wrE_ali:wrE h d id es (some (.ali c i k sz))=wrI h d c i k sz es (cont h d c):=by
 simp only[wrE,wrI]
@[simp] theorem wrI_some{z:Nat}{fs:List (List AV)}:wrI h d c i k sz es (some (z,fs))=wr h d c (fs.set i ((fs.getD i []).set k (.lst true sz es))):=rfl
@[simp] theorem loadC_some:Q8p t id i k n (some (sz,es))=some (i<es.length∧k+t.sz≤sz,{v:=bif t.agg then .agg (Q1d id i k n (((es.getD i []).drop k).take t.sz)).1 else(Q1d id i k n (((es.getD i []).drop k).take t.sz)).1.getD 0 .bot,new:=(Q1d id i k n (((es.getD i []).drop k).take t.sz)).2,cnt:=t.sz}):=rfl
@[simp] theorem loadE_mix:Q9B t id i k n h (some (.mix sz es))=some (i<es.length∧k+t.sz≤sz,{v:=bif t.agg then .agg (((es.getD i []).drop k).take t.sz)else(es.getD i []).getD k .bot}):=rfl
@[simp] theorem loadE_row:Q9B t id i k n h (some (.row sz es))=Q8p t id i k n (some (sz,es)):=rfl
@[simp] theorem loadE_ali:Q9B t id i k n h (some (.ali c j l sz))=Q8p t id i k n (cont h depth id):=rfl
@[simp] theorem loadv_rptr{cs:List AV}:Q1X (some t) (.rptr cs) h n=some (t.sz≤cs.length,{v:=bif t.agg then .agg (cs.take t.sz)else cs.getD 0 .bot}):=rfl
@[simp] theorem storeC_some{v:Value}:Q5m t id i k (.val v) h (some (sz,es))=if t.sz=1∧Q6z v=true then(wr h depth id (es.set i ((es.getD i []).set k (.val v)))).map (λs=>(i<es.length∧k<sz,{v:=.bot,set:=s}))else none:=by
 simp only[Q5m];split
 ·cases wr h depth id (es.set i ((es.getD i []).set k (.val v)))<;>rfl
 rfl
@[simp] theorem storeC_own{a b c:Nat}:Q5m t id i k (.own a b c) h (some (sz,es))=none:=rfl
@[simp] theorem storeE_mix:Q7Z t id i k x h (some (.mix sz es))=if x.cells.length=t.sz&&Q5t x then
    some (i<es.length∧k+t.sz≤sz,{v:=.bot,set:=[(id,.mix sz (es.set i (Q1Z (es.getD i []) k x.cells)))]})else none:=rfl
@[simp] theorem storeE_row:Q7Z t id i k x h (some (.row sz es))=Q5m t id i k x h (cont h depth id):=rfl
@[simp] theorem storeE_ali:Q7Z t id i k x h (some (.ali c j l sz))=Q5m t id i k x h (cont h depth id):=rfl
@[simp] theorem layE_row:layE h d id n (some (.row sz es))=if es.length=n then some (.lst true sz es,[id])else none:=rfl
@[simp] theorem layE_mix:layE h d id n (some (.mix sz es))=if es.length=n then(Q2j (layD h d) es).map (λp=>(.lst true sz p.1,id::p.2))else none:=by
 simp only[layE];split
 ·cases Q2j (layD h d) es<;>rfl
 rfl
@[simp] theorem idxC_some:idxC t id off n q (some (sz,es))=if sz=t.sz then some (0≤q∧q<n,{v:=.adr id (off+q.toNat) 0})else none:=rfl
@[simp] theorem srcE_mix{z:Nat}:srcE h sz id off n (some (.mix z es))=if z=sz then(Q4K h ((es.drop off).take n)).map (λp=>(off+n≤es.length,p.1,p.2))else none:=by
 simp only[srcE];split
 ·cases Q4K h ((es.drop off).take n)<;>rfl
 rfl
@[simp] theorem srcE_row{z:Nat}:srcE h sz id off n (some (.row z es))=if z=sz then some (off+n≤es.length∧∀e∈es,∀c∈e,isVal c=true,(es.drop off).take n,[])else none:=rfl
@[simp] theorem baseE_row{z:Nat}:baseE h sz id m (some (.row z es))=if z=sz then some (m≤es.length,es.take m,[id],[])else none:=rfl
@[simp] theorem baseE_mix{z:Nat}:baseE h sz id m (some (.mix z es))=if z=sz then(Q4K h (es.take m)).map (λp=>(m≤es.length,p.1,[id],p.2))else none:=by
 simp only[baseE];split
 ·cases Q4K h (es.take m)<;>rfl
 rfl
@[simp] theorem appE_some{c1 c2:Prop}{is d1 d2:List Nat}{news:List (List AV)}:appE t n (some (c1,es,is,d1)) (some (c2,news,d2))=if(n::(is++(d1++d2))).Nodup then
    some (c1∧c2∧(es.length+news.length)*t.bytes≤140737488355328∧es.length+news.length≤140737488355328∧0<t.sz,
     {v:=.own n 0 (es.length+news.length),del:=is++(d1++d2),new:=[(n,.row t.sz (es++news))],cnt:=1})else none:=rfl
@[simp] theorem slcC_some{lo hi:Int}:slcC t id off n lo hi (some (sz,es))=if sz=t.sz then some (0≤lo∧lo≤hi∧hi≤n,{v:=.own id (off+lo.toNat) (hi - lo).toNat})else none:=rfl
end
def runE(P:Program)(mt:MT)(all:Array Oper)(os:List Oper)(dst:Option Nat)(st:St)(K:St→Prop)(x:Option (Prop×Eff)):Prop:=Q6j (λst'=>Q1s P mt all os st' K) dst st x
def runS(P:Program)(mt:MT)(all:Array Oper)(os:List Oper)(dst:Option Nat)(st:St)(K:St→Prop)(t:TypeId)(av xv:AV)(x:Option (Prop×Eff)):Prop:=Q56 (λst'=>Q1s P mt all os st' K) (stoA P mt all t av xv dst os st K) dst st x
def runO(P:Program)(mt:MT)(all:Array Oper)(os:List Oper)(dst:Option Nat)(st:St)(K:St→Prop)(op:Op):Prop:=Q5u P mt all os K (λst'=>Q1s P mt all os st' K) dst st op
def Q5d(P:Program)(mt:MT)(all:Array Oper)(os:List Oper)(dst:Option Nat)(st:St)(K:St→Prop)(op:Op)(t:Nat)(want:Bool)(x:AV):Prop:=guardW P mt all os K (λst'=>Q1s P mt all os st' K) dst st op t want x
def guardT(P:Program)(mt:MT)(all:Array Oper)(os:List Oper)(dst:Option Nat)(st:St)(K:St→Prop)(op:Op)(want:Bool)(x:Option Nat):Prop:=Q8g P mt all os K (λst'=>Q1s P mt all os st' K) dst st op want x
section
variable {P:Program}{mt:MT}{all:Array Oper}{os:List Oper}{dst:Option Nat}{st:St}{K:St→Prop}{op:Op}{ty:TypeId}{pos:String}{af:Array Edge}
@[simp] theorem runE_some{c:Prop}{e:Eff}:runE P mt all os dst st K (some (c,e))=(c∧Q1s P mt all os (st.app dst e) K):=rfl
@[simp] theorem callE_fn{f:Nat}{caps az:List AV}:callE P mt all az dst os st K (.fn f caps)=callA P mt all f (az++caps) dst os st K:=rfl
@[simp] theorem runO_call{x:Operand}{args:Array Operand}{ts:Array TypeId}:runO P mt all os dst st K (.call ⟨.value x,args,ts⟩)=callE P mt all (args.toList.map st.ev) dst os st K (st.ev x):=rfl
@[simp] theorem runO_move{x}:runO P mt all os dst st K (.move x)=Q1s P mt all os (st.app dst {v:=st.ev x}) K:=by simp[runO,Q5u,Q6j,opF]
@[simp] theorem runO_assign{x}:runO P mt all os dst st K (.assign x)=Q1s P mt all os (st.app dst {v:=st.ev x}) K:=by simp[runO,Q5u,Q6j,opF]
@[simp] theorem runO_pick{c a b}:runO P mt all os dst st K (.pick c a b)=runE P mt all os dst st K (pick (st.ev c) (st.ev a) (st.ev b)):=rfl
@[simp] theorem runO_alloc{e}:runO P mt all os dst st K (.alloc e)=runE P mt all os dst st K (Vc.alloc (tyi P e) st.n):=rfl
@[simp] theorem runO_box{t x}:runO P mt all os dst st K (.box t x)=runE P mt all os dst st K (boxv (st.ev x) st.n):=rfl
@[simp] theorem runO_build{t parts}:runO P mt all os dst st K (.build t parts)=runE P mt all os dst st K (build (tyi P t) (Q42 P t) (parts.toList.map λp=>(p.1,st.ev p.2))):=rfl
def elmE(g:TypeId→Option (Prop×Eff)):Option TypeId→Option (Prop×Eff)
 |some e=>g e
 |none=>none
@[simp] theorem elmE_some{g:TypeId→Option (Prop×Eff)}{e:TypeId}:elmE g (some e)=g e:=rfl
@[simp] theorem runO_buildSlice{t len parts}:runO P mt all os dst st K (.buildSlice t len parts)=runE P mt all os dst st K (elmE (λe=>buildSlice (tyi P e) len (parts.toList.map λp=>(p.1,st.ev p.2)) st.n) (elm P t)):=by
 simp only[runO,runE,Q5u,opF];cases elm P t<;>rfl
@[simp] theorem runO_load{t a}:runO P mt all os dst st K (.load t a)=runE P mt all os dst st K (Q1X (tyi P t) (st.ev a) st.hp st.n):=rfl
@[simp] theorem runO_store{t a x}:runO P mt all os dst st K (.store t a x)=runS P mt all os dst st K t (st.ev a) (st.ev x) (Q3w (tyi P t) (st.ev a) (st.ev x) st.hp):=rfl
@[simp] theorem runS_some{t:TypeId}{av xv:AV}{c:Prop}{e:Eff}:runS P mt all os dst st K t av xv (some (c,e))=(c∧Q1s P mt all os (st.app dst e) K):=rfl
@[simp] theorem runS_none{t:TypeId}{av xv:AV}:runS P mt all os dst st K t av xv none=stoA P mt all t av xv dst os st K:=rfl
@[simp] theorem runO_nilCheck{x}:runO P mt all os dst st K (.nilCheck x)=runE P mt all os dst st K (nilCheck (st.ev x)):=rfl
@[simp] theorem runO_binOp{o xt x y yt}:runO P mt all os dst st K (.binOp o xt x y yt)=runE P mt all os dst st K (Q5K (eqT P xt) o (st.ev x) (st.ev y)):=rfl
@[simp] theorem runO_unOp{o t x}:runO P mt all os dst st K (.unOp o t x)=runE P mt all os dst st K (unop o (st.ev x)):=rfl
@[simp] theorem runO_convert{s d x}:runO P mt all os dst st K (.convert s d x)=runE P mt all os dst st K (Q6P (intk P s) (intk P d) (st.ev x)):=rfl
@[simp] theorem runO_makeSlice{t l c}:runO P mt all os dst st K (.makeSlice t l c)=runE P mt all os dst st K (elmE (λe=>Q5g (tyi P e) (st.ev l) (st.ev c) st.n) (elm P t)):=by
 simp only[runO,runE,Q5u,opF];cases elm P t<;>rfl
@[simp] theorem runO_fieldAddr{t x k}:runO P mt all os dst st K (.fieldAddr t x k)=runE P mt all os dst st K (fieldAddr (fld P t k) (st.ev x)):=rfl
@[simp] theorem runO_field{t x k}:runO P mt all os dst st K (.field t x k)=runE P mt all os dst st K (Q5P (fld P t k) (st.ev x)):=rfl
@[simp] theorem runO_indexAddr{t x i}:runO P mt all os dst st K (.indexAddr t x i)=runE P mt all os dst st K (elmE (λe=>QY (tyi P e) (st.ev x) (st.ev i) st.hp) (elm P t)):=by
 simp only[runO,runE,Q5u,opF];cases elm P t<;>rfl
@[simp] theorem runO_extract{x k}:runO P mt all os dst st K (.extract x k)=runE P mt all os dst st K (Q3F (st.ev x) k):=rfl
@[simp] theorem runO_len{x t ts}(h:ts=#[t]):runO P mt all os dst st K (.call ⟨.builtin .len,#[x],ts⟩)=runE P mt all os dst st K (elmE (λ_=>lenv (st.ev x)) (elm P t)):=by
 subst h;simp only[runO,runE,Q5u,opF,bltF];cases elm P t<;>rfl
@[simp] theorem runO_append{x y t u}:runO P mt all os dst st K (.call ⟨.builtin .append,#[x,y],#[t,u]⟩)=runE P mt all os dst st K (elmE (λe=>if t=u then Q30 (tyi P e) (st.ev x) (st.ev y) st.hp st.n else none) (elm P t)):=by
 simp only[runO,runE,Q5u,opF,bltF];cases elm P t<;>rfl
@[simp] theorem runO_min{xs ts}:runO P mt all os dst st K (.call ⟨.builtin .min,xs,ts⟩)=runE P mt all os dst st K (Q4r (λa b=>if b<a then b else a) (xs.toList.map st.ev)):=rfl
@[simp] theorem runO_max{xs ts}:runO P mt all os dst st K (.call ⟨.builtin .max,xs,ts⟩)=runE P mt all os dst st K (Q4r (λa b=>if b>a then b else a) (xs.toList.map st.ev)):=rfl
@[simp] theorem runOps_nil:Q1s P mt all [] st K=K st:=rfl
@[simp] theorem runOps_go:Q1s P mt all (⟨dst,op,ty,pos,af,none⟩::os) st K=runO P mt all os dst st K op:=rfl
@[simp] theorem runOps_guard{j:Nat}{want:Bool}:Q1s P mt all (⟨dst,op,ty,pos,af,some (j,want)⟩::os) st K=guardT P mt all os dst st K op want ((all[j]?).bind (·.dst)):=rfl
@[simp] theorem guardT_some{want:Bool}{t:Nat}:guardT P mt all os dst st K op want (some t)=Q5d P mt all os dst st K op t want (st.get t):=rfl
theorem Qi{want:Bool}{t:Nat}{b:Bool}:Q5d P mt all os dst st K op t want (.val (.bool b))=((b=want→runO P mt all os dst (st.put t (.val (.bool want))) K op)∧(b= !want→Q1s P mt all os ((st.put t (.val (.bool !want))).app dst {v:=.tup []}) K)):=rfl
attribute [local simp] Qi
@[simp high] theorem guardE_tup{t:Nat}{want:Bool}:Q5d P mt all os dst st K op t want (.tup [])=Q1s P mt all os (st.app dst {v:=.tup []}) K:=rfl
@[simp high] theorem guardE_tt{t:Nat}:Q5d P mt all os dst st K op t true (.val (.bool true))=runO P mt all os dst (st.put t (.val (.bool true))) K op:=by simp[Qi]
@[simp high] theorem guardE_ff{t:Nat}:Q5d P mt all os dst st K op t false (.val (.bool false))=runO P mt all os dst (st.put t (.val (.bool false))) K op:=by simp[Qi]
@[simp high] theorem guardE_tf{t:Nat}:Q5d P mt all os dst st K op t true (.val (.bool false))=Q1s P mt all os ((st.put t (.val (.bool false))).app dst {v:=.tup []}) K:=by simp[Qi]
@[simp high] theorem guardE_ft{t:Nat}:Q5d P mt all os dst st K op t false (.val (.bool true))=Q1s P mt all os ((st.put t (.val (.bool true))).app dst {v:=.tup []}) K:=by simp[Qi]
end
attribute [simp] cont_E wr_E Q8q storev_E layD_val layD_E Q8l Q8j src_nil src_lst src_E base_nil base_E appendv_E Q8C Q8B
attribute [simp] rl rlL rlLL rlE Q6z St.ev cst scB St.app putS Q5k Q4D Q39 St.get look lenv Q5K binop unop pick St.put setH delH fieldAddr Q5P nilCheck depth Qm Q81 Q5L roundA Q5g Q6P Q3F slen Q46 Q4r Q9t build Q6i Q1Z Q7r rep Q5c buildSlice Q2F Q2j layC alloc boxv Q1d AV.cells isVal Q5t
section
attribute [local simp] Qi QP Qv
def ments:Nat→List Mu→List (Nat×Ent)
 |_,[]=>[]
 |j,u::r=>(j,.row u.sz u.es)::ments (j+1) r
def resOk(ts:List Nat)(st:St)(res:AV):Prop:=
 match ts,res with
 |[t],.val v=>st.get t= .val v
 |[],.tup []=>True
 |_,_=>False
def isAli:Ent→Bool
 | .ali _ _ _ _=>true
 |_=>false
attribute [simp] isAli ments resOk
end
section
attribute [local simp] Qi QP Qv
theorem PurTo.aggL{h:HP}{xs ys:List AV}(hp:PurL h xs ys):PurTo h (.agg xs) (.agg ys):=.agg hp.1 hp.2
inductive MArgL(m:List Nat):List AV→List AV→Prop
 |nil:MArgL m [] []
 |cons {a b xs ys}:MArg m a b→MArgL m xs ys→MArgL m (a::xs) (b::ys)
theorem MArgL.get{m:List Nat}{xs ys:List AV}(h:MArgL m xs ys):xs.length=ys.length∧∀k,k<ys.length→MArg m (xs.getD k .bot) (ys.getD k .bot):=by
 induction h with
 |nil=>exact⟨rfl,λk hk=>by simp at hk⟩
 |cons h _ ih=>
  refine⟨by simp[ih.1],λk hk=>?_⟩;cases k with
  |zero=>simpa using h
  |succ k=>simpa using ih.2 k (by simpa using hk)
inductive Roots(h:List (Nat×Ent)):List Nat→List Mu→Prop
 |nil:Roots h [] []
 |cons {id u m ms}:look id h=some (.row u.sz u.es)→Roots h m ms→Roots h (id::m) (u::ms)
theorem Roots.get{h:List (Nat×Ent)}{m:List Nat}{ms:List Mu}(hr:Roots h m ms):m.length=ms.length∧∀j,j<ms.length→look (m.getD j 0) h=some (.row (ms.getD j .none).sz (ms.getD j .none).es):=by
 induction hr with
 |nil=>exact⟨rfl,λj hj=>by simp at hj⟩
 |cons h _ ih=>
  refine⟨by simp[ih.1],λk hk=>?_⟩;cases k with
  |zero=>simpa using h
  |succ k=>simpa using ih.2 k (by simpa using hk)
inductive Ents(h:List (Nat×Ent)):Nat→List Mu→Prop
 |nil {j}:Ents h j []
 |cons {j u ms}:look j h=some (.row u.sz u.fs)→Ents h (j+1) ms→Ents h j (u::ms)
theorem Ents.get{h:List (Nat×Ent)}{j:Nat}{ms:List Mu}(he:Ents h j ms):∀i,i<ms.length→look (j+i) h=some (.row (ms.getD i .none).sz (ms.getD i .none).fs):=by
 induction he with
 |nil=>intro i hi;simp at hi
 |cons h _ ih=>
  intro i hi;cases i with
  |zero=>simpa using h
  |succ i=>have:=ih i (by simpa using hi);simpa[Nat.add_comm,Nat.add_left_comm]using this
end
section
attribute [local simp] Qi QP Qv
structure IRet(ts:List Nat)(H:List (Nat×Ent))(n:Nat)(e:Eff)(st:St):Prop where
 res:Qt (ts.map st.get)=e.v
 n:st.n=n+e.cnt
 h:st.h=Q5k e.set (Q4D e.del H)++e.new
def iretQ(ts:List Nat)(H:List (Nat×Ent))(n:Nat)(e:Eff):Exit→St→Prop
 | .normal,st=>IRet ts H n e st
 | .ret,st=>IRet ts H n e st
 |_,_=>False
theorem res_rel{w:World}{R:Nat→Prop}{ρ:Nat→Option Bk}{tmps:Array Value}{st:St}(hx:∀t,XRel w R ρ (tmps.getD t undef) (st.get t))(ts:List Nat):
  XRel w R ρ (Q2R (ts.map λt=>tmps.getD t undef)) (Qt (ts.map st.get)):=by
 match ts with
 |[]=>exact .tup rfl λk hk=>by simp at hk
 |[t]=>exact hx t
 |t::u::r=>
  simp only[qP,Q2R,Qt];refine .tup (by simp) λk hk=>?_;have hk':k<(t::u::r).length:=by simpa using hk
  have h1:((tmps.getD t undef::tmps.getD u undef::r.map λt=>tmps.getD t undef).toArray).getD k undef=tmps.getD ((t::u::r)[k]) undef:=by
   have:(tmps.getD t undef::tmps.getD u undef::r.map λt=>tmps.getD t undef)=(t::u::r).map λt=>tmps.getD t undef:=rfl;rw[this];have hk2:k<(List.map (λt=>tmps.getD t undef) (t::u::r)).toArray.size:=(by simpa using hk');rw[Array.getD_eq_getD_getElem?,zP hk2,zQ];simp only[List.getElem_toArray,List.getElem_map]
  have h2:(st.get t::st.get u::r.map st.get).getD k .bot=st.get ((t::u::r)[k]):=by
   have:(st.get t::st.get u::r.map st.get)=(t::u::r).map st.get:=rfl;rw[this,qB,List.getElem?_map,qI hk',qY,zQ]
  rw[h1,h2];exact hx _
theorem Q9x{P:Program}{f:Nat}{fn:Func}{c:Code}{az:List AV}{ts:List Nat}{H:List (Nat×Ent)}{n:Nat}{e:Eff}(hf:P.funcs[f]? =some fn)(hb:fn.body=some c)(hrt:resT fn.results=some ts)(hname:(fn.name=="runtime.NumGoroutine")=false)(hN:az.length≤fn.ntmps)(hH:∀p∈H,p.1<n)(hfine:e.fine n)(hnew:∀id,n≤id→id<n+e.cnt→id∈e.new.map qE)(h:∀F:Fx,F.N=fn.ntmps→F.pins=n→Wp P F c (iretQ ts H n e) ⟨Q39 0 az,H,n⟩):ICon P f az (λid=>look id H) n e:=by
 refine⟨⟨fn,hf,hname,by rw[hb];rfl⟩,λ_=>hfine,λC w g h' vals hag hne hlim W HH hsz hargs=>?_⟩;refine calls_of_wp hf hb ?_
 let C':Ctx:=⟨w,λb=>∃L,g.o b=some L,g.ρ,n⟩
 have hrel:Rel C' g.R fn.ntmps {tmps:=vals++zY (fn.ntmps - vals.size) undef,defers:=[]} w ⟨Q39 0 az,H,n⟩:=by
  refine⟨by simp;omega,rfl,λid x hx=>hH (id,x) (Qg hx),g.o,g.ρ,⟨W.R,λb L hb=>⟨(W.o b L hb).1,.inr ⟨L,hb⟩⟩,rfl,⟨rfl,qF _⟩,rfl,qF _,λb _ _=>rfl⟩,
   HH.grow λid k hk=>(hag id (hlim id k hk)).symm,λt=>?_,hlim,λid _=>rfl,qF _⟩
  simp only[St.get,Q2w]
  by_cases ht:t<az.length
  ·rw[if_pos (by omega)];simp only[yG,zQ];have h2:(vals++zY (fn.ntmps - vals.size) undef).getD t undef=vals.getD t undef:=by
    simp[zJ,show t<vals.size by omega]
   rw[h2];exact hargs t ht
  rw[if_neg (by omega)];exact .bot
 refine Q3T (λex a w' hq=>?_) (h ⟨C',g.R,fn.ntmps,n,rfl⟩ rfl rfl _ w (.of hrel));obtain⟨st,⟨R',hX,hr⟩,hq⟩:=hq;have fin:IRet ts H n e st→a.defers=[]∧∃v,(results fn a.tmps).run P w'= .ok v w'∧∃v' R' o' ρ',Ending.returned v= .returned v'∧RX g.R R' C.w0.heap.size∧WF C w' ⟨R',o',ρ'⟩∧HRel w' ⟨R',o',ρ'⟩ (happ e h')∧(∀id k,g.ρ id=some k→ρ' id=some k)∧
   (∀id k,ρ' id=some k→g.ρ id=some k∨(n≤id∧id<n+e.cnt))∧XRel w' R' ρ' v' e.v∧(∀b,g.R b→w'.heap[b]? =w.heap[b]?):=by
  intro hA;obtain⟨_,hdef,_,o',ρ',W',HH',hx,hlt',hpin⟩:=hr;obtain⟨a1,a2,a3⟩:=hA;have hρ1:∀id,id<n→ρ' id=g.ρ id:=hpin.1;have hcC:∀b,b<C.w0.heap.size→¬C.wrb b→g.o b=none:=by
   intro b hb hw;cases ho:g.o b with
   |none=>rfl
   |some L=>
    rcases(W.o b L ho).2 with h|h
    ·omega
    exact absurd h hw
  have hkeep:∀b,b<w.heap.size→g.o b=none→w'.heap[b]? =w.heap[b]?:=λb hb ho=>W'.keep b hb (by rintro ⟨L,hL⟩;rw[ho]at hL;cases hL);refine⟨hdef,_,Q63 hrt _,_,R',o',ρ',rfl,⟨hX.1,λb hb=>(hX.2 b hb).imp id (qK W.size)⟩,⟨W'.R,λb L hb=>⟨(W'.o b L hb).1,?_⟩,W'.os.trans W.os,tpt W'.tape W.tape,W'.output.trans W.output,qK W.size W'.size,λb hb hw=>?_⟩,
   HH'.grow λid k hk=>?_,λid k hk=>(hρ1 id (hlim id k hk)).trans hk,λid k hk=>?_,?_,λb hb=>hkeep b (W.R b hb).1 (W.R b hb).2⟩
  ·rcases(W'.o b L hb).2 with h|⟨L',h⟩
   ·exact .inl (qK W.size h)
   exact(W.o b L' h).2
  ·exact(hkeep b (qN hb W.size) (hcC b hb hw)).trans (W.keep b hb hw)
  ·have hid:id<n+e.cnt:=(by rw[←a2];exact hlt' id k hk);have hl:look id st.h=match happ e (λid=>look id H) id with|some x=>some x|none=>look id e.new:=by
    have:=Q2k (st:=⟨[],H,n⟩) none hfine id;simp only[St.app]at this;rw[a3];exact this
   show happ e h' id=look id st.h;rw[hl]
   by_cases hlt:id<n
   ·have hn:look id e.new=none:=by
     cases hq:look id e.new with
     |none=>rfl
     |some x=>have:=(hfine.new _ (Qg hq)).1;simp only at this;omega
    have he:happ e h' id=happ e (λid=>look id H) id:=by
     simp only[happ,hag id hlt]
    rw[he,hn];cases happ e (λid=>look id H) id<;>rfl
   obtain⟨p,hp,hpe⟩:=List.mem_map.1 (hnew id (by omega) hid);have h1:happ e (λid=>look id H) id=none:=by
    simp only[happ];have h2:look id e.set=none:=by
     cases hq:look id e.set with
     |none=>rfl
     |some x=>have:=hfine.sets.2 _ (Qg hq);simp only at this;omega
    have h3:look id H=none:=by
     cases hq:look id H with
     |none=>rfl
     |some x=>have:=hH _ (Qg hq);simp only at this;omega
    rw[h2,h3];simp
   have h2:happ e h' id=h' id:=by
    simp only[happ];have h2:look id e.set=none:=by
     cases hq:look id e.set with
     |none=>rfl
     |some x=>have:=hfine.sets.2 _ (Qg hq);simp only at this;omega
    rw[h2,if_neg];intro hd;have:=hfine.del id hd;omega
   rw[h1,h2];obtain⟨i,x⟩:=p;simp only at hpe;subst hpe;rw[hne _ hp,QQ hfine.nodup hp]
  ·by_cases hlt:id<n
   ·exact .inl ((hρ1 id hlt).symm.trans hk)
   exact .inr ⟨by omega,by rw[←a2];exact hlt' id k hk⟩
  rw[←a1];exact res_rel hx ts
 cases ex with
 |normal=>exact fin hq
 |ret=>exact fin hq
 |_=>exact hq.elim
end
section
attribute [local simp] Qi QP Qv
inductive RGet(P:Program)(st:St):List ResultVar→List AV→Prop
 |nil:RGet P st [] []
 |tmp {t r az}:RGet P st r az→RGet P st (.tmp t::r) (st.get t::az)
 | cell {a t ty id i k sz es r az}:tyi P t=some ty→ty.agg=true→st.get a = .adr id i k→look id st.h=some (.mix sz es)→i<es.length→k+ty.sz≤sz→RGet P st r az →
   RGet P st (.cell a t::r) (.agg (((es.getD i []).drop k).take ty.sz)::az)
 | cell1 {a t ty id i k sz es r az}:tyi P t=some ty→ty.agg=false→0<ty.sz→st.get a = .adr id i k→look id st.h=some (.mix sz es)→i<es.length→k+ty.sz≤sz→RGet P st r az →
   RGet P st (.cell a t::r) ((es.getD i []).getD k .bot::az)
def resM(tmps:Array Value):ResultVar→Sem Value
 | .tmp t=>pure (tmps.getD t undef)
 | .cell a t=>do loadVar t (←asAddr (tmps.getD a undef))
theorem Q5G{P:Program}{R:Nat→Prop}{w:World}{st:St}{o:Nat→Option (List Nat)}{ρ:Nat→Option Bk}(H:HRel w ⟨R,o,ρ⟩ st.hp){tmps:Array Value}(hx:∀t,XRel w R ρ (tmps.getD t undef) (st.get t)){rvs:List ResultVar}{az:List AV}(hg:RGet P st rvs az):∃vs:List Value,(rvs.mapM (resM tmps)).run P w= .ok vs w∧vs.length=az.length∧∀k,k<az.length→XRel w R ρ (vs.getD k undef) (az.getD k .bot):=by
 induction hg with
 |nil=>exact⟨[],by simp,rfl,λk hk=>by simp at hk⟩
 |@tmp t r az _ ih=>
  obtain⟨vs,h1,h2,h3⟩:=ih;refine⟨tmps.getD t undef::vs,by simp[List.mapM_cons,resM,h1],by simp[h2],λk hk=>?_⟩;cases k with
  |zero=>exact hx t
  |succ k=>exact h3 k (by simpa using hk)
 |@cell a t ty id i k sz es r az hty hag ha hl hi hk _ ih=>
  obtain⟨vs,h1,h2,h3⟩:=ih;have hxa:=hx a;rw[ha]at hxa;obtain⟨b,bsz,cap,hbk,hv⟩:=hxa.adr_eq;obtain⟨b',cur,el,us,cpm,hbk',ho',hh,hsz',hcp,hml,hlen,hcur,hone,hxr⟩:=(H.mix id sz es _ hl hbk).ex (by simp);simp only[Bk.mk.injEq,qA]at hbk';obtain⟨rfl,rfl,_⟩:=hbk';have hrun:=Q4w (P:=P) (w:=w) hty (b:=b) (x:=i*bsz+k) (us:=λj=>us i (k+j)) (λj hj=>by
   rw[Q1I hh,Nat.add_assoc];exact hcur i (k+j) hi (by omega))
  rw[hag]at hrun;simp only[cond_true]at hrun;have hlen2:(((es.getD i []).drop k).take ty.sz).length=ty.sz:=by rw[List.length_take,List.length_drop,hlen i hi];omega
  have hX:XRel w R ρ (.agg ((yB ty.sz).map λj=>us i (k+j)).toArray) (.agg (((es.getD i []).drop k).take ty.sz)):=by
   refine .agg (by rw[hlen2];simp) ?_ ?_
   ·intro j hj;rw[hlen2]at hj;rw[Q1M _ _ _ hj];exact hone _ _ hi (by omega)
   intro j hj;rw[hlen2]at hj;rw[Q1M _ _ _ hj];have:=hxr i (k+j) hi (by omega);simpa[qB,List.getElem?_take,List.getElem?_drop,hj]using this
  have hv2:tmps.getD a undef= .pointer (some ⟨b,i*bsz+k,none⟩):=hv;refine⟨.agg ((yB ty.sz).map λj=>us i (k+j)).toArray::vs,?_,by simp[h2],λj hj=>?_⟩
  ·rw[List.mapM_cons];simp[resM,hv2,asAddr,hrun,h1]
  cases j with
  |zero=>exact hX
  |succ j=>exact h3 j (by simpa using hj)
 |@cell1 a t ty id i k sz es r az hty hag h0 ha hl hi hk _ ih=>
  obtain⟨vs,h1,h2,h3⟩:=ih;have hxa:=hx a;rw[ha]at hxa;obtain⟨b,bsz,cap,hbk,hv⟩:=hxa.adr_eq;obtain⟨b',cur,el,us,cpm,hbk',ho',hh,hsz',hcp,hml,hlen,hcur,hone,hxr⟩:=(H.mix id sz es _ hl hbk).ex (by simp);simp only[Bk.mk.injEq,qA]at hbk';obtain⟨rfl,rfl,_⟩:=hbk';have hrun:=Q4w (P:=P) (w:=w) hty (b:=b) (x:=i*bsz+k) (us:=λj=>us i (k+j)) (λj hj=>by
   rw[Q1I hh,Nat.add_assoc];exact hcur i (k+j) hi (by omega))
  rw[hag]at hrun;simp only[cond_false,Nat.add_zero]at hrun;have hv2:tmps.getD a undef= .pointer (some ⟨b,i*bsz+k,none⟩):=hv;refine⟨us i k::vs,?_,by simp[h2],λj hj=>?_⟩
  ·rw[List.mapM_cons];simp[resM,hv2,asAddr,hrun,h1]
  cases j with
  |zero=>exact hxr i k hi (by omega)
  |succ j=>exact h3 j (by simpa using hj)
theorem Q3d{P:Program}{w:World}{fn:Func}{rvs:List ResultVar}{tmps:Array Value}{vs:List Value}(hr:fn.results=rvs.toArray)(h:(rvs.mapM (resM tmps)).run P w= .ok vs w):(results fn tmps).run P w= .ok (Q2R vs) w:=by
 have e:results fn tmps=(do let vs←fn.results.mapM (resM tmps);pure (if h:vs.size=1 then vs[0]else .tuple vs)):=by
  unfold results
  congr 1
 rw[e,hr,List.mapM_toArray];simp only[map_eq_pure_bind];simp[h];rcases vs with _|⟨v,_|⟨u,r⟩⟩
 ·simp[Q2R]
 ·simp[Q2R]
 simp[Q2R]
structure RetG(P:Program)(rvs:List ResultVar)(st:St)(rs:List AV):Prop where
 ex:∃az,RGet P st rvs az∧RetV az st rs
def retGQ(P:Program)(rvs:List ResultVar)(rs:List AV):Exit→St→Prop
 | .normal,st=>RetG P rvs st rs
 | .ret,st=>RetG P rvs st rs
 |_,_=>False
theorem Q5p{P:Program}{f:Nat}{fn:Func}{c:Code}{args:List AV}{rvs:List ResultVar}{rs:List AV}{res:AV}(hf:P.funcs[f]? =some fn)(hb:fn.body=some c)(hrt:fn.results=rvs.toArray)(hrs:res=Qt rs)(hname:(fn.name=="runtime.NumGoroutine")=false)(hN:args.length≤fn.ntmps)(h:∀F:Fx,F.N=fn.ntmps→F.pins=0→(∀b,¬F.C.wrb b)→Wp P F c (retGQ P rvs rs) ⟨Q39 0 args,[],0⟩):Contract P f args res:=by
 subst hrs;refine⟨⟨fn,hf,hname,by rw[hb];rfl⟩,λw R vals hR hsz hx=>?_⟩;refine calls_of_wp hf hb ?_
 let C:Ctx:=⟨w,λ_=>False,λ_=>none,0⟩
 have hrel:Rel C R fn.ntmps {tmps:=vals++zY (fn.ntmps - vals.size) undef,defers:=[]} w ⟨Q39 0 args,[],0⟩:=by
  refine⟨by simp;omega,rfl,(λid x h=>by cases h),λ_=>none,noρ,⟨λb hb=>⟨hR b hb,rfl⟩,(λb L hb=>by cases hb),rfl,⟨rfl,qF _⟩,rfl,qF _,λb _ _=>rfl⟩,⟨(λid sz es bk _ hb=>by cases hb),(λid sz es bk _ hb=>by cases hb),(λid c i k sz bk _ hb=>by cases hb),(λid kd es bk _ hb=>by cases hb)⟩,λt=>?_,(λid k hk=>by cases hk),(λid hid=>by cases hid),qF _⟩;simp only[St.get,Q2w]
  by_cases ht:t<args.length
  ·rw[if_pos (by omega)];simp only[yG,zQ];have:=hx t ht;have h2:(vals++zY (fn.ntmps - vals.size) undef).getD t undef=vals.getD t undef:=by
    simp[zJ,show t<vals.size by omega]
   rw[h2];exact this
  rw[if_neg (by omega)];exact .bot
 refine Q3T (λe a w' hq=>?_) (h ⟨C,R,fn.ntmps,0,rfl⟩ rfl rfl (λ_ h=>h) _ w (.of hrel));obtain⟨st,⟨R',hX,hr⟩,hq⟩:=hq;have fin:RetG P rvs st rs→a.defers=[]∧∃v,(results fn a.tmps).run P w'= .ok v w'∧∃v' o,Ending.returned v= .returned v'∧Blw w.heap.size w w'∧(∀b L,o b=some L→w.heap.size≤b∧b<w'.heap.size)∧Res w' o v' (Qt rs):=by
  intro hA;obtain⟨az,hg,hv⟩:=hA.ex;obtain⟨_,hdef,_,o,ρ,W,H,hxx,_⟩:=hr;obtain⟨vs,h1,h2,h3⟩:=Q5G H hxx hg;obtain⟨q1,o1,q2,q3⟩:=Q78 W H rfl hv (vs:=vs) h2 h3;exact⟨hdef,_,Q3d hrt h1,_,o1,rfl,q1,q2,q3⟩
 cases e with
 |normal=>exact fin hq
 |ret=>exact fin hq
 |_=>exact hq.elim
theorem Q6{P:Program}{f:Nat}{fn:Func}{c:Code}{args:List AV}{rvs:List ResultVar}{rs:List AV}{res:AV}(hf:P.funcs[f]? =some fn)(hb:fn.body=some c)(hrt:fn.results=rvs.toArray)(hrs:res=Qt rs)(hname:(fn.name=="runtime.NumGoroutine")=false)(hN:args.length≤fn.ntmps)(h:∀F:Fx,F.N=fn.ntmps→F.pins=0→Wp P F c (retGQ P rvs rs) ⟨Q39 0 args,[],0⟩):Contract P f args res:=
 Q5p hf hb hrt hrs hname hN λF h1 h2 _=>h F h1 h2
end
section
attribute [local simp] Qi QP Qv
def nlA(news:List (Nat×Nat))(a b:AV):Prop:=a=b∨(a= .val (.slice none 0 0)∧∃q∈news,b= .own q.1 0 0)
def nlL(news:List (Nat×Nat)):List AV→List AV→Prop
 |[],[]=>True
 |a::r,b::s=>nlA news a b∧nlL news r s
 |_,_=>False
def entN(news:List (Nat×Nat)):Ent→Ent→Prop
 | .mix sz [cs],.mix sz' [ds]=>sz=sz'∧nlL news cs ds
 | .mix sz [],.row sz' es=>sz=sz'∧es=[]
 |e,e'=>e=e'
theorem nlL_get{news:List (Nat×Nat)}:∀{cs ds:List AV},nlL news cs ds→cs.length=ds.length∧∀k,k<cs.length→nlA news (cs.getD k .bot) (ds.getD k .bot):=by
 intro cs
 induction cs with
 |nil=>intro ds h;cases ds with
  |nil=>exact⟨rfl,λk hk=>by simp at hk⟩
  |cons=>exact h.elim
 |cons a r ih=>
  intro ds h;cases ds with
  |nil=>exact h.elim
  |cons b s=>
   obtain⟨h1,h2⟩:=h;obtain⟨h3,h4⟩:=ih h2;refine⟨by simp[h3],λk hk=>?_⟩;cases k with
   |zero=>simpa using h1
   |succ k=>simpa using h4 k (by simpa using hk)
theorem Q3o{news:List (Nat×Nat)}{e e':Ent}(h:entN news e e'):e=e'∨(∃sz cs ds,e= .mix sz [cs]∧e'= .mix sz [ds]∧nlL news cs ds)∨(∃sz,e= .mix sz []∧e'= .row sz []):=by
 unfold entN at h;split at h
 ·obtain⟨rfl,h⟩:=h;exact .inr (.inl ⟨_,_,_,rfl,rfl,h⟩)
 ·obtain⟨rfl,rfl⟩:=h;exact .inr (.inr ⟨_,rfl,rfl⟩)
 exact .inl h
theorem Wk.nils{F:Fx}{st st':St}(news:List (Nat×Nat))(hn:∀p∈news,st.n≤p.1∧p.1<st'.n)(hle:st.n≤st'.n)(hs:∀p∈st'.s,nlA news (st.get p.1) p.2∨p.2= .bot)(hh:∀p∈st'.h,(∃q∈news,p=(q.1,.row q.2 []))∨∃e,look p.1 st.h=some e∧entN news e p.2)(hnd:(news.map qE).Nodup):Wk F st st':=by
 refine Wk.mk λR a w hr=>?_;obtain⟨r1,r2,r3,o,ρ,W,H,hx,hρ,hp⟩:=hr
 let ρ':Nat→Option Bk:=λid=>match look id news with|some sz=>some ⟨none,sz,0⟩|none=>ρ id
 have hnone:∀q∈news,ρ q.1=none:=by
  intro q hq;cases h:ρ q.1 with
  |none=>rfl
  |some k=>have:=hρ _ _ h;have:=(hn q hq).1;omega
 have hold:∀id k,ρ id=some k→ρ' id=some k:=by
  intro id k hk;simp only[ρ'];cases hl:look id news with
  |none=>exact hk
  |some sz=>have:=hnone _ (Qg hl);simp only at this;rw[hk]at this;cases this
 have hnew:∀q∈news,ρ' q.1=some ⟨none,q.2,0⟩:=by
  intro q hq;simp only[ρ'];rw[QQ hnd hq]
 have hA:∀{v:Value} {x y:AV},XRel w R ρ v x→nlA news x y→XRel w R ρ' v y:=by
  intro v x y hv h;rcases h with rfl|⟨rfl,q,hq,rfl⟩
  ·exact hv.mono (λb hb=>⟨hb,rfl⟩) hold
  obtain⟨rfl,_⟩:=hv.val_eq;exact .own0 (hnew q hq)
 have hent:∀id e',st'.hp id=some e'→(∃q∈news,id=q.1∧e'= .row q.2 [])∨∃e,st.hp id=some e∧entN news e e':=by
  intro id e' h;rcases hh (id,e') (Qg h)with⟨q,hq,he⟩|h
  ·simp only[qC]at he;exact .inl ⟨q,hq,he.1,he.2⟩
  exact .inr h
 have hback:∀id bk,ρ' id=some bk→(∃q∈news,id=q.1∧bk=⟨none,q.2,0⟩)∨(ρ id=some bk∧∀q∈news,id≠q.1):=by
  intro id bk h;simp only[ρ']at h;cases hl:look id news with
  |some sz=>rw[hl]at h;simp only[qA]at h;exact .inl ⟨(id,sz),Qg hl,rfl,h.symm⟩
  |none=>
   rw[hl]at h;refine .inr ⟨h,λq hq he=>?_⟩;subst he;rw[QQ hnd hq]at hl;cases hl
 have hcont:∀(d c:Nat) (szc:Nat) (esc:List (List AV)) (bk:Bk),ρ c=some bk→cont st'.hp d c=some (szc,esc)→Qm (st'.hp c)=false→esc=[]∨(cont st.hp d c=some (szc,esc)∧Qm (st.hp c)=false):=by
  intro d
  induction d with
  |zero=>intro c szc esc bk _ h;cases h
  |succ d ih=>
   intro c szc esc bk hb hc hm;unfold cont at hc⊢;cases he:st'.hp c with
   |none=>simp[he]at hc
   |some e'=>
    rw[he]at hc hm;rcases hent c e' he with⟨q,hq,rfl,rfl⟩|⟨e,h1,h2⟩
    ·rw[hnone q hq]at hb;cases hb
    rcases Q3o h2 with rfl|⟨sz,cs,ds,rfl,rfl,_⟩|⟨sz,rfl,rfl⟩
    ·cases e with
     |mix=>cases hm
     |mapE=>cases hc
     |row sz es=>exact .inr ⟨by rw[h1];exact hc,by rw[h1];rfl⟩
     |ali c2 i2 k2 s2=>
      rw[h1];simp only at hc⊢;split at hc
      ·cases hc
      rename_i hm2;cases hc2:cont st'.hp d c2 with
      |none=>simp[hc2]at hc
      |some p=>
       obtain⟨sz2,es2⟩:=p;obtain⟨_,bk2,hb2,_⟩:=H.ali c c2 i2 k2 s2 bk h1 hb;rw[hc2]at hc;rcases ih c2 sz2 es2 bk2 hb2 hc2 (by simpa using hm2)with rfl|⟨q1,q2⟩
       ·simp at hc
       right;rw[q2,q1];exact⟨hc,rfl⟩
    ·cases hm
    simp only[qA,qC]at hc;exact .inl hc.2.symm
 refine⟨r1,r2,λid x hx=>?_,o,ρ',⟨W.R,W.o,W.os,W.tape,W.output,W.size,W.keep⟩,⟨λid sz es bk he hb=>?_,λid sz es bk he hb=>?_,λid c i k sz bk he hb=>?_,λid kd es bk he hb=>?_⟩,λt=>?_,λid k hk=>?_,λid hid=>?_,qK hp.2 hle⟩;rotate_left 4
 ·rcases hent id _ he with⟨q,hq,rfl,h⟩|⟨e,h1,h2⟩
  ·cases h
  rcases hback id bk hb with⟨q,hq,rfl,rfl⟩|⟨hb',_⟩
  ·exact absurd (r3 _ e h1) (by have:=(hn q hq).1;omega)
  rcases Q3o h2 with rfl|⟨s1,cs,ds,rfl,hd,hl⟩|⟨s1,rfl,hd⟩
  ·exact H.map id kd es bk h1 hb'
  ·cases hd
  cases hd
 rotate_left 3
 ·rcases hent id x hx with⟨q,hq,rfl,_⟩|⟨e,he,_⟩
  ·exact(hn q hq).2
  exact qN (r3 id e he) hle
 ·rcases hent id _ he with⟨q,hq,rfl,h⟩|⟨e,h1,h2⟩
  ·cases h
  rcases hback id bk hb with⟨q,hq,rfl,rfl⟩|⟨hb',_⟩
  ·exact absurd (r3 _ e h1) (by have:=(hn q hq).1;omega)
  rcases Q3o h2 with rfl|⟨s1,cs,ds,rfl,hd,hl⟩|⟨s1,rfl,hd⟩
  ·rcases(H.mix id sz es bk h1 hb').ex0 with h0|⟨b,cur,el,us,cpm,q1,q2,q3,q4,q5,q5',q6,q7,q8,q9⟩
   ·exact⟨.inl h0⟩
   exact .mk' ⟨b,cur,el,us,cpm,q1,q2,q3,q4,q5,q5',q6,q7,q8,λi k hi hk=>(q9 i k hi hk).mono (λb hb=>⟨hb,rfl⟩) hold⟩
  ·cases hd;rcases(H.mix id sz _ bk h1 hb').ex0 with⟨h0,_⟩|⟨b,cur,el,us,cpm,q1,q2,q3,q4,q5,q5',q6,q7,q8,q9⟩
   ·cases h0
   obtain⟨g1,g2⟩:=nlL_get hl;refine .mk' ⟨b,cur,el,us,cpm,q1,q2,q3,q4,by simpa using q5,q5',λi hi=>?_,q7,q8,λi k hi hk=>?_⟩
   ·have h0:i=0:=(by simp at hi;omega);subst h0;have:=q6 0 (by simp);simpa[←g1]using this
   have h0:i=0:=(by simp at hi;omega);subst h0;have h6:=q6 0 (by simp);simp only[List.getD_cons_zero]at h6;refine hA (q9 0 k (by simp) hk) ?_;simpa using g2 k (by omega)
  cases hd
 ·rcases hent id _ he with⟨q,hq,rfl,h⟩|⟨e,h1,h2⟩
  ·cases h;have:=(show ρ' q.1=some bk from hb).symm.trans (hnew q hq);cases this;exact⟨_,.nil,.nil⟩
  rcases hback id bk hb with⟨q,hq,rfl,rfl⟩|⟨hb',_⟩
  ·exact absurd (r3 _ e h1) (by have:=(hn q hq).1;omega)
  rcases Q3o h2 with rfl|⟨s1,cs,ds,rfl,hd,hl⟩|⟨s1,rfl,hd⟩
  ·exact H.row id sz es bk h1 hb'
  ·cases hd
  cases hd;rcases(H.mix id sz [] bk h1 hb').ex0 with⟨_,cp0,rfl⟩|⟨b,cur,el,us,cpm,q1,q2,q3,q4,q5,q5',q6,q7,q8,q9⟩
  ·exact⟨_,.nil,.nil⟩
  subst q1;exact⟨.slice (some ⟨b,0,none⟩) 0 cpm,.own (es:=[]) us q2 q3 q4 (yD _) q5' (λi hi=>by simp at hi) (λi k hi=>by simp at hi) (λi k hi=>by simp at hi) (λi k hi=>by simp at hi),.own⟩
 ·rcases hent id _ he with⟨q,hq,rfl,h⟩|⟨e,h1,h2⟩
  ·cases h
  rcases hback id bk hb with⟨q,hq,rfl,rfl⟩|⟨hb',_⟩
  ·exact absurd (r3 _ e h1) (by have:=(hn q hq).1;omega)
  rcases Q3o h2 with rfl|⟨s1,cs,ds,rfl,hd,hl⟩|⟨s1,rfl,hd⟩
  ·obtain⟨q1,bkc,q2,q3⟩:=H.ali id c i k sz bk h1 hb';refine⟨q1,bkc,hold _ _ q2,λd szc esc hc hm hi hk=>?_⟩;rcases hcont d c szc esc bkc q2 hc hm with rfl|⟨g1,g2⟩
   ·simp at hi
   exact q3 d szc esc g1 g2 hi hk
  ·cases hd
  cases hd
 ·cases hl:look t st'.s with
  |none=>simp only[St.get,hl,Option.getD_none];exact .bot
  |some v=>
   simp only[St.get,hl,zQ];rcases hs _ (Qg hl)with h|h
   ·exact hA (hx t) h
   simp only at h;rw[h];exact .bot
 ·rcases hback id k hk with⟨q,hq,rfl,_⟩|⟨h,_⟩
  ·exact(hn q hq).2
  exact qN (hρ id k h) hle
 show ρ' id=_;have hlt:id<st.n:=qN hid hp.2;rw[←hp.1 id hid];simp only[ρ'];cases hl:look id news with
 |none=>rfl
 |some sz=>have:=(hn _ (Qg hl)).1;simp only at this;omega
def hhOk(m:List (Nat×Nat))(h:List (Nat×Ent))(j:Nat)(e':Ent):Prop:=(((look j (back m)).bind λi=>look i h).bind (rlE m))=some e'
theorem Wk.rel{F:Fx}{st st':St}(m:List (Nat×Nat))(h1:(m.map qE).Nodup)(h2:(m.map zT).Nodup)(hpin:∀id,id<F.pins→look id m=some id)(hn:∀p∈m,p.2<st'.n)(hok:∀p∈st'.h,p.1<st'.n)(hs:∀p∈st'.s,p.2=rl m (st.get p.1)∨p.2= .bot)(hh:∀p∈st'.h,hhOk m st.h p.1 p.2):Wk F st st':=by
 refine Wk.relabel m h1 h2 hpin hn hok hs λp hp=>?_;have:=hh p hp;unfold hhOk at this;obtain⟨e,he,hr⟩:=Option.bind_eq_some_iff.1 this;obtain⟨i,hi,hl⟩:=Option.bind_eq_some_iff.1 he;exact⟨i,e,Q2M h1 hi,hl,hr⟩
theorem join{P:Program}{F:Fx}{y:Code}{AQ:Exit→St→Prop}{K:St→Prop}{G:Prop}(hK:∀st',Wp P F y AQ st'→K st')(S:Bool→St)(C:Prop)(h1:(∀b:Bool,(b=true↔C)→∀st',Wk F st' (S b)→K st')→G)(h2:∀b:Bool,(b=true↔C)→Wp P F y AQ (S b)):G:=h1 λb hb st' hw=>hK st' (Q2 hw (h2 b hb))
end
section
attribute [local simp] Qi QP Qv
theorem PurTo.field{h:HP}{id k sz:Nat}{row cs:List AV}(he:h id=some (.mix sz [row]))(hl:k+cs.length≤sz)(hp:PurL h ((row.drop k).take cs.length) cs):PurTo h (.adr id 0 k) (.rptr cs):=
 .adr he (by simp) hl λj hj=>by
  have:=hp.2 j (by rw[hp.1];exact hj);simpa[qB,List.getElem?_take,List.getElem?_drop,hj]using this
inductive PurLL(h:HP)(sz:Nat):List (List AV)→List (List AV)→Prop
 |nil:PurLL h sz [] []
 |cons {r s rs ss}:s.length=sz→PurL h r s→PurLL h sz rs ss→PurLL h sz (r::rs) (s::ss)
theorem PurLL.get{h:HP}{sz:Nat}{rs ss:List (List AV)}(hp:PurLL h sz rs ss):rs.length=ss.length∧∀i,i<ss.length→(ss.getD i []).length=sz∧PurL h (rs.getD i []) (ss.getD i []):=by
 induction hp with
 |nil=>exact⟨rfl,λi hi=>by simp at hi⟩
 |cons h1 h2 _ ih=>
  refine⟨by simp[ih.1],λi hi=>?_⟩;cases i with
  |zero=>exact⟨h1,h2⟩
  |succ i=>simpa using ih.2 i (by simpa using hi)
theorem PurTo.lits{h:HP}{id n sz:Nat}{u:Bool}{es fs:List (List AV)}(he:h id=some (.mix sz es))(hp:PurLL h sz es fs)(hn:n=fs.length):PurTo h (.own id 0 n) (.lst u sz fs):=by
 subst hn;refine .mix he (by rw[hp.get.1];omega) rfl (λi hi=>(hp.get.2 i hi).1) λi k hi hk=>?_;have:=hp.get.2 i hi;rw[Nat.zero_add];exact this.2.2 k (by rw[this.2.1,this.1];exact hk)
end
section
attribute [local simp] Qi QP Qv
def ass{α:Type}(p:Prop)(k:Option α):Option α:=@ite _ p (Classical.propDecidable p) k none
theorem Q1{α:Type}{p:Prop}{k:Option α}{r:α}(h:ass p k=some r):p∧k=some r:=by
 unfold ass at h;split at h
 ·exact⟨‹_›,h⟩
 cases h
theorem Q4{α:Type}{p:Prop}{k:Option α}(h:p):ass p k=k:=by unfold ass;rw[if_pos h]
inductive Ctl(σ ε:Type) where
 |next (s:σ)
 |ret (e:ε)
def Qo{σ ε:Type}(body:σ→Option (Ctl σ ε)):Nat→σ→Option ε
 |0,_=>none
 |n+1,s=>match body s with
  |some (.next s')=>Qo body n s'
  |some (.ret e)=>some e
  |none=>none
theorem bind_some{α β:Type}{x:Option α}{f:α→Option β}{r:β}(h:x.bind f=some r):∃v,x=some v∧f v=some r:=Option.bind_eq_some_iff.1 h
theorem if_l{α:Type}{p:Prop}[Decidable p]{a b:Option α}{r:α}(g:p)(h:(if p then a else b)=some r):a=some r:=by rw[if_pos g]at h;exact h
theorem if_r{α:Type}{p:Prop}[Decidable p]{a b:Option α}{r:α}(g:¬p)(h:(if p then a else b)=some r):b=some r:=by rw[if_neg g]at h;exact h
def contF{σ ε:Type}(body:σ→Option (Ctl σ ε))(k:Nat)(e:ε):Ctl σ ε→Prop
 | .next s'=>Qo body k s'=some e
 | .ret e'=>e'=e
def Q9l{σ:Type}(F:Fx)(S:σ→St)(G:σ→Prop)(AQ:Exit→St→Prop):Exit→St→Prop
 | .normal,st=>∃s',G s'∧Wk F st (S s')
 |e,st=>AQ e st
section
variable {P:Program}{mt:MT}{F:Fx}{AQ:Exit→St→Prop}{st:St}
theorem Wp.mono{c:Code}{AQ':Exit→St→Prop}(h:∀e st,AQ e st→AQ' e st)(hw:Wp P F c AQ st):Wp P F c AQ' st:=by
 intro a w hr;refine wp_mono (hw a w hr) λe a w he=>?_;obtain⟨st',h1,h2⟩:=he;exact⟨st',h1,h _ _ h2⟩
theorem Q2Y{st1 st3:St}(st2:St)(h1:Wk F st1 st2)(h2:Wk F st2 st3):Wk F st1 st3:=λa w h=>h2 a w (h1 a w h)
theorem Qj{σ ε:Type}{c:Code}{body:σ→Option (Ctl σ ε)}{N:Nat}{s0:σ}{e:ε}(h:Qo body N s0=some e)(S:σ→St)(hk:Wk F st (S s0))(round:∀(k:Nat) (s:σ) (c':Ctl σ ε),body s=some c'→contF body k e c'→Wp P F c (Q9l F S (λs'=>Qo body k s'=some e) AQ) (S s)):Wp P F (.loop c) AQ st:=by
 refine Q2s (λp:Nat×σ=>S p.2) (λp=>Qo body p.1 p.2=some e) (λp=>p.1) (N,s0) h hk ?_
 rintro ⟨k,s⟩ hl
 cases k with
 |zero=>cases hl
 |succ k=>
  simp only[Qo]at hl;cases hb:body s with
  |none=>rw[hb]at hl;cases hl
  |some c'=>
   have hc:contF body k e c':=by
    rw[hb]at hl;cases c' with
    |next s'=>exact hl
    |ret e'=>simpa[contF]using hl
   refine Wp.mono ?_ (round k s c' hb hc);intro ex st' hq;cases ex with
   |normal=>
    obtain⟨s',h1,h2⟩:=hq;exact⟨(k,s'),h1,Nat.lt_succ_self k,h2⟩
   |_=>exact hq
theorem Q9{β:Type}{x y:Code}(J:β→St)(C:β→Prop)(h2:Wp P F x (Q81 (λst=>∃b,C b∧Wk F st (J b)) AQ) st)(h1:∀b,C b→Wp P F y AQ (J b)):Wp P F x (Q81 (Wp P F y AQ) AQ) st:=by
 refine Wp.mono ?_ h2;intro ex st' hq;cases ex with
 |normal=>
  obtain⟨b,hc,hw⟩:=hq;exact Q2 hw (h1 b hc)
 |_=>exact hq
theorem Qa{all:Array Oper}{os:List Oper}{dst:Option Nat}{K:St→Prop}{op:Op}{t:Nat}{want:Bool}{b:Bool}(h1:b=want→runO P mt all os dst (st.put t (.val (.bool want))) K op)(h2:b=(!want)→Q1s P mt all os ((st.put t (.val (.bool !want))).app dst {v:=.tup []}) K):
  Q5d P mt all os dst st K op t want (.val (.bool b)):=by
 rw[Qi];exact⟨h1,h2⟩
end
section
variable {P:Program}{F:Fx}{AQ:Exit→St→Prop}{st:St}{i id:Nat}
theorem tn{K:St→Prop}(h:K st):Q81 K AQ .normal st:=h
theorem tx{K:St→Prop}(h:AQ (.exit i) st):Q81 K AQ (.exit i) st:=h
theorem tr{K:St→Prop}(h:AQ .ret st):Q81 K AQ .ret st:=h
theorem bn(h:AQ .normal st):Q5L id AQ .normal st:=h
theorem bh(h:AQ .normal st):Q5L id AQ (.exit id) st:=by simp only[Q5L,if_pos];exact h
theorem br(h:AQ .ret st):Q5L id AQ .ret st:=h
theorem lx{σ:Type}{S:σ→St}{G:σ→Prop}(h:AQ (.exit i) st):Q9l F S G AQ (.exit i) st:=h
theorem lr{σ:Type}{S:σ→St}{G:σ→Prop}(h:AQ .ret st):Q9l F S G AQ .ret st:=h
theorem rn{σ:Type}{S:σ→St}{G:σ→Prop}{s':σ}(h1:G s')(h2:Wk F st (S s')):Q9l F S G AQ .normal st:=⟨s',h1,h2⟩
theorem jn{β:Type}{J:β→St}{C:β→Prop}{b:β}(h1:C b)(h2:Wk F st (J b)):Q81 (λst=>∃b,C b∧Wk F st (J b)) AQ .normal st:=⟨b,h1,h2⟩
end
theorem Wk.r1{F:Fx}{st st':St}(m:List (Nat×Nat))(h:(m.map qE).Nodup∧(m.map zT).Nodup∧(∀id,id<F.pins→look id m=some id)∧(∀p∈m,p.2<st'.n)∧(∀p∈st'.h,p.1<st'.n)∧(∀p∈st'.s,p.2=rl m (st.get p.1)∨p.2= .bot)∧∀p∈st'.h,hhOk m st.h p.1 p.2):Wk F st st':=Wk.rel m h.1 h.2.1 h.2.2.1 h.2.2.2.1 h.2.2.2.2.1 h.2.2.2.2.2.1 h.2.2.2.2.2.2
def fuel:Nat:=4611686018427387904
theorem PurTo.preT{h:HP}{xs cs:List AV}(e:xs.take cs.length=cs):PurTo h (.rptr xs) (.rptr cs):=by
 have:xs=cs++xs.drop cs.length:=by
  have h:=List.take_append_drop cs.length xs;rw[e]at h;exact h.symm
 rw[this];exact .pre
end
section
attribute [local simp] Qi QP Qv
def Q2t(ops:Array Oper)(x y:Oper):Bool:=
 (match x.dst with
  |some d=>(Q4v ops y).contains d||y.dst==some d
  |none=>false)||
 (match y.dst with
  |some d=>(Q4v ops x).contains d
  |none=>false)
def Q5b(x y:Oper):Bool:=(wrM false x.op&&Q14 y.op)||(Q14 x.op&&wrM false y.op)
theorem Q8V{ops:Array Oper}{x y:Oper}:Q3m false ops x y=(Q2t ops x y||Q5b x y):=by
 have he:easy (false:Bool) x.op y.op=false:=rfl;unfold Q3m Q2t Q5b;rw[he,tch0,tch0,Bool.not_false,Bool.and_true];exact Bool.or_assoc _ _ _
theorem Q4a{ops:Array Oper}{x y:Oper}(h:Q2t ops x y=false):(∀d,x.dst=some d→d∉Q4v ops y∧y.dst≠some d)∧∀d,y.dst=some d→d∉Q4v ops x:=by
 unfold Q2t at h;simp only[Bool.or_eq_false_iff]at h;obtain⟨h1,h2⟩:=h;refine⟨λd hd=>?_,λd hd=>?_⟩
 ·rw[hd]at h1;simp only[Bool.or_eq_false_iff]at h1;refine⟨by simpa using h1.1,?_⟩;intro hy;rw[hy]at h1;simp at h1
 rw[hd]at h2;simpa using h2
def Q3j(ops:Array Oper)(j s:Nat):Bool:=(yB ops.size).all λm=>m==j||(ops[m]?).bind (·.dst)!=some s
def Q7S(ops:Array Oper)(s:Nat):Bool:=(yB ops.size).all λm=>(ops[m]?).bind (·.dst)!=some s
theorem Q3c{ops:Array Oper}{j s m:Nat}(h:Q3j ops j s=true)(hm:m<ops.size)(hj:m≠j):(ops[m]?).bind (·.dst)≠some s:=by
 unfold Q3j at h;have:=List.all_eq_true.1 h m (List.mem_range.2 hm);simpa[hj]using this
theorem Q4g{ops:Array Oper}{s m:Nat}(h:Q7S ops s=true)(hm:m<ops.size):(ops[m]?).bind (·.dst)≠some s:=by
 unfold Q7S at h;have:=List.all_eq_true.1 h m (List.mem_range.2 hm);simpa using this
def Q6N(ops:Array Oper)(j s:Nat):Bool:=match ops[j]? with
 |some ⟨d,.alloc _,_,_,_,none⟩=>d==some s&&Q3j ops j s
 |_=>false
def Q5l(ds:List Nat)(ops:Array Oper)(k:Nat):Bool:=match ops[k]? with
 |some ⟨_,.store _ (.tmp s) _,_,_,_,none⟩=>((yB k).any λj=>Q6N ops j s)||(ds.contains s&&Q7S ops s)
 |_=>false
def stepAt(ops:Array Oper)(l t:Nat):Option Nat:=match ops[l]? with
 |some ⟨d,.fieldAddr _ (.tmp r) _,_,_,_,none⟩=>if d==some t&&Q3j ops l t then some r else none
 |some ⟨d,.move (.tmp r),_,_,_,none⟩=>if d==some t&&Q3j ops l t then some r else none
 |some ⟨d,.nilCheck (.tmp r),_,_,_,none⟩=>if d==some t&&Q3j ops l t then some r else none
 |some ⟨d,.indexAddr _ (.tmp r) _,_,_,_,none⟩=>if d==some t&&Q3j ops l t then some r else none
 |_=>none
def Q4Y(ds:List Nat)(ops:Array Oper):Nat→Nat→Nat→Bool
 |0,_,_=>false
 |k+1,i,t=>(Q7S ops t&&!ds.contains t)||(yB i).any λl=>match stepAt ops l t with|some r=>Q4Y ds ops k l r|none=>false
def Q5i(ds:List Nat)(ops:Array Oper)(i:Nat):Bool:=match ops[i]? with
 |some ⟨_,.load _ (.tmp t),_,_,_,_⟩=>Q4Y ds ops 8 i t
 |some ⟨_,.indexAddr _ (.tmp t) _,_,_,_,_⟩=>Q4Y ds ops 8 i t
 |_=>false
def Q3g(ds:List Nat)(ops:Array Oper):Bool:=(yB ops.size).all λk=>!((ops[k]?).map (wrM false ·.op)).getD false||Q5l ds ops k
def lateW(ops:Array Oper)(i k:Nat):Bool:=match ops[k]? with
 |some ⟨_,.store _ (.tmp s) _,_,_,_,none⟩=>(yB k).any λa=>decide (i<a)&&Q6N ops a s
 |_=>false
def Q7J(ops:Array Oper)(i:Nat):Bool:=!((ops[i]?).map (wrM false ·.op)).getD true&&(yB ops.size).all λk=>decide (k≤i)||!((ops[k]?).map (wrM false ·.op)).getD false||lateW ops i k
def Q6t(rs:List Nat)(ops:Array Oper)(l t:Nat):Bool:=match ops[l]? with
 |some ⟨d,.fieldAddr _ (.tmp r) _,_,_,_,none⟩=>d==some t&&(Q3j ops l t&&(Q7S ops r&&rs.contains r))
 |_=>false
def Q4J(rs:List Nat)(ops:Array Oper)(i:Nat):Bool:=match ops[i]? with
 |some ⟨_,.load _ (.tmp t),_,_,_,_⟩=>(rs.contains t&&Q7S ops t)||(yB i).any λl=>Q6t rs ops l t
 |_=>false
def meAt(ops:Array Oper)(i j:Nat):Bool:=(match ops[i]? with
 |some ⟨_,.load ..,_,_,_,_⟩=>true
 |some ⟨_,.makeMap _ none,_,_,_,_⟩=>true
 |_=>false)&&(yB (j+1)).all λk=>decide (k<i)||!((ops[k]?).map (wrM false ·.op)).getD false||((ops[k]?).map (isMe ·.op)).getD false
def Q9f(rd0 ds rs:List Nat)(J:Nat)(ops:Array Oper):Bool:=
 let ms:=Q3i ops.toList []
 (yB ops.size).all λj=>(yB j).all λi=>
  match ops[i]?,ops[j]? with
  |some x,some y=>(!Q2t ops x y&&(!Q5b x y||(roAt rd0 ops i||((Q4J rs ops i&&decide (j≤J))||meAt ops i j||(Q3g ds ops&&((Q5i ds ops i&&Q5l ds ops j)||Q7J ops i))))))||(ms.getD j 0).testBit i
  |_,_=>true
structure SD(ds:List Nat)(st:St):Prop where
 mix:∀s∈ds,∃id,st.get s= .adr id 0 0∧Qm (st.hp id)=true
 sep:∀t id i k,t∉ds→st.get t= .adr id i k→∀s∈ds,st.get s≠.adr id 0 0
 sepO:∀t id i k,t∉ds→st.get t= .own id i k→∀s∈ds,st.get s≠.adr id 0 0
theorem sd_nil(st:St):SD [] st:=⟨λ_ h=>by simp at h,λ_ _ _ _ _ _ _ h=>by simp at h,λ_ _ _ _ _ _ _ h=>by simp at h⟩
theorem Q5Y{rd0 ds rs:List Nat}{J:Nat}{ops:Array Oper}(h:Q9f rd0 ds rs J ops=true){i j:Nat}{x y:Oper}(hij:i<j)(hx:ops[i]? =some x)(hy:ops[j]? =some y):
  ((Q3i ops.toList []).getD j 0).testBit i=true∨(Q2t ops x y=false∧(Q5b x y=true→roAt rd0 ops i=true∨(Q4J rs ops i=true∧j≤J)∨meAt ops i j=true∨(Q3g ds ops=true∧(Q5i ds ops i=true∨Q7J ops i=true)))):=by
 unfold Q9f at h;have h2:=h;simp only[qW,List.mem_range]at h2;have hj:j<ops.size:=by
  rcases zR j ops.size with h'|h'
  ·exact h'
  simp[Array.getElem?_eq_none h']at hy
 have:=h2 j hj i hij;rw[hx,hy]at this;simp only[zS,qG,Bool.not_eq_true']at this;rcases this with⟨h3,h4⟩|h3
 ·refine .inr ⟨h3,λhm=>?_⟩;rcases h4 with h4|h4|(h4|h4)|h4
  ·rw[hm]at h4;cases h4
  ·exact .inl h4
  ·exact .inr (.inl ⟨h4.1,of_decide_eq_true h4.2⟩)
  ·exact .inr (.inr (.inl h4))
  exact .inr (.inr (.inr ⟨h4.1,h4.2.imp_left λq=>q.1⟩))
 exact .inl h3
theorem Q62{ds:List Nat}{ops:Array Oper}{i:Nat}{o:Oper}(hi:ops[i]? =some o)(h:Q5i ds ops i=true):∃ty t,(o.op= .load ty (.tmp t)∨∃x,o.op= .indexAddr ty (.tmp t) x)∧Q4Y ds ops 8 i t=true:=by
 unfold Q5i at h;split at h
 ·rename_i d ty t t2 p af g ho;rw[hi]at ho;cases ho;exact⟨ty,t,.inl rfl,h⟩
 ·rename_i d ty t x t2 p af g ho;rw[hi]at ho;cases ho;exact⟨ty,t,.inr ⟨x,rfl⟩,h⟩
 cases h
theorem stepAt_eq{ops:Array Oper}{l t r:Nat}(h:stepAt ops l t=some r):∃o,ops[l]? =some o∧o.guard=none∧o.dst=some t∧Q3j ops l t=true∧((∃ty k,o.op= .fieldAddr ty (.tmp r) k)∨o.op= .move (.tmp r)∨o.op= .nilCheck (.tmp r)∨∃ty k,o.op= .indexAddr ty (.tmp r) k):=by
 unfold stepAt at h;split at h
 ·rename_i ho;split at h
  ·rename_i hq;simp only[qG,beq_iff_eq]at hq;cases h;exact⟨_,ho,rfl,hq.1,hq.2,.inl ⟨_,_,rfl⟩⟩
  cases h
 ·rename_i ho;split at h
  ·rename_i hq;simp only[qG,beq_iff_eq]at hq;cases h;exact⟨_,ho,rfl,hq.1,hq.2,.inr (.inl rfl)⟩
  cases h
 ·rename_i ho;split at h
  ·rename_i hq;simp only[qG,beq_iff_eq]at hq;cases h;exact⟨_,ho,rfl,hq.1,hq.2,.inr (.inr (.inl rfl))⟩
  cases h
 ·rename_i ho;split at h
  ·rename_i hq;simp only[qG,beq_iff_eq]at hq;cases h;exact⟨_,ho,rfl,hq.1,hq.2,.inr (.inr (.inr ⟨_,_,rfl⟩))⟩
  cases h
 cases h
theorem rootAt_wr{ds:List Nat}{ops:Array Oper}{i:Nat}{o:Oper}(hi:ops[i]? =some o)(h:Q5i ds ops i=true):wrM false o.op=false:=by
 obtain⟨ty,t,ho|⟨x,ho⟩,_⟩:=Q62 hi h<;>(rw[ho];rfl)
section
variable {P:Program}{ds:List Nat}{ops:Array Oper}{S:Nat→St}{E:Nat→Option Eff}{C:Ctx}{R:Nat→Prop}{N:Nat}{w0:World}
theorem Q3G(T:Tr P false ops S E){s a:Nat}:∀b,a≤b→b≤ops.size→(∀m,a≤m→m<b→(ops[m]?).bind (·.dst)≠some s)→(S b).get s=(S a).get s:=by
 intro b
 induction b with
 |zero=>
  intro h _ _;have:a=0:=by omega
  subst this;rfl
 |succ b ih=>
  intro h hb hk;rcases zR a (b+1)with h'|h'
  ·obtain⟨_,hS,_⟩:=T.step (zP (show b<ops.size by omega));rw[hS,Q2P,if_neg]
   ·exact ih (by omega) (by omega) λm h1 h2=>hk m h1 (by omega)
   have:=hk b (by omega) (by omega);rw[zP (show b<ops.size by omega)]at this;exact this
  have:a=b+1:=by omega
  subst this;rfl
theorem Q4P(T:Tr P false ops S E){k:Nat}{o:Oper}(ho:ops[k]? =some o)(hg:o.guard=none):∃e,E k=some e∧AOp P false o.op (S k).ev (S k).hp (S k).n e∧S (k+1)=(S k).app o.dst e:=by
 have:=T.run k o ho;cases hE:E k with
 |none=>
  rw[hE]at this;have h1:=this.1;simp only[Q2f,hg]at h1;cases h1
 |some e=>
  rw[hE]at this;exact⟨e,rfl,this.2.1,this.2.2⟩
theorem Q8R(T:Tr P false ops S E){j s:Nat}(h:Q6N ops j s=true):j<ops.size∧Q3j ops j s=true∧(S (j+1)).get s= .adr (S j).n 0 0∧Qm ((S (j+1)).hp (S j).n)=true:=by
 unfold Q6N at h;split at h
 ·rename_i d e0 ty pos af ho;simp only[qG,beq_iff_eq]at h;have hjs:=(Array.getElem?_eq_some_iff.1 ho).1;obtain⟨e,hE,hop,hS⟩:=Q4P T ho rfl;have he:∃z:Nat×List (List AV),e={v:=.adr (S j).n 0 0,new:=[((S j).n,.mix z.1 z.2)],cnt:=1}:=by
   cases hop with
   |sem h0=>cases h0
   |mpx h0=>first|(cases h0;done)|(simp[Q4I]at h0;done)
   |blt h1 h2=>
    simp only[opF,alloc]at h1;split at h1
    ·rename_i t _;simp only[qA,qC]at h1;exact⟨(t.sz,[t.zero.map .val]),h1.2.symm⟩
    cases h1
   |call h1=>cases h1
   |mcall h1=>cases h1
   |icall h1=>cases h1
   |boxr h1=>cases h1
   |appM h1=>cases h1
   |fcall h1=>cases h1
   |fcallb h1=>cases h1
   |callb h1=>cases h1
   |mapo h1=>simp[mapF]at h1
   |mkz h1=>cases h1
   |cvs h1=>cases h1
   |sl3 h1=>cases h1
   |mkf h1=>cases h1
   |mkb h1=>cases h1
   |mki h1=>cases h1
   |mkis h1=>cases h1
   |tas h1=>cases h1
   |sto h1=>cases h1
   |stg h1=>cases h1
  obtain⟨z,rfl⟩:=he;refine⟨hjs,h.2,?_,?_⟩
  ·rw[hS,Q2P,if_pos h.1]
  have hf:=(hop.fine (T.all j (by omega))).1;show Qm (look (S j).n (S (j+1)).h)=true;rw[hS,Q2k _ _ hf];have hn:(S j).hp (S j).n=none:=by
   show look (S j).n (S j).h=none;cases hh:look (S j).n (S j).h with
   |none=>rfl
   |some x=>have:=T.all j (by omega) _ _ hh;omega
  have:happ ({v:=.adr (S j).n 0 0,new:=[((S j).n,.mix z.1 z.2)],cnt:=1}:Eff) (S j).hp (S j).n=none:=by
   simp[happ,look,hn]
  rw[this];simp[look,Qm]
 cases h
def Q3U(S:Nat→St)(ds:List Nat)(id:Nat):Prop:=(S 0).n≤id∨∃s∈ds,(S 0).get s= .adr id 0 0
theorem Q7c(T:Tr P false ops S E)(hD:SD ds (S 0))(hall:Q3g ds ops=true):∀k,k<ops.size→Q5l ds ops k=true→∃id sz es,(eff E k).set=[(id,.mix sz es)]∧(eff E k).del=[]∧Q3U S ds id∧Qm ((S k).hp id)=true:=by
 intro k
 induction k using yF with
 |_ k ih=>
  intro hks hk;unfold Q5l at hk;split at hk
  ·rename_i d ty s x ty2 pos af ho;obtain⟨b,id,hbk,hdst,b3,b4,b5⟩:∃b id,b≤k∧(∀m,b≤m→m<ops.size→(ops[m]?).bind (·.dst)≠some s)∧(S b).get s= .adr id 0 0∧Qm ((S b).hp id)=true∧Q3U S ds id:=by
    simp only[zS,qG]at hk;rcases hk with hk|⟨hk,hk'⟩
    ·obtain⟨j,hj,hal⟩:=List.any_eq_true.1 hk;have hj:=List.mem_range.1 hj;obtain⟨a1,a2,a3,a4⟩:=Q8R T hal;exact⟨j+1,(S j).n,by omega,λm h1 h2=>Q3c a2 h2 (by omega),a3,a4,.inl (T.nle (yD j) (by omega))⟩
    have hs:s∈ds:=(by simpa using hk);obtain⟨id,q1,q2⟩:=hD.mix s hs;exact⟨0,id,yD _,λm _ h=>Q4g hk' h,q1,q2,.inr ⟨s,hs,q1⟩⟩
   have key:∀m,b≤m→m≤k→(S m).get s= .adr id 0 0∧Qm ((S m).hp id)=true:=by
    intro m
    induction m with
    |zero=>
     intro h _;have:b=0:=(by omega);subst this;exact⟨b3,b4⟩
    |succ m ihm=>
     intro h1 h2;rcases zR b (m+1)with h|h
     ·obtain⟨i1,i2⟩:=ihm (by omega) (by omega);have hg:=zP (show m<ops.size by omega);obtain⟨hf,hS,hnw,_⟩:=T.step hg;refine⟨?_,?_⟩
      ·rw[hS,Q2P,if_neg]
       ·exact i1
       have:=hdst m (by omega) (by omega);rw[hg]at this;exact this
      show Qm (look id (S (m+1)).h)=true;rw[hS,Q2k _ _ hf];have hh:Qm (happ (eff E m) (S m).hp id)=true:=by
       cases hw:wrM false (ops[m]).op with
       |false=>
        obtain⟨n1,n2⟩:=hnw hw;rw[QH n1 n2];exact i2
       |true=>
        have hsf:Q5l ds ops m=true:=by
         have:=List.all_eq_true.1 hall m (List.mem_range.2 (by omega));rw[hg]at this;simpa[hw]using this
        obtain⟨id',sz,es,e1,e2,_⟩:=ih m (by omega) (by omega) hsf;simp only[happ,e1,e2,look]
        by_cases hid:id'=id
        ·rw[if_pos hid];rfl
        rw[if_neg hid];simpa using i2
      cases hq:happ (eff E m) (S m).hp id with
      |none=>rw[hq]at hh;cases hh
      |some y=>rw[hq]at hh;exact hh
     have:b=m+1:=(by omega);subst this;exact⟨b3,b4⟩
   obtain⟨k1,k2⟩:=key k (by omega) (qF _);obtain⟨e,hE,hop,hS⟩:=Q4P T ho rfl;have hev:(S k).ev (.tmp s)= .adr id 0 0:=k1;obtain⟨sz,es,hmx⟩:∃sz es,(S k).hp id=some (.mix sz es):=by
    cases hq:(S k).hp id with
    |none=>rw[hq]at k2;cases k2
    |some y=>cases y with
     |mix sz es=>exact⟨sz,es,rfl⟩
     |row=>rw[hq]at k2;cases k2
     |mapE=>rw[hq]at k2;cases k2
     |ali=>rw[hq]at k2;cases k2
   have heff:eff E k=e:=(by simp[eff,hE]);rw[heff];cases hop with
   |sem h0=>cases h0
   |mpx h0=>first|(cases h0;done)|(simp[Q4I]at h0;done)
   |blt h1 h2=>
    simp only[opF,hev,Q3w]at h1;cases hty:tyi P ty with
    |none=>rw[hty]at h1;cases h1
    |some t=>
     rw[hty]at h1;simp only[hmx]at h1;split at h1
     ·simp only[qA,qC]at h1;rw[←h1.2];exact⟨_,_,_,rfl,rfl,b5,by rw[hmx];rfl⟩
     cases h1
   |call h1=>cases h1
   |mcall h1=>cases h1
   |icall h1=>cases h1
   |boxr h1=>cases h1
   |appM h1=>cases h1
   |fcall h1=>cases h1
   |fcallb h1=>cases h1
   |callb h1=>cases h1
   |mapo h1=>simp[mapF]at h1
   |mkz h1=>cases h1
   |cvs h1=>cases h1
   |sl3 h1=>cases h1
   |mkf h1=>cases h1
   |mkb h1=>cases h1
   |mki h1=>cases h1
   |mkis h1=>cases h1
   |tas h1=>cases h1
   |sto h1 h2 h3 h4 h5=>
    cases h1;rw[hev]at h4;cases h4;have:=h5.ent;rw[hmx]at this;cases this
   |stg h1 h2 h3 h4 _ h5=>
    cases h1;rw[hev]at h4;cases h4;have:=h5.ent;rw[hmx]at this;cases this
  cases hk
theorem HS_same(T:Tr P false ops S E)(hD:SD ds (S 0))(hall:Q3g ds ops=true){i:Nat}:∀m,i≤m→m≤ops.size→∀id,HS S E ops.size m id=HS S E ops.size i id∨(Qm (HS S E ops.size i id)=true∧Qm (HS S E ops.size m id)=true∧Q3U S ds id):=by
 intro m
 induction m with
 |zero=>
  intro h _ id;have:i=0:=by omega
  subst this;exact .inl rfl
 |succ m ih=>
  intro h hm id;rcases zR i (m+1)with h'|h'
  ·have hi:=ih (by omega) (by omega) id;have hg:=zP (show m<ops.size by omega);rw[Q3Y T (by omega)];cases hw:wrM false (ops[m]).op with
   |false=>
    obtain⟨n1,n2⟩:=(T.step hg).2.2.1 hw;rw[QH n1 n2];exact hi
   |true=>
    have hsf:Q5l ds ops m=true:=by
     have:=List.all_eq_true.1 hall m (List.mem_range.2 (by omega));rw[hg]at this;simpa[hw]using this
    obtain⟨id',sz,es,e1,e2,e3,e4⟩:=Q7c T hD hall m (by omega) hsf;simp only[happ,e1,e2,look]
    by_cases hid:id'=id
    ·subst hid;rw[if_pos rfl];have hmm:Qm (HS S E ops.size m id')=true:=by
      simp only[HS];cases hq:look id' (S m).h with
      |none=>
       have:(S m).hp id'=none:=hq;rw[this]at e4;cases e4
      |some y=>
       have:(S m).hp id'=some y:=hq;rw[this]at e4;exact e4
     rcases hi with hi|⟨h1,h2,h3⟩
     ·exact .inr ⟨by rw[←hi];exact hmm,rfl,e3⟩
     exact .inr ⟨h1,rfl,h3⟩
    rw[if_neg hid];simpa using hi
  have:i=m+1:=by omega
  subst this;exact .inl rfl
theorem Q8W{h h':HP}(hh:∀x,h' x=h x∨(Qm (h x)=true∧Qm (h' x)=true)):∀d id,h' id=h id→cont h' d id=cont h d id:=by
 intro d
 induction d with
 |zero=>intro id _;rfl
 |succ d ih=>
  intro id he;simp only[cont,he];cases hq:h id with
  |none=>rfl
  |some y=>
   cases y with
   |mix=>rfl
   |row=>rfl
   |mapE=>rfl
   |ali c i k sz=>
    simp only;rcases hh c with h1|⟨h1,h2⟩
    ·rw[h1,ih c h1]
    rw[h1,h2];rfl
theorem takeC_ali(id i:Nat):∀(cs:List AV) (k n:Nat),∀p∈(Q1d id i k n cs).2,Qm (some p.2)=false:=by
 intro cs
 induction cs with
 |nil=>intro k n p hp;simp[Q1d]at hp
 |cons a r ih=>
  intro k n p hp;unfold Q1d at hp;split at hp
  ·rename_i h;cases h
  ·rename_i h;cases h;simp only[List.mem_cons]at hp;rcases hp with rfl|hp
   ·rfl
   exact ih _ _ p hp
  rename_i h;cases h;exact ih _ _ p hp
theorem loadv_new{ty:Option Tyi}{a:AV}{h:HP}{n:Nat}{c:Prop}{e:Eff}(hc:Q1X ty a h n=some (c,e)):∀p∈e.new,Qm (some p.2)=false:=by
 unfold Q1X at hc;split at hc
 ·split at hc
  ·simp only[qA,qC]at hc;rw[←hc.2];simp
  ·split at hc
   ·simp only[qA,qC]at hc;rw[←hc.2];exact takeC_ali _ _ _ _ _
   cases hc
  cases hc
 ·simp only[qA,qC]at hc;rw[←hc.2];simp
 cases hc
inductive Pts:AV→Nat→Prop
 |adr {id i k}:Pts (.adr id i k) id
 |own {id i k}:Pts (.own id i k) id
theorem Q7q(T:Tr P false ops S E)(hS0:∀t id,t∉ds→Pts ((S 0).get t) id→¬Q3U S ds id):∀(n i t:Nat),i≤ops.size→Q4Y ds ops n i t=true→∀id,Pts ((S i).get t) id→¬Q3U S ds id:=by
 intro n
 induction n with
 |zero=>intro i t _ h;cases h
 |succ n ih=>
  intro i t his h id hg;unfold Q4Y at h;simp only[zS,qG,List.any_eq_true,List.mem_range]at h;rcases h with⟨h,h'⟩|⟨l,hl,h⟩
  ·rw[Q3G T i (yD _) (by omega) λq _ hq=>Q4g h (by omega)]at hg;exact hS0 _ _ (by simpa using h') hg
  split at h
  ·rename_i r hr;obtain⟨o,hol,hgd,h1,h2,hop'⟩:=stepAt_eq hr;obtain⟨e',hE,hop,hS⟩:=Q4P T hol hgd;rw[Q3G T (a:=l+1) i (by omega) (by omega) λq hq1 hq2=>Q3c h2 (by omega) (by omega),hS,Q2P,if_pos h1]at hg;have key:Pts ((S l).get r) id→¬Q3U S ds id:=λhx=>ih l r (by omega) h id hx;obtain⟨d,op,ty,pos,af,gd⟩:=o;simp only at hop' hop;have fin:∀c,opF P op (S l).ev (S l).hp (S l).n=some (c,e')→¬Q3U S ds id:=by
    intro c q1;rcases hop' with⟨ty1,k1,rfl⟩|rfl|rfl|⟨ty1,k1,rfl⟩
    ·have hx:(S l).ev (.tmp r)=(S l).get r:=rfl;simp only[opF,hx]at q1;unfold fieldAddr at q1;split at q1
     ·rename_i hf hx0;simp only[qA,qC]at q1;rw[←q1.2]at hg;cases hg;exact key (by rw[hx0];exact .adr)
     ·simp only[qA,qC]at q1;rw[←q1.2]at hg;cases hg
     cases q1
    ·simp only[opF,qA,qC]at q1;rw[←q1.2]at hg;exact key hg
    ·have hx:(S l).ev (.tmp r)=(S l).get r:=rfl;simp only[opF,hx]at q1;unfold nilCheck at q1;split at q1
     ·rename_i hx0;simp only[qA,qC]at q1;rw[←q1.2]at hg;cases hg;exact key (by rw[hx0];exact .adr)
     ·simp only[qA,qC]at q1;rw[←q1.2]at hg;cases hg
     ·simp only[qA,qC]at q1;rw[←q1.2]at hg;cases hg
     cases q1
    have hx:(S l).ev (.tmp r)=(S l).get r:=rfl;simp only[opF,hx]at q1;split at q1
    ·unfold QY at q1;split at q1
     ·rename_i hx0 _;split at q1
      ·split at q1
       ·simp only[qA,qC]at q1;rw[←q1.2]at hg;cases hg;exact key (by rw[hx0];exact .own)
       cases q1
      cases q1
     ·split at q1
      ·simp only[qA,qC]at q1;rw[←q1.2]at hg;cases hg
      cases q1
     cases q1
    cases q1
   rcases hop' with⟨ty1,k1,rfl⟩|rfl|rfl|⟨ty1,k1,rfl⟩<;>
   ·cases hop with
    |sem h0=>cases h0
    |mpx h0=>first|(cases h0;done)|(simp[Q4I]at h0;done)
    |blt q1 q2=>exact fin _ q1
    |call h1=>cases h1
    |mcall h1=>cases h1
    |icall h1=>cases h1
    |boxr h1=>cases h1
    |appM h1=>cases h1
    |fcall h1=>cases h1
    |fcallb h1=>cases h1
    |callb h1=>cases h1
    |mapo h1=>simp[mapF]at h1
    |mkz h1=>cases h1
    |cvs h1=>cases h1
    |sl3 h1=>cases h1
    |mkf h1=>cases h1
    |mkb h1=>cases h1
    |mki h1=>cases h1
    |mkis h1=>cases h1
    |tas h1=>cases h1
    |sto h1=>cases h1
    |stg h1=>cases h1
  cases h
theorem root_same(T:Tr P false ops S E)(hD:SD ds (S 0))(hall:Q3g ds ops=true)(hS0:∀t id,t∉ds→Pts ((S 0).get t) id→¬Q3U S ds id){i m:Nat}{oi:Oper}(hi:ops[i]? =some oi)(hr:Q5i ds ops i=true)(him:i≤m+1)(hm:m+1≤ops.size){ev:Operand→AV}{e:Eff}(up:AOp P false oi.op ev (HS S E ops.size i) (S i).n e)(nw:∀p∈e.new,HS S E ops.size i p.1=some p.2)(hev:∀t,(.tmp t:Operand)∈oi.op.operands→ev (.tmp t)=(S i).get t):
  AOp P false oi.op ev (HS S E ops.size (m+1)) (S i).n e∧∀p∈e.new,HS S E ops.size (m+1) p.1=some p.2:=by
 obtain⟨ty,t,ho,hsrc⟩:=Q62 hi hr;have his:=(Array.getElem?_eq_some_iff.1 hi).1;have hsame:=HS_same T hD hall (i:=i) (m+1) him hm;have hadr:∀id a b,(S i).get t= .adr id a b→¬Q3U S ds id:=λid a b hg=>Q7q T hS0 8 i t (by omega) hsrc id (by rw[hg];exact .adr);have hidx:∀ty' x c,QY ty' ((S i).get t) x (HS S E ops.size i)=some (c,e)→QY ty' ((S i).get t) x (HS S E ops.size (m+1))=some (c,e)∧e.new=[]:=by
  intro ty' x c hc;generalize hg:(S i).get t=v0 at hc⊢;unfold QY at hc⊢;split at hc
  ·rename_i tt id off n k j;have hlt:¬Q3U S ds id:=Q7q T hS0 8 i t (by omega) hsrc id (by rw[hg];exact .own);have hid:HS S E ops.size (m+1) id=HS S E ops.size i id:=(hsame id).resolve_right λh=>hlt h.2.2;have hcont:=Q8W (h:=HS S E ops.size i) (h':=HS S E ops.size (m+1)) (λx=>(hsame x).imp_right λh=>⟨h.1,h.2.1⟩) depth id hid;simp only[hcont];refine⟨hc,?_⟩;split at hc
   ·split at hc
    ·simp only[qA,qC]at hc;rw[←hc.2]
    cases hc
   cases hc
  ·refine⟨hc,?_⟩;split at hc
   ·simp only[qA,qC]at hc;rw[←hc.2]
   cases hc
  cases hc
 have hload:∀c,Q1X (tyi P ty) ((S i).get t) (HS S E ops.size i) (S i).n=some (c,e)→Q1X (tyi P ty) ((S i).get t) (HS S E ops.size (m+1)) (S i).n=some (c,e)∧∀p∈e.new,Qm (some p.2)=false:=by
  intro c hc;refine⟨?_,loadv_new hc⟩;cases hg:(S i).get t with
  |adr id a b=>
   have hlt:=hadr id a b hg;have hid:HS S E ops.size (m+1) id=HS S E ops.size i id:=(hsame id).resolve_right λh=>hlt h.2.2;have hcont:=Q8W (h:=HS S E ops.size i) (h':=HS S E ops.size (m+1)) (λx=>(hsame x).imp_right λh=>⟨h.1,h.2.1⟩) depth id hid;rw[hg]at hc;cases hty:tyi P ty with
   |none=>rw[hty]at hc;cases hc
   |some tt=>
    rw[hty,Q8q]at hc;rw[Q8q,hid];cases hq:HS S E ops.size i id with
    |none=>rw[hq]at hc;cases hc
    |some y=>
     rw[hq]at hc;cases y with
     |mix=>exact hc
     |row=>exact hc
     |mapE=>cases hc
     |ali=>simp only[Q9B]at hc⊢;rw[hcont];exact hc
  |rptr cs=>
   rw[hg]at hc;cases hty:tyi P ty with
   |none=>rw[hty]at hc;cases hc
   |some tt=>rw[hty]at hc;exact hc
  |_=>rw[hg]at hc;cases hty:tyi P ty<;>(rw[hty]at hc;cases hc)
 rcases ho with ho|⟨x,ho⟩
 ·rw[ho]at up hev⊢;have hevt:=hev t (by simp[Op.operands]);cases up with
  |sem h0=>cases h0
  |mpx h0=>first|(cases h0;done)|(simp[Q4I]at h0;done)
  |blt h1 h2=>
   simp only[opF]at h1;rw[hevt]at h1;obtain⟨q1,q2⟩:=hload _ h1;refine⟨.blt (by simp only[opF];rw[hevt];exact q1) h2,λp hp=>?_⟩;rcases hsame p.1 with h|⟨h,_⟩
   ·rw[h];exact nw p hp
   rw[nw p hp,q2 p hp]at h;cases h
  |call h1=>cases h1
  |mcall h1=>cases h1
  |icall h1=>cases h1
  |boxr h1=>cases h1
  |appM h1=>cases h1
  |fcall h1=>cases h1
  |fcallb h1=>cases h1
  |callb h1=>cases h1
  |mapo h1=>simp[mapF]at h1
  |mkz h1=>cases h1
  |cvs h1=>cases h1
  |sl3 h1=>cases h1
  |mkf h1=>cases h1
  |mkb h1=>cases h1
  |mki h1=>cases h1
  |mkis h1=>cases h1
  |tas h1=>cases h1
  |sto h1=>cases h1
  |stg h1=>cases h1
 rw[ho]at up hev⊢;have hevt:=hev t (by simp[Op.operands]);cases up with
 |sem h0=>cases h0
 |mpx h0=>first|(cases h0;done)|(simp[Q4I]at h0;done)
 |blt h1 h2=>
  simp only[opF]at h1;split at h1
  ·rename_i et het;rw[hevt]at h1;obtain⟨q1,q2⟩:=hidx _ _ _ h1;refine⟨.blt (by simp only[opF,het];rw[hevt];exact q1) h2,λp hp=>?_⟩;rw[q2]at hp;cases hp
  cases h1
 |call h1=>cases h1
 |mcall h1=>cases h1
 |icall h1=>cases h1
 |boxr h1=>cases h1
 |appM h1=>cases h1
 |fcall h1=>cases h1
 |fcallb h1=>cases h1
 |callb h1=>cases h1
 |mapo h1=>simp[mapF]at h1
 |mkz h1=>cases h1
 |cvs h1=>cases h1
 |sl3 h1=>cases h1
 |mkf h1=>cases h1
 |mkb h1=>cases h1
 |mki h1=>cases h1
 |mkis h1=>cases h1
 |tas h1=>cases h1
 |sto h1=>cases h1
 |stg h1=>cases h1
def isApp:Op→Bool
 | .call ⟨.builtin .append,_,_⟩=>true
 |_=>false
theorem app_set{op:Op}{ev:Operand→AV}{h:HP}{n:Nat}{e:Eff}(hop:AOp P false op ev h n e)(ha:isApp op=true):e.set=[]:=by
 unfold isApp at ha;split at ha
 case h_2=>cases ha
 rename_i az ts;cases hop with
 |sem h0=>cases h0
 |mpx h0=>first|(cases h0;done)|(simp[Q4I]at h0;done)
 |blt he hc=>
  simp only[opF]at he;unfold bltF at he;split at he
  ·first|(rename_i hq _ _;cases hq;done)|(rename_i hq _;cases hq;done)|(rename_i hq;cases hq;done)
  ·split at he
   ·split at he
    ·unfold Q30 at he;split at he
     ·split at he
      ·split at he
       ·simp only[qA,qC]at he;obtain⟨_,rfl⟩:=he;rfl
       cases he
      cases he
     cases he
    cases he
   cases he
  ·first|(rename_i hq _ _;cases hq;done)|(rename_i hq _;cases hq;done)|(rename_i hq;cases hq;done)
  ·first|(rename_i hq _ _;cases hq;done)|(rename_i hq _;cases hq;done)|(rename_i hq;cases hq;done)
  cases he
 |call h1 h2=>cases h1;cases h2
 |mcall h1=>cases h1
 |icall h1=>cases h1
 |boxr h1=>cases h1
 |appM h1 h2 h3=>
  unfold Vc.appM at h3;split at h3
  ·split at h3
   ·simp only[qA,qC]at h3;obtain⟨_,rfl⟩:=h3;rfl
   cases h3
  cases h3
 |fcall h1 h2=>cases h1;cases h2
 |fcallb h1 h2=>cases h1;cases h2
 |callb h1 h2=>cases h1;cases h2
 |mapo h1=>simp[mapF]at h1
 |mkz h1=>cases h1
 |cvs h1=>cases h1
 |sl3 h1=>cases h1
 |mkf h1=>cases h1
 |mkb h1=>cases h1
 |mki h1=>cases h1
 |mkis h1=>cases h1
 |tas h1=>cases h1
 |sto h1=>cases h1
 |stg h1=>cases h1
theorem wr_ex{h:HP}:∀(d id:Nat) (es:List (List AV)) (s:List (Nat×Ent)),wr h d id es=some s→∃p y,s=[p]∧h p.1=some y:=by
 intro d
 induction d with
 |zero=>intro id es s hw;simp[wr]at hw
 |succ d ih=>
  intro id es s hw;unfold wr at hw;cases he:h id with
  |none=>simp[he]at hw
  |some e=>
   cases e with
   |mix=>simp[he]at hw;exact⟨_,_,hw.symm,he⟩
   |row=>simp[he]at hw;exact⟨_,_,hw.symm,he⟩
   |mapE=>simp[he]at hw
   |ali c i k sz=>
    simp only[he]at hw;cases hc:cont h d c with
    |none=>simp[hc]at hw
    |some p=>rw[hc]at hw;exact ih _ _ _ hw
theorem Q80{ty:TypeId}{a:Nat}{x:Operand}{ev:Operand→AV}{h:HP}{n j i k:Nat}{e:Eff}(hop:AOp P false (.store ty (.tmp a) x) ev h n e)(ha:ev (.tmp a)= .adr j i k):
  ∀p∈e.set,(∃y,h p.1=some y)∧(Qm (h j)=true→p.1=j∧Qm (some p.2)=true):=by
 cases hop with
 |sem h0=>cases h0
 |mpx h0=>first|(cases h0;done)|(simp[Q4I]at h0;done)
 |blt h1 h2=>
  simp only[opF,ha,Q3w]at h1;cases hty:tyi P ty with
  |none=>rw[hty]at h1;cases h1
  |some t=>
   rw[hty]at h1;have gen:∀(c0:Prop) y,h j=some y→Qm (some y)=false→(match cont h depth j with
     |some (sz,es)=>match ev x with
      | .val v=>if t.sz=1∧Q6z v=true then
        match wr h depth j (es.set i ((es.getD i []).set k (.val v)))with
        |some s=>some (i<es.length∧k<sz,({v:=.bot,set:=s}:Eff))
        |none=>none
       else none
      |_=>none
     |none=>none)=some (c0,e)→∀p∈e.set,(∃y,h p.1=some y)∧(Qm (h j)=true→p.1=j∧Qm (some p.2)=true):=by
    intro c0 y hy hm hq;split at hq
    ·split at hq
     ·split at hq
      ·split at hq
       ·rename_i s hs;simp only[qA,qC]at hq;obtain⟨_,rfl⟩:=hq;obtain⟨q,y',rfl,hq⟩:=wr_ex _ _ _ _ hs;intro p hp;simp only[zN]at hp;subst hp;exact⟨⟨_,hq⟩,λhm'=>by rw[hy,hm]at hm';cases hm'⟩
       cases hq
      cases hq
     cases hq
    cases hq
   cases hj:h j with
   |none=>simp[hj]at h1
   |some y=>
    cases y with
    |mix sz es=>
     simp only[hj]at h1;split at h1
     ·simp only[qA,qC]at h1;obtain⟨_,rfl⟩:=h1;intro p hp;simp only[zN]at hp;subst hp;exact⟨⟨_,hj⟩,λ_=>⟨rfl,rfl⟩⟩
     cases h1
    |row=>simp only[hj]at h1;rw[←hj];exact gen _ _ hj rfl h1
    |mapE=>simp only[hj]at h1;rw[←hj];exact gen _ _ hj rfl h1
    |ali=>simp only[hj]at h1;rw[←hj];exact gen _ _ hj rfl h1
 |call h1=>cases h1
 |mcall h1=>cases h1
 |icall h1=>cases h1
 |boxr h1=>cases h1
 |appM h1=>cases h1
 |fcall h1=>cases h1
 |fcallb h1=>cases h1
 |callb h1=>cases h1
 |mapo h1=>simp[mapF]at h1
 |mkz h1=>cases h1
 |cvs h1=>cases h1
 |sl3 h1=>cases h1
 |mkf h1=>cases h1
 |mkb h1=>cases h1
 |mki h1=>cases h1
 |mkis h1=>cases h1
 |tas h1=>cases h1
 |sto h1 h2 h3 h4 h5=>
  cases h1;rw[ha]at h4;cases h4;intro p hp;simp only[zN]at hp;subst hp;have:=h5.ent;exact⟨⟨_,this⟩,λhm=>by rw[this]at hm;cases hm⟩
 |stg h1 h2 h3 h4 _ h5=>
  cases h1;rw[ha]at h4;cases h4;intro p hp;simp only[zN]at hp;subst hp;have:=h5.ent;exact⟨⟨_,this⟩,λhm=>by rw[this]at hm;cases hm⟩
def Tgt(rs:List Nat)(st st':St)(j:Nat):Prop:=Qm (st.hp j)=true∧Qm (st'.hp j)=true∧∀s∈rs,∀id,st.get s= .adr id 0 0→j≠id
structure Kp(rs:List Nat)(J:Nat)(ops:Array Oper)(st st':St):Prop where
 var:∀s∈rs,∃id,st.get s= .adr id 0 0∧Qm (st.hp id)=true∧Qm (st'.hp id)=true
 wr:∀k o,ops[k]? =some o→wrM false o.op=true→isApp o.op=true∨∃ty a x,o.op= .store ty (.tmp a) x∧(∀m,k≤m→m<ops.size→(ops[m]?).bind (·.dst)≠some a)∧∃j i' k',st'.get a= .adr j i' k'∧(k≤J→Tgt rs st st' j)
theorem kp_set(T:Tr P false ops S E){rs:List Nat}{J:Nat}(hK:Kp rs J ops (S 0) (S ops.size)){m:Nat}(hm:m<ops.size):∀p∈(eff E m).set,(∃y,(S m).hp p.1=some y)∧(m≤J→∃j,Tgt rs (S 0) (S ops.size) j∧(Qm ((S m).hp j)=true→p.1=j∧Qm (some p.2)=true)):=by
 have hg:=zP hm;obtain⟨hf,hS,hnw,_⟩:=T.step hg;intro p hp;cases hw:wrM false (ops[m]).op with
 |false=>rw[(hnw hw).1]at hp;cases hp
 |true=>
  have hrun:=T.run m _ hg;cases hE:E m with
  |none=>simp[eff,hE]at hp
  |some e=>
   rw[hE]at hrun;have hop:=hrun.2.1;have heff:eff E m=e:=(by simp[eff,hE]);rw[heff]at hp;rcases hK.wr m _ hg hw with ha|⟨ty,a,x,ho,hd,j,i',k',hj,ht⟩
   ·rw[app_set hop ha]at hp;cases hp
   rw[ho]at hop;have hga:(S m).get a= .adr j i' k':=(by rw[←hj];exact(Q3G T ops.size (by omega) (qF _) λq h1 h2=>hd q h1 h2).symm);have:=Q80 hop (show(S m).ev (.tmp a)= .adr j i' k' from hga) p hp;exact⟨this.1,λhJ=>⟨j,ht hJ,this.2⟩⟩
theorem kp_gone(T:Tr P false ops S E){rs:List Nat}{J:Nat}(hK:Kp rs J ops (S 0) (S ops.size)){x m:Nat}(hx:x<(S m).n)(h0:(S m).hp x=none):∀k,m≤k→k≤ops.size→(S k).hp x=none:=by
 intro k
 induction k with
 |zero=>
  intro h _;have:m=0:=by omega
  subst this;exact h0
 |succ k ih=>
  intro h hk;rcases zR m (k+1)with h'|h'
  ·have hn:=ih (by omega) (by omega);have hg:=zP (show k<ops.size by omega);obtain⟨hf,hS,_⟩:=T.step hg;have hle:=T.nle (show m≤k by omega) (by omega);show look x (S (k+1)).h=none;rw[hS,Q2k _ _ hf];have h1:look x (eff E k).set=none:=by
    cases hq:look x (eff E k).set with
    |none=>rfl
    |some y=>
     obtain⟨⟨z,hz⟩,_⟩:=kp_set T hK (show k<ops.size by omega) _ (Qg hq);rw[hn]at hz;cases hz
   have h2:look x (eff E k).new=none:=by
    cases hq:look x (eff E k).new with
    |none=>rfl
    |some y=>have:=(hf.new _ (Qg hq)).1;simp only at this;omega
   simp only[happ,h1,hn,h2];simp
  have:m=k+1:=by omega
  subst this;exact h0
theorem kp_all(T:Tr P false ops S E){rs:List Nat}{J:Nat}(hK:Kp rs J ops (S 0) (S ops.size)):∀m,m≤ops.size→m≤J+1→(∀s∈rs,∀id,(S 0).get s= .adr id 0 0→(S m).hp id=(S 0).hp id)∧∀j,Tgt rs (S 0) (S ops.size) j→Qm ((S m).hp j)=true:=by
 intro m
 induction m with
 |zero=>intro _ _;exact⟨λ_ _ _ _=>rfl,λj hj=>hj.1⟩
 |succ m ih=>
  intro hm hmJ;obtain⟨i1,i2⟩:=ih (by omega) (by omega);have hg:=zP (show m<ops.size by omega);obtain⟨hf,hS,_⟩:=T.step hg;have hms:∀x,Qm ((S 0).hp x)=true→x<(S 0).n:=by
   intro x hx;cases hq:(S 0).hp x with
   |none=>rw[hq]at hx;cases hx
   |some y=>exact T.all 0 (by omega) _ _ hq
  have hnew:∀x,Qm ((S 0).hp x)=true→look x (eff E m).new=none:=by
   intro x hx0;have hlt':x<(S m).n:=qN (hms x hx0) (T.nle (yD _) (by omega));cases hq:look x (eff E m).new with
   |none=>rfl
   |some y=>have:=(hf.new _ (Qg hq)).1;simp only at this;omega
  have hdel:∀x,Qm ((S 0).hp x)=true→Qm ((S ops.size).hp x)=true→look x (eff E m).set=none→x∉(eff E m).del:=by
   intro x hx0 hx hl hc;have hlt:x<(S (m+1)).n:=qN (hms x hx0) (T.nle (yD _) hm);have hn:(S (m+1)).hp x=none:=by
    show look x (S (m+1)).h=none;rw[hS,Q2k _ _ hf];simp only[happ,hl,if_pos hc,hnew x hx0]
   rw[kp_gone T hK hlt hn ops.size hm (qF _)]at hx;cases hx
  have step:∀x,Qm ((S 0).hp x)=true→look x (eff E m).set=none→x∉(eff E m).del→(S (m+1)).hp x=(S m).hp x:=by
   intro x hx0 hl hd;show look x (S (m+1)).h=_;rw[hS,Q2k _ _ hf];simp only[happ,hl,if_neg hd,hnew x hx0];cases (S m).hp x<;>rfl
  refine⟨λs hs id hid=>?_,λj hj=>?_⟩
  ·obtain⟨id',q1,q2,q3⟩:=hK.var s hs;rw[hid]at q1;cases q1;have hl:look id (eff E m).set=none:=by
    cases hq:look id (eff E m).set with
    |none=>rfl
    |some y=>
     obtain⟨_,hh0⟩:=kp_set T hK (show m<ops.size by omega) _ (Qg hq);obtain⟨j,ht,hh⟩:=hh0 (by omega);exact absurd (hh (i2 j ht)).1.symm (ht.2.2 s hs id hid)
   rw[step id q2 hl (hdel id q2 q3 hl)];exact i1 s hs id hid
  cases hq:look j (eff E m).set with
  |none=>rw[step j hj.1 hq (hdel j hj.1 hj.2.1 hq)];exact i2 j hj
  |some y=>
   obtain⟨_,hh0⟩:=kp_set T hK (show m<ops.size by omega) _ (Qg hq);obtain⟨j',ht,hh⟩:=hh0 (by omega);have:=(hh (i2 j' ht)).2;show Qm (look j (S (m+1)).h)=true;rw[hS,Q2k _ _ hf];simp only[happ,hq];exact this
theorem kept_nil(ops:Array Oper)(i:Nat):Q4J [] ops i=false:=by
 have h:∀l t,Q6t [] ops l t=false:=by
  intro l t;unfold Q6t;split<;>simp
 unfold Q4J;split
 ·simp[h]
 rfl
theorem Q5T{rs:List Nat}{i:Nat}{o:Oper}(hi:ops[i]? =some o)(h:Q4J rs ops i=true):∃ty t,o.op= .load ty (.tmp t)∧((t∈rs∧Q7S ops t=true)∨∃l,l<i∧Q6t rs ops l t=true):=by
 unfold Q4J at h;split at h
 ·rename_i d ty t t2 p af g ho;rw[hi]at ho;cases ho;simp only[zS,qG,List.any_eq_true,List.mem_range]at h;refine⟨ty,t,rfl,?_⟩;rcases h with h|⟨l,hl,h⟩
  ·exact .inl ⟨by simpa using h.1,h.2⟩
  exact .inr ⟨l,hl,h⟩
 cases h
theorem kept_adr(T:Tr P false ops S E){rs:List Nat}{J:Nat}(hK:Kp rs J ops (S 0) (S ops.size)){i:Nat}(his:i<ops.size){t:Nat}(h:(t∈rs∧Q7S ops t=true)∨∃l,l<i∧Q6t rs ops l t=true):∃s∈rs,∃id a b,(S 0).get s= .adr id 0 0∧(S i).get t= .adr id a b:=by
 rcases h with⟨ht,hd⟩|⟨l,hl,h⟩
 ·obtain⟨id,q1,_⟩:=hK.var t ht;exact⟨t,ht,id,0,0,q1,by rw[Q3G T i (yD _) (by omega) λq _ hq=>Q4g hd (by omega)];exact q1⟩
 unfold Q6t at h;split at h
 ·rename_i d ty1 r off ty2 pos af hol;simp only[qG,beq_iff_eq]at h;obtain⟨h1,h2,h3,h4⟩:=h;have h4:r∈rs:=by simpa using h4
  obtain⟨id,q1,_⟩:=hK.var r h4;obtain⟨e',hE,hop,hS⟩:=Q4P T hol rfl;have hr0:(S l).get r= .adr id 0 0:=by rw[Q3G T l (yD _) (by omega) λq _ hq=>Q4g h3 (by omega)];exact q1
  have hg:(S i).get t=e'.v:=by rw[Q3G T (a:=l+1) i (by omega) (by omega) λq hq1 hq2=>Q3c h2 (by omega) (by omega),hS,Q2P,if_pos h1]
  cases hop with
  |sem h0=>cases h0
  |mpx h0=>first|(cases h0;done)|(simp[Q4I]at h0;done)
  |blt p1 p2=>
   have hx:(S l).ev (.tmp r)= .adr id 0 0:=hr0;simp only[opF,hx]at p1;unfold fieldAddr at p1;split at p1
   ·rename_i hf hx0;cases hx0;simp only[qA,qC]at p1;rw[←p1.2]at hg;exact⟨r,h4,id,_,_,q1,hg⟩
   ·rename_i hx0;cases hx0
   cases p1
  |call h1=>cases h1
  |mcall h1=>cases h1
  |icall h1=>cases h1
  |boxr h1=>cases h1
  |appM h1=>cases h1
  |fcall h1=>cases h1
  |fcallb h1=>cases h1
  |callb h1=>cases h1
  |mapo h1=>simp[mapF]at h1
  |mkz h1=>cases h1
  |cvs h1=>cases h1
  |sl3 h1=>cases h1
  |mkf h1=>cases h1
  |mkb h1=>cases h1
  |mki h1=>cases h1
  |mkis h1=>cases h1
  |tas h1=>cases h1
  |sto h1=>cases h1
  |stg h1=>cases h1
 cases h
theorem kept_same(T:Tr P false ops S E){rs:List Nat}{J:Nat}(hK:Kp rs J ops (S 0) (S ops.size)){i m:Nat}{oi:Oper}(hi:ops[i]? =some oi)(hr:Q4J rs ops i=true)(him:i≤m+1)(hmJ:m≤J)(hm:m+1≤ops.size){ev:Operand→AV}{e:Eff}(up:AOp P false oi.op ev (HS S E ops.size i) (S i).n e)(hev:∀t,(.tmp t:Operand)∈oi.op.operands→ev (.tmp t)=(S i).get t):
  AOp P false oi.op ev (HS S E ops.size (m+1)) (S i).n e∧∀p∈e.new,HS S E ops.size (m+1) p.1=some p.2:=by
 obtain⟨ty,t,ho,hsrc⟩:=Q5T hi hr;have his:=(Array.getElem?_eq_some_iff.1 hi).1;obtain⟨s,hs,id,a,b,q1,q4⟩:=kept_adr T hK his hsrc;obtain⟨id',q1',q2,q3⟩:=hK.var s hs;rw[q1]at q1';cases q1';rw[ho]at up hev⊢;have hevt:ev (.tmp t)= .adr id a b:=by rw[hev t (by simp[Op.operands])];exact q4
 obtain⟨sz,es,hmx⟩:∃sz es,(S 0).hp id=some (.mix sz es):=by
  cases hq:(S 0).hp id with
  |none=>rw[hq]at q2;cases q2
  |some y=>cases y with
   |mix sz es=>exact⟨sz,es,rfl⟩
   |row=>rw[hq]at q2;cases q2
   |mapE=>rw[hq]at q2;cases q2
   |ali=>rw[hq]at q2;cases q2
 have hH:∀k,k≤ops.size→k≤J+1→HS S E ops.size k id=some (.mix sz es):=by
  intro k hk hkJ;have h1:look id (S k).h=some (.mix sz es):=by
   have:=(kp_all T hK k hk hkJ).1 s hs id q1;rw[hmx]at this;exact this
  simp only[HS,h1]
 cases up with
 |sem h0=>cases h0
 |mpx h0=>first|(cases h0;done)|(simp[Q4I]at h0;done)
 |blt h1 h2=>
  simp only[opF]at h1;rw[hevt]at h1;cases hty:tyi P ty with
  |none=>rw[hty]at h1;cases h1
  |some tt=>
   rw[hty]at h1;simp only[Q1X,hH i (by omega) (by omega),qA,qC]at h1;obtain⟨hc,he⟩:=h1;subst he;refine⟨.blt (c:=a<es.length∧b+tt.sz≤sz) ?_ (by rw[hc];exact h2),λp hp=>by cases hp⟩;simp only[opF];rw[hevt,hty];simp only[Q1X,hH (m+1) hm (by omega)]
 |call h1=>cases h1
 |mcall h1=>cases h1
 |icall h1=>cases h1
 |boxr h1=>cases h1
 |appM h1=>cases h1
 |fcall h1=>cases h1
 |fcallb h1=>cases h1
 |callb h1=>cases h1
 |mapo h1=>simp[mapF]at h1
 |mkz h1=>cases h1
 |cvs h1=>cases h1
 |sl3 h1=>cases h1
 |mkf h1=>cases h1
 |mkb h1=>cases h1
 |mki h1=>cases h1
 |mkis h1=>cases h1
 |tas h1=>cases h1
 |sto h1=>cases h1
 |stg h1=>cases h1
def Mov(P:Program)(ops:Array Oper)(S:Nat→St)(E:Nat→Option Eff)(i m:Nat):Prop:=∀oi,ops[i]? =some oi→wrM false oi.op=false∧∀(ev:Operand→AV) (e:Eff),i≤m+1→m+1≤ops.size→
 AOp P false oi.op ev (S i).hp (S i).n e→e=eff E i→AOp P false oi.op ev (HS S E ops.size i) (S i).n e→(∀p∈e.new,HS S E ops.size i p.1=some p.2)→(∀t,(.tmp t:Operand)∈oi.op.operands→ev (.tmp t)=(S i).get t)→
 (∀k ok,i≤k→k≤m→ops[k]? =some ok→isMe ok.op=true→∀p∈e.new,(∀q∈(eff E k).set,q.1≠p.1)∧∀d∈(eff E k).del,d≠p.1)→
 AOp P false oi.op ev (HS S E ops.size (m+1)) (S i).n e∧∀p∈e.new,HS S E ops.size (m+1) p.1=some p.2
theorem mov_soft(T:Tr P false ops S E)(hD:SD ds (S 0))(hall:Q3g ds ops=true)(hS0:∀t id,t∉ds→Pts ((S 0).get t) id→¬Q3U S ds id){i m:Nat}(hr:Q5i ds ops i=true):Mov P ops S E i m:=
 λoi hi=>⟨rootAt_wr hi hr,λev e him hm _ _ up nw hev _=>root_same T hD hall hS0 hi hr him hm up nw hev⟩
theorem mov_kept(T:Tr P false ops S E){rs:List Nat}{J:Nat}(hK:Kp rs J ops (S 0) (S ops.size)){i m:Nat}(hmJ:m≤J)(hr:Q4J rs ops i=true):Mov P ops S E i m:=
 λoi hi=>⟨by obtain⟨ty,t,ho,_⟩:=Q5T hi hr;rw[ho];rfl,λev e him hm _ _ up nw hev _=>kept_same T hK hi hr him hmJ hm up hev⟩
theorem rdT_wr{op:Op}{t:Nat}(h:rdT op=some t):wrM false op=false:=by
 unfold rdT at h;split at h<;>first|rfl|cases h
theorem mov_ro(T:Tr P false ops S E){rd0:List Nat}(h0:∀t∈rd0,RoV ((S 0).get t)){i m:Nat}(hr:roAt rd0 ops i=true):Mov P ops S E i m:=λoi hi=>by
 obtain⟨t,ht,hv⟩:=Q6D h0 (λk o ho=>T.run k o (by simpa using ho)) hi hr;refine⟨rdT_wr ht,λev e _ _ _ _ up nw hev _=>?_⟩;have:=up.calmR ht (by rw[hev t (rdT_mem ht)];exact hv);exact⟨this.2 _,by rw[this.1.2.2.1];simp⟩
theorem mix_keep(T:Tr P false ops S E)(hD:SD ds (S 0))(hall:Q3g ds ops=true){b id:Nat}(hb:Qm ((S b).hp id)=true):∀m,b≤m→m≤ops.size→Qm ((S m).hp id)=true:=by
 intro m
 induction m with
 |zero=>
  intro h _;have:b=0:=by omega
  subst this;exact hb
 |succ m ihm=>
  intro h1 h2;rcases zR b (m+1)with h|h
  ·have i2:=ihm (by omega) (by omega);have hg:=zP (show m<ops.size by omega);obtain⟨hf,hS,hnw,_⟩:=T.step hg;show Qm (look id (S (m+1)).h)=true;rw[hS,Q2k _ _ hf];have hh:Qm (happ (eff E m) (S m).hp id)=true:=by
    cases hw:wrM false (ops[m]).op with
    |false=>
     obtain⟨n1,n2⟩:=hnw hw;rw[QH n1 n2];exact i2
    |true=>
     have hsf:Q5l ds ops m=true:=by
      have:=List.all_eq_true.1 hall m (List.mem_range.2 (by omega));rw[hg]at this;simpa[hw]using this
     obtain⟨id',sz,es,e1,e2,_⟩:=Q7c T hD hall m (by omega) hsf;simp only[happ,e1,e2,look]
     by_cases hid:id'=id
     ·rw[if_pos hid];rfl
     rw[if_neg hid];simpa using i2
   cases hq:happ (eff E m) (S m).hp id with
   |none=>rw[hq]at hh;cases hh
   |some y=>rw[hq]at hh;exact hh
  have:b=m+1:=by omega
  subst this;exact hb
theorem Q7t{h h':HP}(hh:∀x,h' x=h x∨((∃kd es,h x=some (.mapE kd es))∧(h' x=none∨∃kd es,h' x=some (.mapE kd es)))):∀d id,cont h' d id=cont h d id:=by
 intro d
 induction d with
 |zero=>intro id;rfl
 |succ d ih=>
  intro id;rcases hh id with he|⟨⟨kd,es,h1⟩,h2⟩
  ·simp only[cont,he];cases hq:h id with
   |none=>rfl
   |some y=>
    cases y with
    |mix=>rfl
    |row=>rfl
    |mapE=>rfl
    |ali c i k sz=>
     simp only;have hx:Qm (h' c)=Qm (h c):=by
      rcases hh c with h1|⟨⟨kd,es,h1⟩,h2|⟨kd',es',h2⟩⟩
      ·rw[h1]
      ·rw[h1,h2];rfl
      rw[h1,h2];rfl
     rw[hx,ih c]
  rcases h2 with h2|⟨kd',es',h2⟩<;>simp only[cont,h1,h2]
theorem Q9C{h h':HP}(hh:∀x,h' x=h x∨((∃kd es,h x=some (.mapE kd es))∧(h' x=none∨∃kd es,h' x=some (.mapE kd es))))(ty:Option Tyi)(a:AV)(n:Nat):Q1X ty a h' n=Q1X ty a h n:=by
 unfold Q1X;split
 ·rename_i t id i k;rcases hh id with he|⟨⟨kd,es,h1⟩,h2⟩
  ·rw[he,Q7t hh]
  have hc:cont h depth id=none:=by
   cases hd:depth with
   |zero=>rfl
   |succ d=>simp only[cont,h1]
  rcases h2 with h2|⟨kd',es',h2⟩<;>simp only[h1,h2,Q7t hh,hc]
 ·rfl
 rfl
theorem mov_me(T:Tr P false ops S E){i m:Nat}(hm:meAt ops i m=true):Mov P ops S E i m:=λoi hi=>by
 have his:=(Array.getElem?_eq_some_iff.1 hi).1;unfold meAt at hm;rw[qG]at hm;obtain⟨hm1,hm3⟩:=hm;have hop:(∃ty x,oi.op= .load ty x)∨∃ty,oi.op= .makeMap ty none:=by
  rw[hi]at hm1;split at hm1
  ·rename_i h;cases h;exact .inl ⟨_,_,rfl⟩
  ·rename_i h;cases h;exact .inr ⟨_,rfl⟩
  cases hm1
 refine⟨by rcases hop with⟨ty,x,h⟩|⟨ty,h⟩<;>rw[h]<;>rfl,λev e him hms up0 hee up nw hev hne=>?_⟩;have hlast:∀k,i≤k→k≤m+1→(∀x,HS S E ops.size k x=HS S E ops.size i x∨((∃kd es,HS S E ops.size i x=some (.mapE kd es))∧(HS S E ops.size k x=none∨∃kd es,HS S E ops.size k x=some (.mapE kd es))))∧∀p∈e.new,HS S E ops.size k p.1=HS S E ops.size i p.1:=by
  intro k
  induction k with
  |zero=>
   intro h _;have:i=0:=by omega
   subst this;exact⟨λ_=>.inl rfl,λ_ _=>rfl⟩
  |succ k ih=>
   intro h1 h2;rcases zR i (k+1)with h|h
   ·obtain⟨i1,i2⟩:=ih (by omega) (by omega);have hg:=zP (show k<ops.size by omega);rw[Q3Y T (by omega)];cases hw:wrM false (ops[k]).op with
    |false=>
     obtain⟨n1,n2⟩:=(T.step hg).2.2.1 hw;rw[QH n1 n2];exact⟨i1,i2⟩
    |true=>
     have hme:isMe (ops[k]).op=true:=by
      have:=List.all_eq_true.1 hm3 k (List.mem_range.2 (by omega));rw[hg]at this;simp only[qY,zQ,hw,Bool.not_true,Bool.or_false,zS,decide_eq_true_eq]at this;exact this.resolve_left (by omega)
     have hrun:=T.run k _ hg;cases hE:E k with
     |none=>
      have:eff E k={v:=.tup []}:=(by simp[eff,hE]);rw[this,QH rfl rfl];exact⟨i1,i2⟩
     |some e'=>
      rw[hE]at hrun;obtain⟨_,hop',_⟩:=hrun;obtain⟨⟨id,kd,es,kd',es',r1,r2,r3⟩,r4⟩:=hop'.me hme rfl;have he:eff E k=e':=(by simp[eff,hE]);have hne':=hne k _ (by omega) (by omega) hg hme;rw[he]at hne'⊢;have hS:∀y kd es,(S k).hp y=some (.mapE kd es)→∃kd es,HS S E ops.size i y=some (.mapE kd es):=by
       intro y kd es hy;have hy':look y (S k).h=some (.mapE kd es):=hy;have hk:HS S E ops.size k y=some (.mapE kd es):=(by simp only[HS,hy']);rcases i1 y with q|⟨q,_⟩
       ·exact⟨kd,es,by rw[←q];exact hk⟩
       exact q
      refine⟨λy=>?_,λp hp=>?_⟩
      ·simp only[happ,r3,look]
       by_cases hyi:id=y
       ·subst hyi;rw[if_pos rfl];exact .inr ⟨hS id _ _ r2,.inr ⟨_,_,rfl⟩⟩
       rw[if_neg hyi];simp only
       by_cases hyd:y∈e'.del
       ·rw[if_pos hyd];obtain⟨_,kd2,es2,s2⟩:=r4 y hyd;exact .inr ⟨hS y _ _ s2,.inl rfl⟩
       rw[if_neg hyd];exact i1 y
      obtain⟨p1,p2⟩:=hne' p hp;simp only[happ,r3,look];rw[if_neg (show¬id=p.1 from p1 (id,.mapE kd' es') (by rw[r3];simp))];simp only;rw[if_neg (λhd=>p2 _ hd rfl)];exact i2 p hp
   have:i=k+1:=(by omega);subst this;exact⟨λ_=>.inl rfl,λ_ _=>rfl⟩
 replace hlast:=hlast (m+1) him (qF _);have hnew:∀p∈e.new,HS S E ops.size (m+1) p.1=some p.2:=λp hp=>by
  rw[hlast.2 p hp];exact nw p hp
 rcases hop with⟨ty,x,ho⟩|⟨ty,ho⟩
 ·rw[ho]at up⊢;obtain⟨c,hc1,hc2⟩:=up.plain rfl;refine⟨.blt (c:=c) ?_ hc2,hnew⟩;simp only[opF]at hc1⊢;rw[Q9C hlast.1];exact hc1
 rw[ho]at up⊢;exact⟨up.mk _,hnew⟩
theorem late_eff(T:Tr P false ops S E)(hD:SD ds (S 0))(hall:Q3g ds ops=true){i k:Nat}(hk:k<ops.size)(hl:lateW ops i k=true):(∀p∈(eff E k).set,(S (i+1)).n≤p.1)∧(eff E k).del=[]:=by
 have hl2:=hl;unfold lateW at hl;split at hl
 ·rename_i d ty s x ty2 pos af ho;obtain⟨a,ha,hal⟩:=List.any_eq_true.1 hl;have ha:=List.mem_range.1 ha;simp only[qG,decide_eq_true_eq]at hal;obtain⟨a1,a2,a3,a4⟩:=Q8R T hal.2;have hsf:Q5l ds ops k=true:=by
   have:=List.all_eq_true.1 hall k (List.mem_range.2 hk);rw[ho]at this;simpa[wrM,Q1f]using this
  obtain⟨id,sz,es,e1,e2,_⟩:=Q7c T hD hall k hk hsf;obtain⟨e,hE,hop,hS⟩:=Q4P T ho rfl;have heff:eff E k=e:=by simp[eff,hE]
  have hg:(S k).get s= .adr (S a).n 0 0:=by
   rw[Q3G T (a:=a+1) k (by omega) (by omega) λm h1 h2=>Q3c a2 (by omega) (by omega)];exact a3
  have hm:=mix_keep T hD hall a4 k (by omega) (by omega);refine⟨λp hp=>?_,e2⟩;rw[heff]at hp;have:=((Q80 hop (show(S k).ev (.tmp s)=_ from hg)) p hp).2 hm;rw[this.1];exact T.nle (by omega) (by omega)
 cases hl
theorem mov_late(T:Tr P false ops S E)(hD:SD ds (S 0))(hall:Q3g ds ops=true){i m:Nat}(hl:Q7J ops i=true):Mov P ops S E i m:=λoi hi=>by
 have his:=(Array.getElem?_eq_some_iff.1 hi).1;unfold Q7J at hl;rw[qG]at hl;obtain⟨hl1,hl2⟩:=hl;have hw:wrM false oi.op=false:=by
  rw[hi]at hl1;simpa using hl1
 refine⟨hw,λev e him hm up0 hee up nw hev _=>?_⟩;obtain⟨n1,n2⟩:=(T.step hi).2.2.1 hw;have h0:HS S E ops.size (i+1)=HS S E ops.size i:=by rw[Q3Y T his,QH n1 n2]
 have key:∀q,i+1≤q→q≤ops.size→∀id,id<(S (i+1)).n→HS S E ops.size q id=HS S E ops.size (i+1) id:=by
  intro q
  induction q with
  |zero=>intro h;omega
  |succ q ih=>
   intro h1 h2 id hid;rcases zR (i+1) (q+1)with h|h
   ·rw[←ih (by omega) (by omega) id hid,Q3Y T (by omega)];have hg:=zP (show q<ops.size by omega);cases hwq:wrM false (ops[q]).op with
    |false=>
     obtain⟨g1,g2⟩:=(T.step hg).2.2.1 hwq;rw[QH g1 g2]
    |true=>
     have hlw:lateW ops i q=true:=by
      have:=List.all_eq_true.1 hl2 q (List.mem_range.2 (by omega));rw[hg]at this;simp only[qY,zQ,hwq,Bool.not_true,Bool.or_false,zS,decide_eq_true_eq]at this;exact this.resolve_left (by omega)
     obtain⟨g1,g2⟩:=late_eff T hD hall (by omega) hlw;simp only[happ,g2];have:look id (eff E q).set=none:=by
      cases hq:look id (eff E q).set with
      |none=>rfl
      |some y=>
       obtain⟨p,hp,hpe⟩:=List.mem_map.1 (Q2l hq);have:=g1 p hp;omega
     rw[this];simp
   have:i=q:=(by omega);subst this;rfl
 have all:∀id,id<(S (i+1)).n→HS S E ops.size (m+1) id=HS S E ops.size i id:=by
  intro id hid;rcases zR i (m+1)with h|h
  ·rw[key (m+1) (by omega) hm id hid,h0]
  have:i=m+1:=by omega
  rw[this]
 have hle:=T.nle (show i≤i+1 by omega) (by omega);have hok:=T.all i (by omega);refine⟨up0.up (λid x hid=>?_) λid hid=>?_,λp hp=>?_⟩
 ·have hid':look id (S i).h=some x:=hid;have:=hok _ _ hid';rw[all id (by omega)];simp only[HS,hid']
 ·rw[all id (by omega)];simp only[HS,St.hp];cases hh:look id (S i).h with
  |some x=>rfl
  |none=>
   cases hl:look id (Q2E E i (ops.size - i))with
   |none=>rfl
   |some x=>
    obtain⟨p,hp,hpe⟩:=List.mem_map.1 (Q2l hl);have:=(Q3I T (ops.size - i) i (by omega) p hp).1;omega
 have hfe:e.fine (S i).n:=by rw[hee];exact(T.step hi).1
 have hlt:=(hfe.new p hp).2;have hn:=T.n his;rw[all p.1 (by rw[hn,←hee];exact hlt)];exact nw p hp
theorem hU_last(L:Nat→Bool):∀n,(∃k,k<n∧L k=true∧isW false ops k=true)→∃m,m<n∧hU false ops S E L n=HS S E ops.size (m+1)∧(∀k,m<k→k<n→L k=true→isW false ops k=false)∧L m=true∧isW false ops m=true:=by
 intro n
 induction n with
 |zero=>rintro ⟨k,hk,_⟩;omega
 |succ n ih=>
  rintro ⟨k,hk,h1,h2⟩
  by_cases hn:L n=true∧isW false ops n=true
  ·refine⟨n,by omega,?_,(λq h3 h4=>by omega),hn.1,hn.2⟩;simp only[hU];rw[if_pos (by simpa[isW]using hn)]
  have hkn:k<n:=by
   rcases zR k n with h|h
   ·exact h
   have:k=n:=(by omega);subst this;exact absurd ⟨h1,h2⟩ hn
  obtain⟨m,m1,m2,m3,m4,m5⟩:=ih ⟨k,hkn,h1,h2⟩;refine⟨m,by omega,?_,λq h3 h4 h5=>?_,m4,m5⟩
  ·simp only[hU];rw[if_neg (by simpa[isW]using hn)];exact m2
  by_cases hq:q=n
  ·subst hq;cases hw:isW false ops q with
   |false=>rfl
   |true=>exact absurd ⟨h5,hw⟩ hn
  exact m3 q h3 (by omega) h5
theorem mid_stepS(T:Tr P false ops S E)(hN:∀o∈ops.toList,∀d,o.dst=some d→d<N){L:Nat→Bool}{i:Nat}{oi:Oper}(hi:ops[i]? =some oi)(hL:L i=false)(hA:∀k o,k<i→ops[k]? =some o→Q3m false ops o oi=true→L k=true∨(Mov P ops S E k i∧Q2t ops o oi=false))(hB:∀k o,i<k→ops[k]? =some o→L k=true→Q2t ops oi o=false∧(Q5b oi o=true→Mov P ops S E i k)){a:Act}{w:World}(M:Mid false C R N ops S E w0 L a w){K:Act→World→Prop}(hK:∀R' a' w',RX R R' C.w0.heap.size→Mid false C R' N ops S E w0 (upL L i) a' w'→K a' w'):wpOp P ops i K a w:=by
 classical
 have hin:i<ops.size:=(Array.getElem?_eq_some_iff.1 hi).1;obtain⟨o,ρ,W,H,hx,hρ,hpin⟩:=M.ex;obtain⟨hf,hS,hnw,hnt⟩:=T.step hi;have hd:(ops[i]?).bind (·.dst)=oi.dst:=by rw[hi];rfl
 have hslot:∀t,t∈Q4v ops oi→envU ops S E L ops.size t=(S i).get t:=by
  intro t ht;rw[Q5O L t i ops.size (by omega) λk hk1 hk2 hk3=>?_]
  ·refine Q6R T L t i (by omega) λk hk1 hk2=>?_;have hk:k<ops.size:=(by omega);rw[zP hk]at hk2;have hk2:(ops[k]).dst=some t:=hk2;have hcs:Q2t ops ops[k] oi=true:=by
    simp only[Q2t,hk2,zS];left;left;simpa using ht
   rcases hA k _ hk1 (zP hk) (by rw[Q8V,hcs];rfl)with h|h
   ·exact h
   rw[hcs]at h;cases h.2
  intro hdk
  by_cases hki:k=i
  ·subst hki;rw[hL]at hk3;cases hk3
  have hk:k<ops.size:=hk2;have h1:=hB k _ (by omega) (zP hk) hk3;rw[zP hk]at hdk;exact(Q4a h1.1).2 t hdk ht
 have hown:∀t,envU ops S E (upL L i) ops.size t=if oi.dst=some t then(eff E i).v else envU ops S E L ops.size t:=by
  intro t;rw[Q6S hL t ops.size λk h1 h2 h3=>?_,hd]
  ·by_cases hdt:oi.dst=some t
   ·rw[if_pos ⟨hin,hdt⟩,if_pos hdt]
   rw[if_neg (λh=>hdt h.2),if_neg hdt]
  cases hdi:oi.dst with
  |none=>right;rw[hd,hdi]
  |some d=>
   left;rw[hd,hdi,zP h2];have h4:=hB k _ h1 (zP h2) h3;exact((Q4a h4.1).1 d hdi).2
 have hdN:∀x,oi.dst=some x→x<a.tmps.size:=λx hx=>by
  rw[M.size];exact hN oi (by rw[←yE]at hi;exact List.mem_of_getElem? hi) x hx
 have hW:isW false ops i=true→(∀k,k<i→isW false ops k=true→L k=true)∧∀k,i<k→k<ops.size→L k=true→isW false ops k=false:=by
  intro hw;have hwi:wrM false oi.op=true:=by simpa[isW,hi]using hw
  have htw:∀x:Op,wrM false x=true→Q14 x=true:=by
   intro x hx;cases x with
   |call cl=>
    obtain⟨ce,args,ts⟩:=cl;cases ce with
    |builtin b=>cases b<;>simp_all[wrM,Q2Q,roC,Q32,Q1f,Q14]
    |value=>rfl
    |invoke=>simp[wrM,Q2Q,roC,Q32,Q1f]at hx
   |_=>first|rfl|(simp[wrM,Q2Q,roC,Q32,Q1f]at hx;done)
  refine⟨λk hk hwk=>?_,λk hk hk2 hLk=>?_⟩
  ·have hks:k<ops.size:=(by omega);have hg:=zP hks;have hwk':wrM false (ops[k]).op=true:=(by simpa[isW,hg]using hwk);rcases hA k _ hk hg (by simp only[Q3m,zS,qG];left;right;exact⟨⟨hwk',(tch0 _).trans (htw _ hwi)⟩,rfl⟩)with h|h
   ·exact h
   have:=(h.1 _ hg).1;rw[hwk']at this;cases this
  have hg:=zP hk2;have h1:=hB k _ hk hg hLk;cases hwk:isW false ops k with
  |false=>rfl
  |true=>
   have hwk':wrM false (ops[k]).op=true:=(by simpa[isW,hg]using hwk);have h2:=h1.2 (by simp only[Q5b,hwi,htw _ hwk',Bool.and_self,Bool.true_or]);have:=(h2 _ hi).1;rw[hwi]at this;cases this
 have hcl:∀k k':Nat,k<k'→k'<ops.size→isW false ops k=true→isW false ops k'=true→upL L i k'=true→upL L i k=true:=by
  intro k k' h1 h2 h3 h4 h5;simp only[upL]at h5⊢
  by_cases hk:k=i
  ·rw[if_pos hk]
  rw[if_neg hk]
  by_cases hk':k'=i
  ·exact(hW (by rw[←hk'];exact h4)).1 k (by omega) h3
  rw[if_neg hk']at h5;exact M.cl k k' h1 h2 h3 h4 h5
 have hme:MT.on false=false→∀(k:Nat) (o:Oper),ops[k]? =some o→isMe o.op=true→upL L i k=true→(∀p∈(eff E k).set,Giv ops S (upL L i) p.1)∧∀d∈(eff E k).del,Giv ops S (upL L i) d:=by
  intro hmt k o2 hk hm hLk;have up:∀{q:Nat},Giv ops S L q→Giv ops S (upL L i) q:=by
   rintro q (h|⟨j,j1,j2,j3⟩)
   ·exact .inl h
   exact .inr ⟨j,j1,by simp only[upL];split<;>simp_all,j3⟩
  by_cases hki:k=i
  ·subst hki;rw[hi]at hk;cases hk;have hrun:=T.run k oi hi;cases hE:E k with
   |none=>simp[eff,hE]
   |some e=>
    rw[hE]at hrun;obtain⟨_,hop,_⟩:=hrun;obtain⟨⟨id,kd,es,kd',es',r1,r2,r3⟩,r4⟩:=hop.me hm hmt;have he:eff E k=e:=(by simp[eff,hE]);have giv:∀id,(∃x∈oi.op.operands,(S k).ev x= .mp id)→Giv ops S (upL L k) id:=by
     rintro id ⟨x,x1,x2⟩
     cases x with
     |tmp t1=>
      have h1:=hx t1;rw[hslot t1 (Q3y x1),show(S k).get t1= .mp id from x2]at h1;obtain⟨b,_,hb⟩:∃b,a.tmps.getD t1 undef= .map (some b)∧ρ id=some ⟨some b,0,0⟩:=by
       generalize a.tmps.getD t1 undef=vv at h1;cases h1 with
       |r h=>cases h
       |mp h=>exact⟨_,rfl,h⟩
      exact up (hρ id _ hb)
     |const v=>simp only[St.ev,cst]at x2;split at x2<;>cases x2
     |global=>cases x2
     |func f=>cases x2
    rw[he];refine⟨λp hp=>?_,λd hd=>giv d (r4 d hd).1⟩;rw[r3]at hp;simp only[zN]at hp;subst hp;exact giv id r1
  have hLk':L k=true:=by simpa[upL,hki]using hLk
  obtain⟨g1,g2⟩:=M.me hmt k o2 hk hm hLk';exact⟨λp hp=>up (g1 p hp),λd hd=>up (g2 d hd)⟩
 have fin:∀v w' R' o' ρ',RX R R' C.w0.heap.size→WF C w' ⟨R',o',ρ'⟩→HRel w' ⟨R',o',ρ'⟩ (hU false ops S E (upL L i) ops.size)→(∀id k,ρ id=some k→ρ' id=some k)→(∀id k,ρ' id=some k→ρ id=some k∨((S i).n≤id∧id<(S i).n+(eff E i).cnt))→
   XRel w' R' ρ' v (eff E i).v→(∀b,R b→w'.heap[b]? =w.heap[b]?)→K (a.put oi.dst v) w':=by
  intro v w' R' o' ρ' hX W' H' h1 h2 hv h3;refine hK R' _ _ hX ⟨by rw[Q75];exact M.size,by rw[←M.defers];cases oi.dst<;>rfl,⟨o',ρ',W',H',λt=>?_,λid k hk=>?_,λid hid=>?_,hpin.2⟩,λhmt=>hme hmt,hcl⟩
  ·rw[put_get a oi.dst v t hdN,hown];split
   ·exact hv
   exact(hx t).mono (λb hb=>⟨hX.1 b hb,h3 b hb⟩) h1
  ·rcases h2 id k hk with h4|h4
   ·rcases hρ id k h4 with h5|⟨j,hj,hLj,h5⟩
    ·exact .inl h5
    exact .inr ⟨j,hj,by simp only[upL];split<;>simp_all,h5⟩
   exact .inr ⟨i,hin,by simp[upL],h4.1,by rw[T.n hin];exact h4.2⟩
  rw[←hpin.1 id hid];cases hr:ρ id with
  |some k=>exact h1 id k hr
  |none=>
   cases hr':ρ' id with
   |none=>rfl
   |some k=>
    exfalso;rcases h2 id k hr' with h4|h4
    ·rw[hr]at h4;cases h4
    have:=T.nle (show 0≤i by omega) (by omega);have:=hpin.2;omega
 have hhU:=hU_upL T hin hL hW;have hguard:∀b,Q2f ops oi (S i)=some b→Region.wanted oi (yielded ops a.tmps)=b:=by
  intro b hb;unfold Q2f at hb;unfold Region.wanted;split at hb
  ·rename_i hg;rw[hg];simpa using hb
  rename_i j want hg;rw[hg];split at hb
  ·rename_i t ht;split at hb
   ·rename_i bb hbb;have h1:=hx t;rw[hslot t (Q2v hg ht),hbb]at h1;have h2:=h1.val_eq.1;have h3:a.tmps[t]? =some (.bool bb):=by
     cases hh:a.tmps[t]? with
     |none=>simp[hh,undef]at h2
     |some x=>simp[hh]at h2;rw[h2]
    simp only[yielded,ht,yA,h3];simp only[qA]at hb;rw[←hb];cases bb<;>cases want<;>rfl
   ·rename_i htt;have h1:=hx t;rw[hslot t (Q2v hg ht),htt]at h1;obtain⟨cs,h2,h3,_⟩:=h1.tup_eq;have h4:cs=#[]:=(by simpa using h3);subst h4;simp only[qA]at hb;rw[←hb];have h5:a.tmps[t]? =none∨a.tmps[t]? =some (.tuple #[]):=by
     cases hh:a.tmps[t]? with
     |none=>exact .inl rfl
     |some x=>simp[hh]at h2;rw[h2];exact .inr rfl
    rcases h5 with h5|h5<;>simp[yielded,ht,h5]
   cases hb
  cases hb
 have hrun:=T.run i oi hi;unfold wpOp;rw[hi];simp only;cases hE:E i with
 |none=>
  rw[hE]at hrun;rw[hguard false hrun.1];simp only[zM,if_false];have heff:eff E i={v:=.tup []}:=by simp[eff,hE]
  refine fin undef w R o ρ .refl W ?_ (λ_ _ h=>h) (λ_ _ h=>.inl h) (by rw[heff];exact .tup rfl λk hk=>by simp at hk) (λ_ _=>rfl);rw[hhU,heff];cases isW false ops i<;>simpa[QH]using H
 |some e=>
  rw[hE]at hrun;obtain⟨hwant,hop,_⟩:=hrun;have heff:eff E i=e:=by simp[eff,hE]
  rw[hguard true hwant];simp only[if_true]
  let ev:Operand→AV:=λx=>if x∈oi.op.operands then(S i).ev x else .bot
  have hev:∀x,XRel w R ρ (a.eval x) (ev x):=by
   intro x;simp only[ev];split
   ·rename_i hmem;cases x with
    |tmp t=>
     have:=hx t;rw[hslot t (Q3y hmem)]at this;exact this
    |const v=>
     simp only[St.ev,cst,Act.eval];split
     ·rename_i hsc;exact .r (.val (Q6F hsc))
     exact .bot
    |global=>exact .bot
    |func f=>exact .fn (by simp) (λk hk=>by simp at hk)
   exact .bot
  have hop1:AOp P false oi.op ev (S i).hp (S i).n e:=hop.congr λx hx=>by simp only[ev];rw[if_pos hx]
  have hop2:AOp P false oi.op ev (hU false ops S E L ops.size) (S i).n e∧(∀p∈e.new,hU false ops S E L ops.size p.1=some p.2):=by
   cases ht:Q14 oi.op with
   |false=>
    have hc:=hop1.calm ht;exact⟨hc.2 _,by rw[hc.1.2.2.1];simp⟩
   |true=>
    have hok:=T.all i (by omega);have up:AOp P false oi.op ev (HS S E ops.size i) (S i).n e:=by
     refine hop1.up (λid x hid=>?_) λid hid=>?_
     ·have hid':look id (S i).h=some x:=hid;simp only[HS,hid']
     simp only[HS,St.hp];cases hh:look id (S i).h with
     |some x=>rfl
     |none=>
      cases hl:look id (Q2E E i (ops.size - i))with
      |none=>rfl
      |some x=>
       obtain⟨p,hp,hpe⟩:=List.mem_map.1 (Q2l hl);have:=(Q3I T (ops.size - i) i (by omega) p hp).1;omega
    have nw:∀p∈e.new,HS S E ops.size i p.1=some p.2:=by
     intro p hp;have hfe:e.fine (S i).n:=(by rw[←heff];exact hf);have hlt:=(hfe.new p hp).1;have hnone:look p.1 (S i).h=none:=by
      cases hh:look p.1 (S i).h with
      |none=>rfl
      |some x=>have:=hok _ _ hh;omega
     simp only[HS,hnone];have hlat:Q2E E i (ops.size - i)=(eff E i).new++Q2E E (i+1) (ops.size - (i+1)):=by
      rw[show ops.size - i=(ops.size - (i+1))+1 by omega];rfl
     rw[hlat,Q25,heff,QQ hfe.nodup hp]
    by_cases hlate:∃k,i<k∧k<ops.size∧L k=true∧isW false ops k=true
    ·obtain⟨k1,hk1,hk2,hk3,hk4⟩:=hlate;have hg1:=zP hk2;have hwk1:wrM false (ops[k1]).op=true:=(by simpa[isW,hg1]using hk4);obtain⟨m,hm1,hm2,hm3,hm4,hm5⟩:=hU_last (S:=S) (E:=E) L ops.size ⟨k1,hk2,hk3,hk4⟩;have him:i≤m:=by
      rcases zR m i with h|h
      ·have:=hm3 k1 (by omega) hk2 hk3;rw[this]at hk4;cases hk4
      exact h
     rw[hm2];have hne:i≠m:=λq=>by rw[q,hm4]at hL;cases hL
     have hgm:=zP hm1;have hwm:wrM false (ops[m]).op=true:=(by simpa[isW,hgm]using hm5);have hr:=(hB m _ (by omega) hgm hm4).2 (by simp only[Q5b,ht,hwm,Bool.and_self,Bool.or_true]);exact(hr _ hi).2 ev e (by omega) (by omega) hop1 heff.symm up nw (λt ht=>by simp only[ev];rw[if_pos ht];rfl) λk ok hk1 hk2 hok' hme' p hp=>by
      have hfe:e.fine (S i).n:=(by rw[←heff];exact hf);have h1:=hfe.new p hp;have hni:=T.n hin;rw[heff]at hni;have hwk:isW false ops k=true:=by
       simp only[isW,hok',qY,zQ]
       revert hme'
       cases ok.op<;>simp[isMe,wrM,Q1f]
      have hLk:L k=true:=by
       rcases zR k m with hkm|hkm
       ·exact M.cl k m hkm hm1 hwk hm5 hm4
       have:k=m:=(by omega);subst this;exact hm4
      have giv:∀q,Giv ops S L q→q≠p.1:=by
       rintro q (h2|⟨j,j1,j2,j3,j4⟩) hqp
       ·have:=T.nle (show 0≤i by omega) (by omega);omega
       rcases yH j i with hji|hji|hji
       ·have:=T.nle (show j+1≤i by omega) (by omega);omega
       ·subst hji;rw[hL]at j2;cases j2
       have:=T.nle (show i+1≤j by omega) (by omega);omega
      obtain⟨g1,g2⟩:=M.me rfl k ok hok' hme' hLk;exact⟨λq hq=>giv q.1 (g1 q hq),λd hd=>giv d (g2 d hd)⟩
    have e1:hU false ops S E L ops.size=HS S E ops.size i:=by
     rw[Q52 L i ops.size (by omega) λk hk1 hk2 hk3=>?_]
     ·refine Q9w T L i (by omega) λk hk hwk=>?_;have hks:k<ops.size:=(by omega);have hg:=zP hks;have hwk':wrM false (ops[k]).op=true:=(by simpa[isW,hg]using hwk);rcases hA k _ hk hg (by simp only[Q3m,zS,qG];left;right;exact⟨⟨hwk',(tch0 _).trans ht⟩,rfl⟩)with h|h
      ·exact h
      have:=(h.1 _ hg).1;rw[hwk']at this;cases this
     by_cases hki:k=i
     ·subst hki;rw[hL]at hk3;cases hk3
     cases hwk:isW false ops k with
     |false=>rfl
     |true=>exact absurd ⟨k,by omega,hk2,hk3,hwk⟩ hlate
    rw[e1];exact⟨up,nw⟩
  have hfr:∀id,(S i).n≤id→id<(S i).n+e.cnt→ρ id=none:=by
   intro id h1 h2;cases hh:ρ id with
   |none=>rfl
   |some k=>
    have hni:=T.n hin;rw[heff]at hni;rcases hρ id k hh with h3|⟨j,hj,hLj,h3,h4⟩
    ·have:=T.nle (show 0≤i by omega) (by omega);omega
    rcases yH j i with hji|hji|hji
    ·have:=T.nle (show j+1≤i by omega) (by omega);omega
    ·subst hji;rw[hL]at hLj;cases hLj
    have:=T.nle (show i+1≤j by omega) (by omega);omega
  have hlim:wrM false oi.op=true→∀id k,ρ id=some k→id<(S i).n:=by
   intro hw id k hk;rcases hρ id k hk with h3|⟨j,hj,hLj,h3,h4⟩
   ·exact qN h3 (T.nle (by omega) (by omega))
   rcases yH j i with hji|hji|hji
   ·have:=T.nle (show j+1≤i by omega) (by omega);omega
   ·subst hji;rw[hL]at hLj;cases hLj
   have hg:=zP hj;have h5:Q14 (ops[j]).op=false:=by
    cases h:Q14 (ops[j]).op with
    |false=>rfl
    |true=>
     have h2:=(hB j _ hji hg hLj).2 (by simp only[Q5b,hw,h,Bool.and_self,Bool.true_or]);have:=(h2 _ hi).1;rw[hw]at this;cases this
   have h6:=(T.step hg).2.2.2 ((tch0 _).trans h5);have:=T.n hj;rw[h6.2.2.2]at this;omega
  have hstep:=hop2.1.step (λh=>hlim (lim_wr h)) hev W H hop2.2 hfr;refine hstep K (λ_ _ _=>True) λv w' R' o' ρ' hX W' H' h1 h2 hv h3=>?_;have hv':XRel w' R' ρ' v (eff E i).v:=by rw[heff];exact hv
  refine fin v w' R' o' ρ' hX W' ?_ h1 (by rw[heff];exact h2) hv' h3;rw[hhU,heff];cases hw:isW false ops i with
  |true=>exact H'
  |false=>
   have hwf:wrM false oi.op=false:=(by simpa[isW,hi]using hw);have:=hnw hwf;rw[heff]at this;rw[QH this.1 this.2]at H';rw[cond_false,QH rfl rfl];exact H'
theorem Q8w{rd0:List Nat}(hrd:∀t∈rd0,RoV ((S 0).get t))(T:Tr P false ops S E)(hN:okN N ops=true){rs:List Nat}(hD:SD ds (S 0)){J:Nat}(hK:rs≠[]→Kp rs J ops (S 0) (S ops.size))(hreg:Q9f rd0 ds rs J ops=true)(hback:Q2b ops=true)(hm:P.follows .mixedOrders=true){id:Nat}{Q:Exit→Act→World→Prop}{a:Act}{w:World}(h:Rel C R N a w (S 0))(hQ:∀R' a' w',RX R R' C.w0.heap.size→Rel C R' N a' w' (S ops.size)→Q .normal a' w'):(Code.region id ops true).wpT P Q a w:=by
 have hS0:∀t id,t∉ds→Pts ((S 0).get t) id→¬Q3U S ds id:=by
  intro t id hn ht hs;generalize hg:(S 0).get t=v0 at ht;rcases hs with hs|⟨s,hs,hc⟩
  case inr=>cases ht with
   |adr=>exact hD.sep t id _ _ hn hg s hs hc
   |own=>exact hD.sepO t id _ _ hn hg s hs hc
  refine absurd hs (Nat.not_le.2 ?_);obtain⟨_,_,_,o,ρ,_,_,hx,hρ,_⟩:=h;have:=hx t;rw[hg]at this;cases ht with
  |adr=>
   obtain⟨b,bsz,cap,hb,_⟩:=this.adr_eq;exact hρ id _ hb
  |own=>
   rcases this.own_eq with⟨s0,c0,hb,_⟩|⟨b,bsz,cap,cc,x0,hb,_⟩
   ·exact hρ id _ hb
   exact hρ id _ hb
 have mv:∀i j,(roAt rd0 ops i=true∨(Q4J rs ops i=true∧j≤J)∨meAt ops i j=true∨(Q3g ds ops=true∧(Q5i ds ops i=true∨Q7J ops i=true)))→Mov P ops S E i j:=λi j hi=>hi.elim (λh=>mov_ro T hrd h) λhi=>hi.elim (λh=>mov_kept T (hK (by rintro rfl;rw[kept_nil]at h;cases h.1)) h.2 h.1) λhi=>hi.elim (λh=>mov_me T h) λh=>h.2.elim (λq=>mov_soft T hD h.1 hS0 q) λq=>mov_late T hD h.1 q;refine wp_region_any hm λwr hrl=>?_;have key:∀(fuel:Nat) (listed:Array Bool) (R':Nat→Prop) (a:Act) (w':World),RX R R' C.w0.heap.size→listed.size=ops.size→left (λk=>listed.getD k false) ops.size≤fuel→
   (∀j,listed.getD j false=true→∀i,((Q3i ops.toList []).getD j 0).testBit i=true→listed.getD i false=true)→Mid false C R' N ops S E wr.drew (λk=>listed.getD k false) a w'→wpAny P .any ops Q fuel listed a w':=by
  intro fuel
  induction fuel with
  |zero=>
   intro listed R' a w' hX hsz hleft hanc M;have hall:=Q5U _ (show left (λk=>listed.getD k false) ops.size=0 by omega);refine⟨?_,hQ _ _ _ hX (Q4u T M hall)⟩;cases hr:Region.ready .any ops listed with
   |nil=>rfl
   |cons x xs=>
    have hx:x∈Region.ready .any ops listed:=(by rw[hr];simp);obtain⟨hf,o,ho,_⟩:=mem_ready.1 hx;have hxs:=(Array.getElem?_eq_some_iff.1 ho).1;have h1:listed.getD x false=true:=hall x hxs;have:listed.getD x true=listed.getD x false:=(by simp[show x<listed.size by omega]);rw[this,h1]at hf;cases hf
  |succ fuel ih=>
   intro listed R' a w' hX hsz hleft hanc M;refine⟨λhr=>?_,λi hi w₁ hrl1=>?_⟩
   ·
    have hall:∀k,k<ops.size→listed.getD k false=true:=by
     intro k
     induction k using yF with
     |_ k ihk=>
      intro hk;cases hl:listed.getD k false with
      |true=>rfl
      |false=>
       have:k∈Region.ready .any ops listed:=by
        refine mem_ready.2 ⟨?_,ops[k],zP hk,λe he hb=>?_⟩
        ·have:listed.getD k true=listed.getD k false:=(by simp[show k<listed.size by omega]);rw[this,hl]
        have h1:=hback;unfold Q2b at h1;simp only[qW]at h1;have h2:=h1 (ops[k],k) (List.mk_mem_zipIdx_iff_getElem?.2 (by simp[hk])) e (by simpa using he);rw[hb]at h2;have hlt:e.on<k:=(by simpa using h2);exact ihk e.on hlt (by omega)
       rw[hr]at this;cases this
    exact hQ _ _ _ hX (Q4u T M hall)
   obtain⟨hf,oi,hoi,hafter⟩:=mem_ready.1 hi;have hin:=(Array.getElem?_eq_some_iff.1 hoi).1;have hLi:listed.getD i false=false:=by
    have:listed.getD i true=listed.getD i false:=(by simp[show i<listed.size by omega]);rw[←this];exact hf
   have hanci:∀k,((Q3i ops.toList []).getD i 0).testBit k=true→listed.getD k false=true:=by
    intro k hk;obtain⟨o',ho',e,he,hb,hx⟩:=Q5X ops.toList [] i k (by simp) hk;have hoo:o'=oi:=by
     simp only[List.length_nil,yG]at ho';rw[yE,hoi]at ho';simpa using ho'.symm
    subst hoo;have h1:=hafter e (by simpa using he) hb;rcases hx with hx|⟨_,hx⟩
    ·rw[←hx];exact h1
    exact hanc _ h1 _ hx
   refine mid_stepS T (Q5F hN) hoi hLi (λk o hk ho hc=>?_) (λk o hk ho hLk=>?_) (M.rly hrl1) λR'' a' w'' hX' M'=>?_
   ·rcases Q5Y hreg hk ho hoi with h|⟨h1,h2⟩
    ·exact .inl (hanci k h)
    rw[Q8V,h1,Bool.false_or]at hc;exact .inr ⟨mv k i (h2 hc),h1⟩
   ·rcases Q5Y hreg hk hoi ho with h|⟨h1,h2⟩
    ·have:=hanc k hLk i h;rw[hLi]at this;cases this
    exact⟨h1,λhc=>mv i k (h2 hc)⟩
   have hset:∀k,(listed.setIfInBounds i true).getD k false=upL (λk=>listed.getD k false) i k:=by
    intro k;simp only[upL]
    by_cases hk:k=i
    ·subst hk;simp[show k<listed.size by omega]
    rw[if_neg hk,getD_set_ne false (Ne.symm hk)]
   refine ih _ R'' a' w'' (hX.trans hX' (qF _)) (by simpa using hsz) ?_ ?_ (M'.congrL λk=>(hset k).symm)
   ·have h1:=Q8o (L:=λk=>listed.getD k false) hLi ops.size;rw[if_pos hin]at h1;have h2:left (λk=>(listed.setIfInBounds i true).getD k false) ops.size=left (upL (λk=>listed.getD k false) i) ops.size:=by
     congr 1;funext k;exact hset k
    omega
   intro j hj k hk;rw[hset]at hj⊢;simp only[upL]at hj⊢
   by_cases hki:k=i
   ·rw[if_pos hki]
   rw[if_neg hki]
   by_cases hji:j=i
   ·subst hji;exact hanci k hk
   rw[if_neg hji]at hj;exact hanc j hj k hk
 refine key ops.size _ R a _ .refl (by simp) ?_ ?_ ?_
 ·have:∀m,left (λk=>(zY ops.size false).getD k false) m≤m:=by
   intro m
   induction m with
   |zero=>simp[left]
   |succ m ih=>simp only[left];split<;>omega
  exact this _
 ·intro j hj;exfalso
  by_cases hjs:j<ops.size
  ·simp[hjs]at hj
  simp[hjs]at hj
 refine Q4L T (h.rly hrl).drew λk=>?_
 by_cases hk:k<ops.size
 ·simp[hk]
 simp[hk]
end
theorem w_runS{P:Program}{F:Fx}{AQ:Exit→St→Prop}{st:St}{id:Nat}{ops:Array Oper}(hm:P.follows .mixedOrders=true)(hok:(okN F.N ops&&(Q9f [] [] [] 0 ops&&Q2b ops))=true)(h:∀K:St→Prop,(∀st',AQ .normal st'→K st')→Q1s P false ops ops.toList st K):Wp P F (.region id ops true) AQ st:=by
 intro a w hr;obtain⟨R',hX,hr⟩:=hr;obtain⟨S,E,h0,hend,htr⟩:=Q4t ops _ _ _ (Q5S _ _ _ (h (AQ .normal) λ_ h=>h));subst h0;have T:Tr P false ops S E:=⟨hr.ok,(λ_ _ _ h=>by have:=(Q77 _).symm.trans h;cases this),λk o ho=>htr k o (by simpa using ho)⟩;simp only[qG]at hok;have hend':AQ .normal (S ops.size):=by simpa using hend
 exact Q8w (rd0:=[]) (by simp) (ds:=[]) (rs:=[]) (J:=0) T hok.1 (sd_nil _) (λh=>absurd rfl h) hok.2.1 hok.2.2 hm hr λR'' a' w' hX' h'=>⟨_,⟨R'',hX.trans hX' (qF _),h'⟩,hend'⟩
end
section
attribute [local simp] Qi QP Qv
def callX(P:Program)(mt:MT)(all:Array Oper)(f:Nat)(az:List AV)(dst:Option Nat)(os:List Oper)(st:St)(K:St→Prop):Prop:=
 callA P mt all f az dst os st K∨∃keep bs res,PurK keep st.hp az bs∧FContract P keep f bs res∧Q38 P mt all os (st.app dst {v:=res}) K
def callB(P:Program)(mt:MT)(all:Array Oper)(f:Nat)(az:List AV)(dst:Option Nat)(os:List Oper)(st:St)(K:St→Prop):Prop:=
 (∃bs res,PurL st.hp az bs∧Contract P f bs res∧Q38 P mt all os (st.app dst (unk st.n res)) K)∨∃keep bs res,PurK keep st.hp az bs∧FContract P keep f bs res∧Q38 P mt all os (st.app dst {v:=res}) K
def Q7l(P:Program)(mt:MT)(all:Array Oper)(az:List AV)(dst:Option Nat)(os:List Oper)(st:St)(K:St→Prop):AV→Prop
 | .fn f caps=>callX P mt all f (az++caps) dst os st K
 | .bnd f rs=>callB P mt all f (rs++az) dst os st K
 |_=>False
def callI(P:Program)(mt:MT)(all:Array Oper)(F:Option Nat)(az:List AV)(dst:Option Nat)(os:List Oper)(st:St)(K:St→Prop):Prop:=False
def Q7m(P:Program)(mt:MT)(all:Array Oper)(name:String)(az:List AV)(dst:Option Nat)(os:List Oper)(st:St)(K:St→Prop):AV→Prop
 | .ifc t cs=>callI P mt all (mth P t name) (.agg cs::az) dst os st K
 | .ifs t sz es=>callI P mt all (mth P t name) (.lst true sz es::az) dst os st K
 |_=>False
def mkI(t:TypeId):Bool→Bool→AV→Option (Prop×Eff)
 |true,_,.agg cs=>some (True,{v:=.ifc t cs})
 |_,true,.lst _ sz es=>some (True,{v:=.ifs t sz es})
 |_,_,_=>none
def asB(t sz:Nat)(es:List (List AV)):Bool→Option (Prop×Eff)
 |true=>some (True,{v:=.tup [.ifs t sz es,.val (.bool true)]})
 |false=>none
def asA(P:Program)(s:TypeId):Bool→AV→Option (Prop×Eff)
 |true,.ifs t sz es=>asB t sz es (tas P s t)
 |_,_=>none
def inZ(fz:List Nat):Option Nat→Bool
 |some d=>fz.contains d
 |none=>false
def Q9c(P:Program)(et:Option TypeId)(l c:AV)(n:Nat):Option (Prop×Eff):=
 match et with
 |some e=>Q5h (some (((elm P e).bind (tyi P)).getD ⟨false,1,8,[]⟩)) (tyi P e) l c n
 |none=>none
def opX(P:Program)(fz:List Nat)(dst:Option Nat)(op:Op)(ev:Operand→AV)(h:HP)(n:Nat):Option (Prop×Eff):=
 match op with
 | .box t x=>bif inZ fz dst then boxr (ev x)else boxv (ev x) n
 | .call ⟨.builtin .append,⟨[s,x]⟩,⟨[t,u]⟩⟩=>match elm P t with
  |some e=>if t=u then(bif inZ fz dst then appM (tyi P e) (ev s) (ev x) h n else Q30 (tyi P e) (ev s) (ev x) h n)else none
  |none=>none
 | .call ⟨.builtin .len,⟨[x]⟩,⟨[t]⟩⟩=>bif inZ fz dst then lenm (mty P t) (Q3X h (ev x))else match elm P t with
  |some _=>lenv (ev x)
  |none=>none
 | .makeSlice t l c=>bif inZ fz dst then Q9c P (elm P t) (ev l) (ev c) n else match elm P t with
  |some e=>Q5g (tyi P e) (ev l) (ev c) n
  |none=>none
 | .makeFunc (.func f) ⟨[]⟩ caps=>some (True,{v:=.fn f (caps.toList.map ev)})
 | .makeInterface t x=>mkI t (sty P t) (slt P t) (ev x)
 | .typeAssert x _ s ok=>asA P s ok (ev x)
 | .makeFunc (.func f) ⟨r::rs⟩ ⟨[]⟩=>some (True,{v:=.bnd f ((r::rs).map ev)})
 | .convert s d x=>bif inZ fz dst then convS (byS P s d) h (ev x)else Q6P (intk P s) (intk P d) (ev x)
 | .slice t x none (some y) (some z)=>match elm P t with
  |some e=>Q3P (tyi P e) h (ev x) (ev y) (ev z)
  |none=>none
 | .makeMap t none=>makv (mty P t) n
 | .lookup t x k ok=>Q5V (mty P t) (Q3X h (ev x)) (ev k) ok
 | .mapUpdate t x k y=>updv (mty P t) h (ev x) (ev k) (ev y)
 |op=>opF P op ev h n
theorem Q9i{P:Program}{mt:MT}{fz:List Nat}{dst:Option Nat}{op:Op}{ev:Operand→AV}{h:HP}{n:Nat}{c:Prop}{e:Eff}(hx:opX P fz dst op ev h n=some (c,e))(hc:c):AOp P mt op ev h n e:=by
 unfold opX at hx;split at hx
 ·rename_i t x;cases hz:inZ fz dst with
  |true=>rw[hz]at hx;exact .boxr rfl hx
  |false=>rw[hz]at hx;exact .blt hx hc
 ·rename_i s x t u;split at hx
  ·rename_i e0 hel;split at hx
   ·rename_i htu;subst htu;cases hz:inZ fz dst with
    |true=>rw[hz]at hx;exact .appM rfl hel hx hc
    |false=>
     rw[hz]at hx;refine .blt (c:=c) ?_ hc;simp only[opF,bltF,hel,if_true];exact hx
   cases hx
  cases hx
 ·rename_i x t;cases hz:inZ fz dst with
  |true=>rw[hz]at hx;exact .mapo hx hc
  |false=>rw[hz]at hx;exact .blt hx hc
 ·rename_i t l cc;cases hz:inZ fz dst with
  |true=>
   rw[hz]at hx;simp only[cond_true]at hx;unfold Q9c at hx;split at hx
   ·rename_i et hel;exact .mkz rfl hel hx hc
   cases hx
  |false=>rw[hz]at hx;exact .blt hx hc
 ·simp only[qA,qC]at hx;obtain⟨_,rfl⟩:=hx;exact .mkf rfl
 ·rename_i t x;unfold mkI at hx;split at hx
  ·rename_i hs hx2;simp only[qA,qC]at hx;obtain⟨_,rfl⟩:=hx;exact .mki rfl hs hx2
  ·rename_i hs hx2;simp only[qA,qC]at hx;obtain⟨_,rfl⟩:=hx;exact .mkis rfl hs hx2
  cases hx
 ·rename_i x xt s ok;unfold asA at hx;split at hx
  ·rename_i t sz es hx2;unfold asB at hx;split at hx
   ·rename_i hs;simp only[qA,qC]at hx;obtain⟨_,rfl⟩:=hx;exact .tas rfl hs hx2
   cases hx
  cases hx
 ·simp only[qA,qC]at hx;obtain⟨_,rfl⟩:=hx;exact .mkb rfl
 ·rename_i s d x;cases hz:inZ fz dst with
  |true=>
   rw[hz]at hx;obtain⟨e2,id,ns,h1,h2,h3,rfl⟩:=convS_eq hx hc;exact .cvs rfl h1 h2 h3
  |false=>rw[hz]at hx;exact .blt hx hc
 ·split at hx
  ·rename_i et hel;exact .sl3 rfl hel hx hc
  cases hx
 ·exact .mapo hx hc
 ·exact .mapo hx hc
 ·exact .mapo hx hc
 exact .blt hx hc
def mpxA(P:Program)(mt:MT)(all:Array Oper)(op:Op)(dst:Option Nat)(os:List Oper)(st:St)(K:St→Prop):Prop:=
 ∃e,Q4I op=true∧MpOp P op st.ev st.hp st.n e∧Q38 P mt all os (st.app dst e) K
def semA(P:Program)(mt:MT)(all:Array Oper)(op:Op)(dst:Option Nat)(os:List Oper)(st:St)(K:St→Prop):Prop:=
 ((mt.on&&wrM mt op)=true∧∃e,SemOp P op st.ev st.hp st.n e∧Q38 P mt all os (st.app dst e) K)∨mpxA P mt all op dst os st K
def stoZ(P:Program)(mt:MT)(all:Array Oper)(op:Op)(t:TypeId)(av xv:AV)(dst:Option Nat)(os:List Oper)(st:St)(K:St→Prop):Prop:=stoA P mt all t av xv dst os st K∨semA P mt all op dst os st K
def Q57(P:Program)(mt:MT)(fz:List Nat)(all:Array Oper)(os:List Oper)(K R:St→Prop)(dst:Option Nat)(st:St)(op:Op):Prop:=
 match op with
 | .call ⟨.value x,args,_⟩=>Q7l P mt all (args.toList.map st.ev) dst os st K (st.ev x)
 | .call ⟨.invoke x name,args,_⟩=>Q7m P mt all name (args.toList.map st.ev) dst os st K (st.ev x)
 | .store t a x=>Q56 R (stoZ P mt all (.store t a x) t (st.ev a) (st.ev x) dst os st K) dst st (Q3w (tyi P t) (st.ev a) (st.ev x) st.hp)
 | .call ⟨.builtin .append,args,ts⟩=>Q56 R (semA P mt all (.call ⟨.builtin .append,args,ts⟩) dst os st K) dst st (opX P fz dst (.call ⟨.builtin .append,args,ts⟩) st.ev st.hp st.n)
 | .lookup t x k ok=>Q56 R (semA P mt all (.lookup t x k ok) dst os st K) dst st (Q5V (mty P t) (Q3X st.hp (st.ev x)) (st.ev k) ok)
 | .mapUpdate t x k y=>Q56 R (semA P mt all (.mapUpdate t x k y) dst os st K) dst st (updv (mty P t) st.hp (st.ev x) (st.ev k) (st.ev y))
 | .call ⟨.builtin .clear,args,ts⟩=>semA P mt all (.call ⟨.builtin .clear,args,ts⟩) dst os st K
 | .mapEntry t x k=>semA P mt all (.mapEntry t x k) dst os st K
 | .entryStore t x s y=>semA P mt all (.entryStore t x s y) dst os st K
 |op=>Q6j R dst st (opX P fz dst op st.ev st.hp st.n)
def Q8h(P:Program)(mt:MT)(fz:List Nat)(all:Array Oper)(os:List Oper)(K R:St→Prop)(dst:Option Nat)(st:St)(op:Op)(t:Nat)(want:Bool):AV→Prop
 | .val (.bool b)=>(b=want→Q57 P mt fz all os K R dst (st.put t (.val (.bool want))) op)∧(b= !want→R ((st.put t (.val (.bool !want))).app dst {v:=.tup []}))
 | .tup []=>R (st.app dst {v:=.tup []})
 |_=>False
def Q6W(P:Program)(mt:MT)(fz:List Nat)(all:Array Oper)(os:List Oper)(K R:St→Prop)(dst:Option Nat)(st:St)(op:Op)(want:Bool):Option Nat→Prop
 |some t=>Q8h P mt fz all os K R dst st op t want (st.get t)
 |none=>False
def runX(P:Program)(mt:MT)(fz:List Nat)(all:Array Oper):List Oper→St→(St→Prop)→Prop
 |[],st,K=>K st
 |o::os,st,K=>match o.guard with
  |none=>Q57 P mt fz all os K (λst'=>runX P mt fz all os st' K) o.dst st o.op
  |some (j,want)=>Q6W P mt fz all os K (λst'=>runX P mt fz all os st' K) o.dst st o.op want ((all[j]?).bind (·.dst))
theorem goX_one{P:Program}{mt:MT}{fz:List Nat}{all:Array Oper}{o:Oper}{os:List Oper}{st:St}{K R:St→Prop}(hw:Q2f all o st=some true)(ih:∀st',R st'→Q38 P mt all os st' K)(h:Q57 P mt fz all os K R o.dst st o.op):Q38 P mt all (o::os) st K:=by
 refine .inl ⟨hw,?_⟩;unfold Q57 at h;split at h
 ·rename_i x args ts ho;unfold Q7l at h;split at h
  ·rename_i f caps hx;rcases h with(⟨bs,res,h1,h2,h3⟩|⟨h0,args,ms,res,m,Pt,sets,dels,h1,h2,h3,h4,h5,h6⟩|⟨h0,e,h1,h2⟩)|⟨keep,bs,res,h1,h2,h3⟩
   ·exact⟨_,.call ho rfl hx h1 h2,h3⟩
   ·exact⟨_,.mcall (Q5J h0 ho hx) ho rfl hx h1 h2 h3 h4 h5,h6⟩
   ·exact⟨_,.icall (Q5J h0 ho hx) ho rfl hx h1,h2⟩
   exact⟨_,.fcall ho rfl hx h1 h2,h3⟩
  ·rename_i f rs hx;rcases h with⟨bs,res,h1,h2,h3⟩|⟨keep,bs,res,h1,h2,h3⟩
   ·exact⟨_,.callb ho rfl hx h1 h2,h3⟩
   exact⟨_,.fcallb ho rfl hx h1 h2,h3⟩
  exact h.elim
 ·rename_i x name args ts ho;unfold Q7m at h;split at h
  ·rename_i t cs hx;exact h.elim
  ·rename_i t sz es hx;exact h.elim
  exact h.elim
 ·rename_i t a x ho;unfold Q56 at h;split at h
  ·rename_i c e he;exact⟨e,.blt (by rw[ho];exact he) h.1,ih _ h.2⟩
  rcases h with(⟨ty,id,i,k,b,sz,es,ds,dels,h1,h2,h3,h4,h5⟩|⟨ty,id,i,az,bs,sz,es,ds,dels,h1,h2,h3,h3',h4,h5⟩)|⟨h0,e,h1,h2⟩|⟨e,h0,h1,h2⟩
  ·exact⟨_,.sto ho h1 h2 h3 h4,h5⟩
  ·exact⟨_,.stg ho h1 h2 h3 h3' h4,h5⟩
  ·exact⟨e,.sem (by rw[ho];exact h0) (by rw[ho];exact h1),h2⟩
  exact⟨e,.mpx (by rw[ho];exact h0) (by rw[ho];exact h1),h2⟩
 ·rename_i args ts ho;unfold Q56 at h;split at h
  ·rename_i c e he;exact⟨e,Q9i (fz:=fz) (dst:=o.dst) (by rw[ho];exact he) h.1,ih _ h.2⟩
  rcases h with⟨h0,e,h1,h2⟩|⟨e,h0,h1,h2⟩
  ·exact⟨e,.sem (by rw[ho];exact h0) (by rw[ho];exact h1),h2⟩
  exact⟨e,.mpx (by rw[ho];exact h0) (by rw[ho];exact h1),h2⟩
 ·rename_i t x k ok ho;unfold Q56 at h;split at h
  ·rename_i c e he;exact⟨e,Q9i (fz:=fz) (dst:=o.dst) (by rw[ho];exact he) h.1,ih _ h.2⟩
  rcases h with⟨h0,e,h1,h2⟩|⟨e,h0,h1,h2⟩
  ·exact⟨e,.sem (by rw[ho];exact h0) (by rw[ho];exact h1),h2⟩
  exact⟨e,.mpx (by rw[ho];exact h0) (by rw[ho];exact h1),h2⟩
 ·rename_i t x k y ho;unfold Q56 at h;split at h
  ·rename_i c e he;exact⟨e,Q9i (fz:=fz) (dst:=o.dst) (by rw[ho];exact he) h.1,ih _ h.2⟩
  rcases h with⟨h0,e,h1,h2⟩|⟨e,h0,h1,h2⟩
  ·exact⟨e,.sem (by rw[ho];exact h0) (by rw[ho];exact h1),h2⟩
  exact⟨e,.mpx (by rw[ho];exact h0) (by rw[ho];exact h1),h2⟩
 ·rename_i args ts ho;rcases h with⟨h0,e,h1,h2⟩|⟨e,h0,h1,h2⟩
  ·exact⟨e,.sem (by rw[ho];exact h0) (by rw[ho];exact h1),h2⟩
  exact⟨e,.mpx (by rw[ho];exact h0) (by rw[ho];exact h1),h2⟩
 ·rename_i t x k ho;rcases h with⟨h0,e,h1,h2⟩|⟨e,h0,h1,h2⟩
  ·exact⟨e,.sem (by rw[ho];exact h0) (by rw[ho];exact h1),h2⟩
  exact⟨e,.mpx (by rw[ho];exact h0) (by rw[ho];exact h1),h2⟩
 ·rename_i t x s y ho;rcases h with⟨h0,e,h1,h2⟩|⟨e,h0,h1,h2⟩
  ·exact⟨e,.sem (by rw[ho];exact h0) (by rw[ho];exact h1),h2⟩
  exact⟨e,.mpx (by rw[ho];exact h0) (by rw[ho];exact h1),h2⟩
 unfold Q6j at h;split at h
 ·rename_i c e he;exact⟨e,Q9i he h.1,ih _ h.2⟩
 exact h.elim
theorem Q3H{P:Program}{mt:MT}{fz:List Nat}{all:Array Oper}:∀(os:List Oper) (st:St) (K:St→Prop),runX P mt fz all os st K→Q38 P mt all os st K:=by
 intro os
 induction os with
 |nil=>intro st K h;exact h
 |cons o os ih=>
  intro st K h;unfold runX at h;split at h
  ·rename_i hg;exact goX_one (by simp[Q2f,hg]) (λst'=>ih st' K) h
  rename_i j want hg;unfold Q6W at h;split at h
  ·rename_i t ht;unfold Q8h at h;split at h
   ·rename_i b hb;have hput:∀b',b=b'→st.put t (.val (.bool b'))=st:=(by rintro _ rfl;exact St.put_get hb (by simp));obtain⟨h1,h2⟩:=h
    by_cases hbw:b=want
    ·have h1:=h1 hbw;rw[hput _ hbw]at h1;exact goX_one (by simp only[Q2f,hg,ht,hb,hbw,beq_self_eq_true]) (λst'=>ih st' K) h1
    have hb':b= !want:=(by cases b<;>cases want<;>simp_all);have h2:=h2 hb';rw[hput _ hb']at h2;refine .inr ⟨?_,ih _ _ h2⟩;have:(b==want)=false:=(by simpa using hbw);simp only[Q2f,hg,ht,hb,this]
   ·rename_i htt;refine .inr ⟨?_,ih _ _ h⟩;simp only[Q2f,hg,ht,htt]
   exact h.elim
  exact h.elim
section
variable {P:Program}{mt:MT}{fz:List Nat}{all:Array Oper}{f:Nat}{az bs:List AV}{res:AV}{dst:Option Nat}{os:List Oper}{st:St}{K:St→Prop}
theorem QL(hc:Contract P f bs res)(hp:PurL st.hp az bs)(h:runX P mt fz all os (st.app dst (unk st.n res)) K):callX P mt all f az dst os st K:=.inl (.inl ⟨bs,res,hp,hc,Q3H _ _ _ h⟩)
theorem Q7n(keep:Bool)(hc:FContract P keep f bs res)(hp:PurK keep st.hp az bs)(h:runX P mt fz all os (st.app dst {v:=res}) K):callX P mt all f az dst os st K:=.inr ⟨keep,bs,res,hp,hc,Q3H _ _ _ h⟩
theorem QG{e:Eff}(hc:ICon P f az st.hp st.n e)(h:runX P mt fz all os (st.app dst e) K)(hm:mt.may f=true:=by rfl):callX P mt all f az dst os st K:=.inl (.inr (.inr ⟨hm,e,hc,Q3H _ _ _ h⟩))
theorem PurK.ofN{h:HP}(hp:PurL (λ_=>none) az bs):PurK true h az bs:=hp
end
theorem w_runX{P:Program}{F:Fx}{AQ:Exit→St→Prop}{st:St}{id:Nat}{ops:Array Oper}{d:Bool}(fz:List Nat)(hm:P.follows .mixedOrders=true)(hok:(okN F.N ops&&(!d||(Q4N false ops&&Q2b ops)))=true)(h:∀K:St→Prop,(∀st',AQ .normal st'→K st')→runX P false fz ops ops.toList st K):Wp P F (.region id ops d) AQ st:=
 Q7g hm hok λK hK=>Q3H _ _ _ (h K hK)
theorem Q18{P:Program}{F:Fx}{AQ:Exit→St→Prop}{st:St}{id:Nat}{ops:Array Oper}{d:Bool}(fz:List Nat)(hm:P.follows .mixedOrders=true)(hok:(okN F.N ops&&(!d||(Q4N true ops&&Q2b ops)))=true)(h:∀K:St→Prop,(∀st',AQ .normal st'→K st')→runX P true fz ops ops.toList st K):Wp P F (.region id ops d) AQ st:=
 Q7g hm hok λK hK=>Q3H _ _ _ (h K hK)
theorem w_runXQ{P:Program}{F:Fx}{AQ:Exit→St→Prop}{st:St}{id:Nat}{ops:Array Oper}{d:Bool}(lk:Bool)(fz ro rd0 rd:List Nat)(hrd:∀t∈rd0,RoV (st.get t))(hm:P.follows .mixedOrders=true)(hok:(okN F.N ops&&(!d||(Q4N ⟨true,ro,lk,rd,false⟩ ops&&Q2b ops))&&rdChk rd0 rd ops)=true)(h:∀K:St→Prop,(∀st',AQ .normal st'→K st')→runX P ⟨true,ro,lk,rd,false⟩ fz ops ops.toList st K):Wp P F (.region id ops d) AQ st:=
 Q84 rd0 hrd (qG _ _▸hok:_∧_).2 hm (qG _ _▸hok:_∧_).1 λK hK=>Q3H _ _ _ (h K hK)
def rE(P:Program)(mt:MT)(fz:List Nat)(all:Array Oper)(os:List Oper)(dst:Option Nat)(st:St)(K:St→Prop)(x:Option (Prop×Eff)):Prop:=Q6j (λst'=>runX P mt fz all os st' K) dst st x
def rS(P:Program)(mt:MT)(fz:List Nat)(all:Array Oper)(os:List Oper)(dst:Option Nat)(st:St)(K:St→Prop)(op:Op)(t:TypeId)(av xv:AV)(x:Option (Prop×Eff)):Prop:=Q56 (λst'=>runX P mt fz all os st' K) (stoZ P mt all op t av xv dst os st K) dst st x
def rL(P:Program)(mt:MT)(fz:List Nat)(all:Array Oper)(os:List Oper)(dst:Option Nat)(st:St)(K:St→Prop)(op:Op)(x:Option (Prop×Eff)):Prop:=Q56 (λst'=>runX P mt fz all os st' K) (semA P mt all op dst os st K) dst st x
def rO(P:Program)(mt:MT)(fz:List Nat)(all:Array Oper)(os:List Oper)(dst:Option Nat)(st:St)(K:St→Prop)(op:Op):Prop:=Q57 P mt fz all os K (λst'=>runX P mt fz all os st' K) dst st op
def gE(P:Program)(mt:MT)(fz:List Nat)(all:Array Oper)(os:List Oper)(dst:Option Nat)(st:St)(K:St→Prop)(op:Op)(t:Nat)(want:Bool)(x:AV):Prop:=Q8h P mt fz all os K (λst'=>runX P mt fz all os st' K) dst st op t want x
def gT(P:Program)(mt:MT)(fz:List Nat)(all:Array Oper)(os:List Oper)(dst:Option Nat)(st:St)(K:St→Prop)(op:Op)(want:Bool)(x:Option Nat):Prop:=Q6W P mt fz all os K (λst'=>runX P mt fz all os st' K) dst st op want x
section
variable {P:Program}{mt:MT}{fz:List Nat}{all:Array Oper}{os:List Oper}{dst:Option Nat}{st:St}{K:St→Prop}{op:Op}{ty:TypeId}{pos:String}{af:Array Edge}
@[simp] theorem rE_some{c:Prop}{e:Eff}:rE P mt fz all os dst st K (some (c,e))=(c∧runX P mt fz all os (st.app dst e) K):=rfl
@[simp] theorem callIX_ifc{name:String}{t:Nat}{cs az:List AV}:Q7m P mt all name az dst os st K (.ifc t cs)=callI P mt all (mth P t name) (.agg cs::az) dst os st K:=rfl
@[simp] theorem callIX_ifs{name:String}{t sz:Nat}{es:List (List AV)}{az:List AV}:Q7m P mt all name az dst os st K (.ifs t sz es)=callI P mt all (mth P t name) (.lst true sz es::az) dst os st K:=rfl
@[simp] theorem mkI_agg{t:TypeId}{b:Bool}{cs:List AV}:mkI t true b (.agg cs)=some (True,{v:=.ifc t cs}):=rfl
@[simp] theorem asA_ifs{s t sz:Nat}{es:List (List AV)}:asA P s true (.ifs t sz es)=asB t sz es (tas P s t):=rfl
@[simp] theorem asB_true{t sz:Nat}{es:List (List AV)}:asB t sz es true=some (True,{v:=.tup [.ifs t sz es,.val (.bool true)]}):=rfl
@[simp] theorem callEX_bnd{f:Nat}{rs az:List AV}:Q7l P mt all az dst os st K (.bnd f rs)=callB P mt all f (rs++az) dst os st K:=rfl
@[simp] theorem callEX_fn{f:Nat}{caps az:List AV}:Q7l P mt all az dst os st K (.fn f caps)=callX P mt all f (az++caps) dst os st K:=rfl
@[simp] theorem rO_call{x:Operand}{args:Array Operand}{ts:Array TypeId}:rO P mt fz all os dst st K (.call ⟨.value x,args,ts⟩)=Q7l P mt all (args.toList.map st.ev) dst os st K (st.ev x):=rfl
@[simp] theorem rO_move{x}:rO P mt fz all os dst st K (.move x)=runX P mt fz all os (st.app dst {v:=st.ev x}) K:=by simp[rO,Q57,Q6j,opX,opF]
@[simp] theorem rO_assign{x}:rO P mt fz all os dst st K (.assign x)=runX P mt fz all os (st.app dst {v:=st.ev x}) K:=by simp[rO,Q57,Q6j,opX,opF]
@[simp] theorem rO_pick{c a b}:rO P mt fz all os dst st K (.pick c a b)=rE P mt fz all os dst st K (pick (st.ev c) (st.ev a) (st.ev b)):=rfl
@[simp] theorem rO_alloc{e}:rO P mt fz all os dst st K (.alloc e)=rE P mt fz all os dst st K (Vc.alloc (tyi P e) st.n):=rfl
@[simp] theorem rO_box{t x}:rO P mt fz all os dst st K (.box t x)=rE P mt fz all os dst st K (bif inZ fz dst then boxr (st.ev x)else boxv (st.ev x) st.n):=rfl
@[simp] theorem rO_build{t parts}:rO P mt fz all os dst st K (.build t parts)=rE P mt fz all os dst st K (build (tyi P t) (Q42 P t) (parts.toList.map λp=>(p.1,st.ev p.2))):=rfl
@[simp] theorem rO_buildSlice{t len parts}:rO P mt fz all os dst st K (.buildSlice t len parts)=rE P mt fz all os dst st K (elmE (λe=>buildSlice (tyi P e) len (parts.toList.map λp=>(p.1,st.ev p.2)) st.n) (elm P t)):=by
 simp only[rO,rE,Q57,opX,opF];cases elm P t<;>rfl
@[simp] theorem rO_load{t a}:rO P mt fz all os dst st K (.load t a)=rE P mt fz all os dst st K (Q1X (tyi P t) (st.ev a) st.hp st.n):=rfl
@[simp] theorem rO_store{t a x}:rO P mt fz all os dst st K (.store t a x)=rS P mt fz all os dst st K (.store t a x) t (st.ev a) (st.ev x) (Q3w (tyi P t) (st.ev a) (st.ev x) st.hp):=rfl
@[simp] theorem rS_some{op:Op}{t:TypeId}{av xv:AV}{c:Prop}{e:Eff}:rS P mt fz all os dst st K op t av xv (some (c,e))=(c∧runX P mt fz all os (st.app dst e) K):=rfl
@[simp] theorem rS_none{op:Op}{t:TypeId}{av xv:AV}:rS P mt fz all os dst st K op t av xv none=stoZ P mt all op t av xv dst os st K:=rfl
@[simp] theorem rO_nilCheck{x}:rO P mt fz all os dst st K (.nilCheck x)=rE P mt fz all os dst st K (nilCheck (st.ev x)):=rfl
@[simp] theorem rO_binOp{o xt x y yt}:rO P mt fz all os dst st K (.binOp o xt x y yt)=rE P mt fz all os dst st K (Q5K (eqT P xt) o (st.ev x) (st.ev y)):=rfl
@[simp] theorem rO_unOp{o t x}:rO P mt fz all os dst st K (.unOp o t x)=rE P mt fz all os dst st K (unop o (st.ev x)):=rfl
@[simp] theorem rO_convert{s d x}:rO P mt fz all os dst st K (.convert s d x)=rE P mt fz all os dst st K (bif inZ fz dst then convS (byS P s d) st.hp (st.ev x)else Q6P (intk P s) (intk P d) (st.ev x)):=rfl
@[simp] theorem rO_makeSlice{t l c}:rO P mt fz all os dst st K (.makeSlice t l c)=rE P mt fz all os dst st K (bif inZ fz dst then Q9c P (elm P t) (st.ev l) (st.ev c) st.n else elmE (λe=>Q5g (tyi P e) (st.ev l) (st.ev c) st.n) (elm P t)):=by
 simp only[rO,rE,Q57,opX,opF];cases elm P t<;>rfl
@[simp] theorem makeSX_some{e:TypeId}{l c:AV}{n:Nat}:Q9c P (some e) l c n=Q5h (some (((elm P e).bind (tyi P)).getD ⟨false,1,8,[]⟩)) (tyi P e) l c n:=rfl
attribute [simp] Q5h zc
@[simp] theorem rO_fieldAddr{t x k}:rO P mt fz all os dst st K (.fieldAddr t x k)=rE P mt fz all os dst st K (fieldAddr (fld P t k) (st.ev x)):=rfl
@[simp] theorem rO_field{t x k}:rO P mt fz all os dst st K (.field t x k)=rE P mt fz all os dst st K (Q5P (fld P t k) (st.ev x)):=rfl
@[simp] theorem rO_indexAddr{t x i}:rO P mt fz all os dst st K (.indexAddr t x i)=rE P mt fz all os dst st K (elmE (λe=>QY (tyi P e) (st.ev x) (st.ev i) st.hp) (elm P t)):=by
 simp only[rO,rE,Q57,opX,opF];cases elm P t<;>rfl
@[simp] theorem rO_slice{t x lo hi}:rO P mt fz all os dst st K (.slice t x lo hi none)=rE P mt fz all os dst st K (elmE (λe=>Q46 (tyi P e) st.hp (st.ev x) (lo.map st.ev) (hi.map st.ev)) (elm P t)):=by
 simp only[rO,rE,Q57,opX,opF];cases elm P t<;>rfl
@[simp] theorem rO_extract{x k}:rO P mt fz all os dst st K (.extract x k)=rE P mt fz all os dst st K (Q3F (st.ev x) k):=rfl
@[simp] theorem rO_len{x t}:rO P mt fz all os dst st K (.call ⟨.builtin .len,#[x],#[t]⟩)=rE P mt fz all os dst st K (bif inZ fz dst then lenm (mty P t) (Q3X st.hp (st.ev x))else elmE (λ_=>lenv (st.ev x)) (elm P t)):=by
 simp only[rO,rE,Q57,opX];cases inZ fz dst<;>cases elm P t<;>rfl
@[simp] theorem rO_append{x y t u}:rO P mt fz all os dst st K (.call ⟨.builtin .append,#[x,y],#[t,u]⟩)=rL P mt fz all os dst st K (.call ⟨.builtin .append,#[x,y],#[t,u]⟩) (elmE (λe=>if t=u then(bif inZ fz dst then appM (tyi P e) (st.ev x) (st.ev y) st.hp st.n else Q30 (tyi P e) (st.ev x) (st.ev y) st.hp st.n)else none) (elm P t)):=by
 simp only[rO,rL,Q57,opX];cases elm P t<;>rfl
@[simp] theorem rO_min{xs ts}:rO P mt fz all os dst st K (.call ⟨.builtin .min,xs,ts⟩)=rE P mt fz all os dst st K (Q4r (λa b=>if b<a then b else a) (xs.toList.map st.ev)):=rfl
@[simp] theorem rO_max{xs ts}:rO P mt fz all os dst st K (.call ⟨.builtin .max,xs,ts⟩)=rE P mt fz all os dst st K (Q4r (λa b=>if b>a then b else a) (xs.toList.map st.ev)):=rfl
@[simp] theorem Qa1{t x}:rO P mt fz all os dst st K (.makeInterface t x)=rE P mt fz all os dst st K (mkI t (sty P t) (slt P t) (st.ev x)):=rfl
@[simp] theorem rO_typeAssert{x xt s ok}:rO P mt fz all os dst st K (.typeAssert x xt s ok)=rE P mt fz all os dst st K (asA P s ok (st.ev x)):=rfl
@[simp] theorem rO_invoke{x:Operand}{name:String}{args:Array Operand}{ts:Array TypeId}:rO P mt fz all os dst st K (.call ⟨.invoke x name,args,ts⟩)=Q7m P mt all name (args.toList.map st.ev) dst os st K (st.ev x):=rfl
@[simp] theorem rO_makeFuncB{f r}:rO P mt fz all os dst st K (.makeFunc (.func f) #[r] #[])=rE P mt fz all os dst st K (some (True,{v:=.bnd f [st.ev r]})):=rfl
@[simp] theorem rO_makeFunc{f caps}:rO P mt fz all os dst st K (.makeFunc (.func f) #[] caps)=rE P mt fz all os dst st K (some (True,{v:=.fn f (caps.toList.map st.ev)})):=rfl
@[simp] theorem rO_makeMap{t}:rO P mt fz all os dst st K (.makeMap t none)=rE P mt fz all os dst st K (makv (mty P t) st.n):=rfl
@[simp] theorem rL_some{op:Op}{c:Prop}{e:Eff}:rL P mt fz all os dst st K op (some (c,e))=(c∧runX P mt fz all os (st.app dst e) K):=rfl
@[simp] theorem rL_none{op:Op}:rL P mt fz all os dst st K op none=semA P mt all op dst os st K:=rfl
@[simp] theorem rO_mapEntry{t:TypeId}{x k:Operand}:rO P mt fz all os dst st K (.mapEntry t x k)=semA P mt all (.mapEntry t x k) dst os st K:=rfl
@[simp] theorem rO_entryStore{t:TypeId}{x s y:Operand}:rO P mt fz all os dst st K (.entryStore t x s y)=semA P mt all (.entryStore t x s y) dst os st K:=rfl
@[simp] theorem rO_clear{args:Array Operand}{ts:Array TypeId}:rO P mt fz all os dst st K (.call ⟨.builtin .clear,args,ts⟩)=semA P mt all (.call ⟨.builtin .clear,args,ts⟩) dst os st K:=rfl
@[simp] theorem MK.plain_ext{x:XP}:(MK.ext x).plain=false:=rfl
@[simp] theorem rO_lookup{t x k ok}:rO P mt fz all os dst st K (.lookup t x k ok)=rL P mt fz all os dst st K (.lookup t x k ok) (Q5V (mty P t) (Q3X st.hp (st.ev x)) (st.ev k) ok):=rfl
@[simp] theorem rO_mapUpdate{t x k y}:rO P mt fz all os dst st K (.mapUpdate t x k y)=rL P mt fz all os dst st K (.mapUpdate t x k y) (updv (mty P t) st.hp (st.ev x) (st.ev k) (st.ev y)):=rfl
@[simp] theorem runX_nil:runX P mt fz all [] st K=K st:=rfl
@[simp] theorem runX_go:runX P mt fz all (⟨dst,op,ty,pos,af,none⟩::os) st K=rO P mt fz all os dst st K op:=rfl
@[simp] theorem runX_guard{j:Nat}{want:Bool}:runX P mt fz all (⟨dst,op,ty,pos,af,some (j,want)⟩::os) st K=gT P mt fz all os dst st K op want ((all[j]?).bind (·.dst)):=rfl
@[simp] theorem gT_some{want:Bool}{t:Nat}:gT P mt fz all os dst st K op want (some t)=gE P mt fz all os dst st K op t want (st.get t):=rfl
theorem gE_b{want:Bool}{t:Nat}{b:Bool}:gE P mt fz all os dst st K op t want (.val (.bool b))=((b=want→rO P mt fz all os dst (st.put t (.val (.bool want))) K op)∧(b= !want→runX P mt fz all os ((st.put t (.val (.bool !want))).app dst {v:=.tup []}) K)):=rfl
@[simp high] theorem gE_tup{t:Nat}{want:Bool}:gE P mt fz all os dst st K op t want (.tup [])=runX P mt fz all os (st.app dst {v:=.tup []}) K:=rfl
@[simp high] theorem gE_tt{t:Nat}:gE P mt fz all os dst st K op t true (.val (.bool true))=rO P mt fz all os dst (st.put t (.val (.bool true))) K op:=by simp[gE_b]
@[simp high] theorem gE_ff{t:Nat}:gE P mt fz all os dst st K op t false (.val (.bool false))=rO P mt fz all os dst (st.put t (.val (.bool false))) K op:=by simp[gE_b]
@[simp high] theorem gE_tf{t:Nat}:gE P mt fz all os dst st K op t true (.val (.bool false))=runX P mt fz all os ((st.put t (.val (.bool false))).app dst {v:=.tup []}) K:=by simp[gE_b]
@[simp high] theorem gE_ft{t:Nat}:gE P mt fz all os dst st K op t false (.val (.bool true))=runX P mt fz all os ((st.put t (.val (.bool true))).app dst {v:=.tup []}) K:=by simp[gE_b]
theorem Q3b{t:Nat}{want:Bool}{b:Bool}(h1:b=want→rO P mt fz all os dst (st.put t (.val (.bool want))) K op)(h2:b=(!want)→runX P mt fz all os ((st.put t (.val (.bool !want))).app dst {v:=.tup []}) K):
  gE P mt fz all os dst st K op t want (.val (.bool b)):=by
 rw[gE_b];exact⟨h1,h2⟩
end
section
variable {h:HP}{n:Nat}{sz off m id:Nat}{es:List (List AV)}{kd:MK}{me:List (Value × Value)}{z:Value}{t:Tyi}
def srcME(sz off m:Nat):Option Ent→Option (Prop×List (List AV))
 |some (.mix sz' es)=>if sz'=sz then some (off+m≤es.length,(es.drop off).take m)else none
 |_=>none
def baseME(sz id m:Nat):Option Ent→Option (Prop×List (List AV)×List Nat)
 |some (.mix sz' es)=>if sz'=sz then some (m=es.length,es,[id])else none
 |_=>none
def mcontE:Option Ent→Option (MK×List (Value×Value))
 |some (.mapE kd es)=>if kd.plain=true then some (kd,es)else none
 |_=>none
def updE(kd:MK)(id:Nat)(kv v:Value):Option Ent→Option (Prop×Eff)
 |some (.mapE kd' es)=>if kd'=kd∧kd.is kv=true then some (es.length<1099511627776,{v:=.bot,set:=[(id,.mapE kd (mset kv v es))]})else none
 |_=>none
theorem srcM_nil:srcM h sz (.val (.slice none 0 0))=some (True,[]):=rfl
theorem srcM_lst{u:Bool}{sz':Nat}:srcM h sz (.lst u sz' es)=if sz'=sz then some (True,es)else none:=rfl
theorem srcM_E:srcM h sz (.own id off m)=srcME sz off m (h id):=rfl
@[simp] theorem srcME_mix{sz':Nat}:srcME sz off m (some (.mix sz' es))=if sz'=sz then some (off+m≤es.length,(es.drop off).take m)else none:=rfl
theorem baseM_nil:Q6h h sz (.val (.slice none 0 0))=some (True,[],[]):=rfl
theorem baseM_E:Q6h h sz (.own id 0 m)=baseME sz id m (h id):=rfl
@[simp] theorem baseME_mix{sz':Nat}:baseME sz id m (some (.mix sz' es))=if sz'=sz then some (m=es.length,es,[id])else none:=rfl
def appME(t:Tyi)(n:Nat):Option (Prop×List (List AV)×List Nat)→Option (Prop×List (List AV))→Option (Prop×Eff)
 |some (c1,es,i),some (c2,news)=>some ((0<news.length∨i≠[])∧n∉i∧c1∧c2∧(es.length+news.length)*t.bytes≤140737488355328∧es.length+news.length≤140737488355328∧0<t.sz,
    {v:=.own n 0 (es.length+news.length),del:=i,new:=[(n,.mix t.sz (es++news))],cnt:=1})
 |_,_=>none
theorem appM_E{s x:AV}:appM (some t) s x h n=appME t n (Q6h h t.sz s) (srcM h t.sz x):=by
 simp only[appM,appME];cases Q6h h t.sz s with
 |none=>rfl
 |some p=>cases srcM h t.sz x<;>rfl
@[simp] theorem appME_some{c1 c2:Prop}{i:List Nat}{news:List (List AV)}:appME t n (some (c1,es,i)) (some (c2,news))=some ((0<news.length∨i≠[])∧n∉i∧c1∧c2∧(es.length+news.length)*t.bytes≤140737488355328∧es.length+news.length≤140737488355328∧0<t.sz,
    {v:=.own n 0 (es.length+news.length),del:=i,new:=[(n,.mix t.sz (es++news))],cnt:=1}):=rfl
theorem mcont_mp:Q3X h (.mp id)=mcontE (h id):=rfl
theorem Q9G:Q3X h (.cmap kd me)=some (kd,me):=rfl
@[simp] theorem mcontE_map:mcontE (some (.mapE kd me))=if kd.plain=true then some (kd,me)else none:=rfl
theorem Q9D{kd':MK}{kv:Value}{ok:Bool}:Q5V (some (kd,z)) (some (kd',me)) (.val kv) ok=if kd'=kd∧kd.is kv=true then
   some (True,{v:=bif ok then .tup [.val ((Q2x kv me).getD z),.val (.bool (Q2x kv me).isSome)]else .val ((Q2x kv me).getD z)})else none:=rfl
theorem lookv_agg{kd':MK}{az:List AV}{ok:Bool}:Q5V (some (kd,z)) (some (kd',me)) (.agg az) ok=(Qc az).elim none λl=>if kd'=kd∧kd.is (.agg (l.map (Value.int .i64)).toArray)=true then
   some (True,{v:=bif ok then .tup [.val ((Q2x (.agg (l.map (Value.int .i64)).toArray) me).getD z),.val (.bool (Q2x (.agg (l.map (Value.int .i64)).toArray) me).isSome)]else .val ((Q2x (.agg (l.map (Value.int .i64)).toArray) me).getD z)})else none:=by
 simp only[Q5V,keyV];cases Qc az<;>rfl
theorem updv_agg{az:List AV}{v:Value}:updv (some (kd,z)) h (.mp id) (.agg az) (.val v)=(Qc az).elim none λl=>updE kd id (.agg (l.map (Value.int .i64)).toArray) v (h id):=by
 simp only[updv,keyV];cases Qc az<;>rfl
theorem updv_mp{kv v:Value}:updv (some (kd,z)) h (.mp id) (.val kv) (.val v)=updE kd id kv v (h id):=rfl
@[simp] theorem updE_map{kd':MK}{kv v:Value}:updE kd id kv v (some (.mapE kd' me))=if kd'=kd∧kd.is kv=true then some (me.length<1099511627776,{v:=.bot,set:=[(id,.mapE kd (mset kv v me))]})else none:=rfl
theorem makv_some:makv (some (kd,z)) n=some (True,{v:=.mp n,new:=[(n,.mapE kd [])],cnt:=1}):=rfl
theorem lenm_some{p:MK×Value}{kd':MK}:lenm (some p) (some (kd',me))=some (True,{v:=.val (.int .i64 me.length)}):=rfl
end
theorem boxr_if{x:AV}:boxr x=if x.cells.all AV.ro&&x.shr then some (True,{v:=.rptr x.cells})else none:=rfl
attribute [simp] srcM_nil srcM_lst srcM_E baseM_nil baseM_E appM_E mcont_mp Q9G Q9D updv_mp lookv_agg updv_agg makv_some lenm_some boxr_if inZ AV.ro AV.ro1 AV.shr MK.is
attribute [simp] rl
def Em{α β:Type}(ek:α→Value)(ev:β→Value)(xs:List (α×β)):List (Value×Value):=xs.map λp=>(ek p.1,ev p.2)
def Q6a{α β:Type}[DecidableEq α](k:α):List (α×β)→Option β
 |[]=>none
 |(a,v)::r=>if a=k then some v else Q6a k r
def tset{α β:Type}[DecidableEq α](k:α)(v:β):List (α×β)→List (α×β)
 |[]=>[(k,v)]
 |(a,x)::r=>if a=k then(a,v)::r else(a,x)::tset k v r
theorem mset_Em{α β:Type}[DecidableEq α]{ek:α→Value}{ev:β→Value}(hi:∀a b,ek a=ek b→a=b)(k:α)(v:β):∀xs:List (α×β),mset (ek k) (ev v) (Em ek ev xs)=Em ek ev (tset k v xs):=by
 intro xs
 induction xs with
 |nil=>rfl
 |cons p r ih=>
  obtain⟨a,x⟩:=p;simp only[Em,qP,mset,tset]
  by_cases h:a=k
  ·subst h;simp
  rw[if_neg (λh'=>h (hi _ _ h')),if_neg h];simp only[qP];have:mset (ek k) (ev v) (r.map λp=>(ek p.1,ev p.2))=(tset k v r).map λp=>(ek p.1,ev p.2):=ih;rw[this]
def vI(x:Int):Value:=.int .i64 x
def vB(x:Bool):Value:=.bool x
def Mib(xs:List (Int×Bool)):List (Value×Value):=Em vI vB xs
theorem vI_inj(a b:Int)(h:vI a=vI b):a=b:=by cases h;rfl
@[simp] theorem Mib_nil:Mib []=[]:=rfl
@[simp] theorem Mib_length(xs:List (Int×Bool)):(Mib xs).length=xs.length:=by simp[Mib,Em]
@[simp] theorem set_Mib(k:Int)(v:Bool)(xs:List (Int×Bool)):mset (.int .i64 k) (.bool v) (Mib xs)=Mib (tset k v xs):=mset_Em (ev:=vB) vI_inj k v xs
def ownRet:AV→AV→Prop
 | .val _,_=>True
 | .mp _,.cmap _ _=>True
 |_,_=>False
structure RetF(keep:Bool)(ts:List Nat)(st:St)(rs:List AV):Prop where
 len:rs.length=ts.length
 pur:∀k,k<ts.length→PurTo st.hp (st.get (ts.getD k 0)) (rs.getD k .bot)
 own:keep=false→∀k,k<ts.length→ownRet (st.get (ts.getD k 0)) (rs.getD k .bot)
theorem RetF.nil{keep:Bool}{st:St}:RetF keep [] st []:=⟨rfl,λk hk=>by simp at hk,λ_ k hk=>by simp at hk⟩
end
section
attribute [local simp] Qi QP Qv
theorem wp_wk{P:Program}{F:Fx}{c:Code}{AQ:Exit→St→Prop}{st:St}(h:Wp P F c (λe st=>∃st',Wk F st st'∧AQ e st') st):Wp P F c AQ st:=by
 intro a w hr;refine wp_mono (h a w hr) λe a w he=>?_;obtain⟨st1,h1,st2,h2,h3⟩:=he;exact⟨st2,h2 a w h1,h3⟩
def iretWQ(F:Fx)(ts:List Nat)(H:List (Nat×Ent))(n:Nat)(e:Eff):Exit→St→Prop
 | .normal,st=>∃st',Wk F st st'∧IRet ts H n e st'
 | .ret,st=>∃st',Wk F st st'∧IRet ts H n e st'
 |_,_=>False
theorem Q1P{P:Program}{f:Nat}{fn:Func}{c:Code}{az:List AV}{ts:List Nat}{H:List (Nat×Ent)}{n:Nat}{e:Eff}(hf:P.funcs[f]? =some fn)(hb:fn.body=some c)(hrt:resT fn.results=some ts)(hname:(fn.name=="runtime.NumGoroutine")=false)(hN:az.length≤fn.ntmps)(hH:∀p∈H,p.1<n)(hfine:e.fine n)(hnew:∀id,n≤id→id<n+e.cnt→id∈e.new.map qE)(h:∀F:Fx,F.N=fn.ntmps→F.pins=n→Wp P F c (iretWQ F ts H n e) ⟨Q39 0 az,H,n⟩):ICon P f az (λid=>look id H) n e:=by
 refine Q9x hf hb hrt hname hN hH hfine hnew λF h1 h2=>wp_wk (Wp.mono ?_ (h F h1 h2));intro ex st hq;cases ex with
 |normal=>exact hq
 |ret=>exact hq
 |_=>exact hq.elim
theorem iw_r{F:Fx}{ts:List Nat}{H:List (Nat×Ent)}{n:Nat}{e:Eff}{st st':St}(h:Wk F st st')(h2:IRet ts H n e st'):iretWQ F ts H n e .ret st:=⟨st',h,h2⟩
theorem iw_n{F:Fx}{ts:List Nat}{H:List (Nat×Ent)}{n:Nat}{e:Eff}{st st':St}(h:Wk F st st')(h2:IRet ts H n e st'):iretWQ F ts H n e .normal st:=⟨st',h,h2⟩
structure IRetG(P:Program)(rvs:List ResultVar)(H:List (Nat×Ent))(n:Nat)(e:Eff)(st:St):Prop where
 res:∃az,RGet P st rvs az∧Qt az=e.v
 n:st.n=n+e.cnt
 h:st.h=Q5k e.set (Q4D e.del H)++e.new
def iretGQ(P:Program)(rvs:List ResultVar)(H:List (Nat×Ent))(n:Nat)(e:Eff):Exit→St→Prop
 | .normal,st=>IRetG P rvs H n e st
 | .ret,st=>IRetG P rvs H n e st
 |_,_=>False
theorem res_relV{w:World}{R:Nat→Prop}{ρ:Nat→Option Bk}{vs:List Value}{az:List AV}(h2:vs.length=az.length)(h3:∀k,k<az.length→XRel w R ρ (vs.getD k undef) (az.getD k .bot)):XRel w R ρ (Q2R vs) (Qt az):=by
 have many:∀(vs:List Value) (az:List AV),vs.length=az.length→(∀k,k<az.length→XRel w R ρ (vs.getD k undef) (az.getD k .bot))→XRel w R ρ (.tuple vs.toArray) (.tup az):=by
  intro vs az h2 h3;refine .tup (by simpa using h2) λk hk=>?_;have:=h3 k hk;have hk2:k<vs.length:=by omega
  simpa[qB,hk2]using this
 match vs,az,h2,h3 with
 |[],[],h2,h3=>exact many [] [] h2 h3
 |[v],[a],_,h3=>exact h3 0 (by simp)
 |v::u::r,a::b::s,h2,h3=>exact many _ _ h2 h3
theorem Q8i{P:Program}{f:Nat}{fn:Func}{c:Code}{az:List AV}{rvs:List ResultVar}{H:List (Nat×Ent)}{n:Nat}{e:Eff}(hf:P.funcs[f]? =some fn)(hb:fn.body=some c)(hrt:fn.results=rvs.toArray)(hname:(fn.name=="runtime.NumGoroutine")=false)(hN:az.length≤fn.ntmps)(hH:∀p∈H,p.1<n)(hfine:e.fine n)(hnew:∀id,n≤id→id<n+e.cnt→id∈e.new.map qE)(h:∀F:Fx,F.N=fn.ntmps→F.pins=n→Wp P F c (iretGQ P rvs H n e) ⟨Q39 0 az,H,n⟩):ICon P f az (λid=>look id H) n e:=by
 refine⟨⟨fn,hf,hname,by rw[hb];rfl⟩,λ_=>hfine,λC w g h' vals hag hne hlim W HH hsz hargs=>?_⟩;refine calls_of_wp hf hb ?_
 let C':Ctx:=⟨w,λb=>∃L,g.o b=some L,g.ρ,n⟩
 have hrel:Rel C' g.R fn.ntmps {tmps:=vals++zY (fn.ntmps - vals.size) undef,defers:=[]} w ⟨Q39 0 az,H,n⟩:=by
  refine⟨by simp;omega,rfl,λid x hx=>hH (id,x) (Qg hx),g.o,g.ρ,⟨W.R,λb L hb=>⟨(W.o b L hb).1,.inr ⟨L,hb⟩⟩,rfl,⟨rfl,qF _⟩,rfl,qF _,λb _ _=>rfl⟩,
   HH.grow λid k hk=>(hag id (hlim id k hk)).symm,λt=>?_,hlim,λid _=>rfl,qF _⟩
  simp only[St.get,Q2w]
  by_cases ht:t<az.length
  ·rw[if_pos (by omega)];simp only[yG,zQ];have h2:(vals++zY (fn.ntmps - vals.size) undef).getD t undef=vals.getD t undef:=by
    simp[zJ,show t<vals.size by omega]
   rw[h2];exact hargs t ht
  rw[if_neg (by omega)];exact .bot
 refine Q3T (λex a w' hq=>?_) (h ⟨C',g.R,fn.ntmps,n,rfl⟩ rfl rfl _ w (.of hrel));obtain⟨st,⟨R',hX,hr⟩,hq⟩:=hq;have fin:IRetG P rvs H n e st→a.defers=[]∧∃v,(results fn a.tmps).run P w'= .ok v w'∧∃v' R' o' ρ',Ending.returned v= .returned v'∧RX g.R R' C.w0.heap.size∧WF C w' ⟨R',o',ρ'⟩∧HRel w' ⟨R',o',ρ'⟩ (happ e h')∧(∀id k,g.ρ id=some k→ρ' id=some k)∧
   (∀id k,ρ' id=some k→g.ρ id=some k∨(n≤id∧id<n+e.cnt))∧XRel w' R' ρ' v' e.v∧(∀b,g.R b→w'.heap[b]? =w.heap[b]?):=by
  intro hA;obtain⟨_,hdef,_,o',ρ',W',HH',hx,hlt',hpin⟩:=hr;obtain⟨⟨as',a0,a1⟩,a2,a3⟩:=hA;obtain⟨vs,r1,r2,r3⟩:=Q5G HH' hx a0;have hρ1:∀id,id<n→ρ' id=g.ρ id:=hpin.1;have hcC:∀b,b<C.w0.heap.size→¬C.wrb b→g.o b=none:=by
   intro b hb hw;cases ho:g.o b with
   |none=>rfl
   |some L=>
    rcases(W.o b L ho).2 with h|h
    ·omega
    exact absurd h hw
  have hkeep:∀b,b<w.heap.size→g.o b=none→w'.heap[b]? =w.heap[b]?:=λb hb ho=>W'.keep b hb (by rintro ⟨L,hL⟩;rw[ho]at hL;cases hL);refine⟨hdef,_,Q3d hrt r1,_,R',o',ρ',rfl,⟨hX.1,λb hb=>(hX.2 b hb).imp id (qK W.size)⟩,⟨W'.R,λb L hb=>⟨(W'.o b L hb).1,?_⟩,W'.os.trans W.os,tpt W'.tape W.tape,W'.output.trans W.output,qK W.size W'.size,λb hb hw=>?_⟩,
   HH'.grow λid k hk=>?_,λid k hk=>(hρ1 id (hlim id k hk)).trans hk,λid k hk=>?_,?_,λb hb=>hkeep b (W.R b hb).1 (W.R b hb).2⟩
  ·rcases(W'.o b L hb).2 with h|⟨L',h⟩
   ·exact .inl (qK W.size h)
   exact(W.o b L' h).2
  ·exact(hkeep b (qN hb W.size) (hcC b hb hw)).trans (W.keep b hb hw)
  ·have hid:id<n+e.cnt:=(by rw[←a2];exact hlt' id k hk);have hl:look id st.h=match happ e (λid=>look id H) id with|some x=>some x|none=>look id e.new:=by
    have:=Q2k (st:=⟨[],H,n⟩) none hfine id;simp only[St.app]at this;rw[a3];exact this
   show happ e h' id=look id st.h;rw[hl]
   by_cases hlt:id<n
   ·have hn:look id e.new=none:=by
     cases hq:look id e.new with
     |none=>rfl
     |some x=>have:=(hfine.new _ (Qg hq)).1;simp only at this;omega
    have he:happ e h' id=happ e (λid=>look id H) id:=by
     simp only[happ,hag id hlt]
    rw[he,hn];cases happ e (λid=>look id H) id<;>rfl
   obtain⟨p,hp,hpe⟩:=List.mem_map.1 (hnew id (by omega) hid);have h1:happ e (λid=>look id H) id=none:=by
    simp only[happ];have h2:look id e.set=none:=by
     cases hq:look id e.set with
     |none=>rfl
     |some x=>have:=hfine.sets.2 _ (Qg hq);simp only at this;omega
    have h3:look id H=none:=by
     cases hq:look id H with
     |none=>rfl
     |some x=>have:=hH _ (Qg hq);simp only at this;omega
    rw[h2,h3];simp
   have h2:happ e h' id=h' id:=by
    simp only[happ];have h2:look id e.set=none:=by
     cases hq:look id e.set with
     |none=>rfl
     |some x=>have:=hfine.sets.2 _ (Qg hq);simp only at this;omega
    rw[h2,if_neg];intro hd;have:=hfine.del id hd;omega
   rw[h1,h2];obtain⟨i,x⟩:=p;simp only at hpe;subst hpe;rw[hne _ hp,QQ hfine.nodup hp]
  ·by_cases hlt:id<n
   ·exact .inl ((hρ1 id hlt).symm.trans hk)
   exact .inr ⟨by omega,by rw[←a2];exact hlt' id k hk⟩
  rw[←a1];exact res_relV r2 r3
 cases ex with
 |normal=>exact fin hq
 |ret=>exact fin hq
 |_=>exact hq.elim
def Q8m(P:Program)(F:Fx)(rvs:List ResultVar)(H:List (Nat×Ent))(n:Nat)(e:Eff):Exit→St→Prop
 | .normal,st=>∃st',Wk F st st'∧IRetG P rvs H n e st'
 | .ret,st=>∃st',Wk F st st'∧IRetG P rvs H n e st'
 |_,_=>False
theorem Q5e{P:Program}{f:Nat}{fn:Func}{c:Code}{az:List AV}{rvs:List ResultVar}{H:List (Nat×Ent)}{n:Nat}{e:Eff}(hf:P.funcs[f]? =some fn)(hb:fn.body=some c)(hrt:fn.results=rvs.toArray)(hname:(fn.name=="runtime.NumGoroutine")=false)(hN:az.length≤fn.ntmps)(hH:∀p∈H,p.1<n)(hfine:e.fine n)(hnew:∀id,n≤id→id<n+e.cnt→id∈e.new.map qE)(h:∀F:Fx,F.N=fn.ntmps→F.pins=n→Wp P F c (Q8m P F rvs H n e) ⟨Q39 0 az,H,n⟩):ICon P f az (λid=>look id H) n e:=by
 refine Q8i hf hb hrt hname hN hH hfine hnew λF h1 h2=>wp_wk (Wp.mono ?_ (h F h1 h2));intro ex st hq;cases ex with
 |normal=>exact hq
 |ret=>exact hq
 |_=>exact hq.elim
theorem Q9z{P:Program}{F:Fx}{rvs:List ResultVar}{H:List (Nat×Ent)}{n:Nat}{e:Eff}{st st':St}(h:Wk F st st')(h2:IRetG P rvs H n e st'):Q8m P F rvs H n e .ret st:=⟨st',h,h2⟩
theorem Q9y{P:Program}{F:Fx}{rvs:List ResultVar}{H:List (Nat×Ent)}{n:Nat}{e:Eff}{st st':St}(h:Wk F st st')(h2:IRetG P rvs H n e st'):Q8m P F rvs H n e .normal st:=⟨st',h,h2⟩
def pinsB(n:Nat)(m:List (Nat×Nat)):Bool:=(yB n).all λi=>look i m==some i
theorem pins_ok{n:Nat}{m:List (Nat×Nat)}(h:pinsB n m=true):∀id,id<n→look id m=some id:=by
 intro id hid;unfold pinsB at h;have:=List.all_eq_true.1 h id (List.mem_range.2 hid);simpa using this
theorem Wk.rP{F:Fx}{st st':St}(n:Nat)(m:List (Nat×Nat))(hP:F.pins=n)(hpin:pinsB n m=true)(h:(m.map qE).Nodup∧(m.map zT).Nodup∧(∀p∈m,p.2<st'.n)∧(∀p∈st'.h,p.1<st'.n)∧(∀p∈st'.s,p.2=rl m (st.get p.1)∨p.2= .bot)∧∀p∈st'.h,hhOk m st.h p.1 p.2):Wk F st st':=
 Wk.rel m h.1 h.2.1 (by rw[hP];exact pins_ok hpin) h.2.2.1 h.2.2.2.1 h.2.2.2.2.1 h.2.2.2.2.2
theorem Q5r{e:Eff}{n:Nat}(h:(∀p∈e.new,n≤p.1∧p.1<n+e.cnt)∧(e.new.map qE).Nodup∧(∀x∈e.del,x<n)∧(e.set.map qE).Nodup∧∀p∈e.set,p.1<n):e.fine n:=⟨h.1,h.2.1,h.2.2.1,h.2.2.2⟩
def newB(n cnt:Nat)(l:List Nat):Bool:=(yB cnt).all λi=>l.contains (n+i)
theorem newI{e:Eff}{n:Nat}(h:newB n e.cnt (e.new.map qE)=true):∀id,n≤id→id<n+e.cnt→id∈e.new.map qE:=by
 intro id h1 h2;unfold newB at h;have:=List.all_eq_true.1 h (id - n) (List.mem_range.2 (by omega));rw[show n+(id - n)=id by omega]at this;simpa using this
def roRows(sz:Nat)(es:List (List AV)):Prop:=∀e∈es,e.length=sz∧∀c∈e,AV.ro c=true
end
section
attribute [local simp] Qi QP Qv
def shm(n cnt:Nat):List (Nat×Nat):=(yB cnt).map λi=>(i,n+i)
theorem look_map{n:Nat}:∀(l:List Nat) (i:Nat),look i (l.map λi=>(i,n+i))=if i∈l then some (n+i)else none:=by
 intro l
 induction l with
 |nil=>intro i;simp[look]
 |cons a r ih=>
  intro i;simp only[qP,look,ih,List.mem_cons]
  by_cases h:a=i
  ·subst h;simp
  have:¬i=a:=λq=>h q.symm;simp[h,this]
theorem Q4Q{n cnt i:Nat}:look i (shm n cnt)=if i<cnt then some (n+i)else none:=by
 unfold shm;rw[look_map];simp
theorem shm_fst(n cnt:Nat):((shm n cnt).map qE).Nodup:=by
 have:(shm n cnt).map qE=yB cnt:=by simp[shm,Function.comp_def]
 rw[this];exact yI
theorem shm_snd(n cnt:Nat):((shm n cnt).map zT).Nodup:=by
 have:(shm n cnt).map zT=(yB cnt).map (n+·):=by simp[shm,Function.comp_def]
 rw[this];exact List.Pairwise.map (R:=λa b=>a≠b) _ (λa b h e=>h (by omega)) yI
theorem ro_rel{w:World}{R:Nat→Prop}{ρ ρ':Nat→Option Bk}{v:Value}{a:AV}(h:XRel w R ρ v a)(ha:AV.ro a=true):XRel w R ρ' v a:=by
 exact .r (h.toR ha)
def Q54:Ent→Bool
 | .ali _ _ _ _=>false
 |_=>true
theorem ICon.lift{P:Program}{f:Nat}{vs:List AV}{e e':Eff}{h:HP}{n:Nat}(hc:ICon P f vs (λ_=>none) 0 e)(hro:∀a∈vs,AV.ro a=true)(hs:e.set=[]∧e.del=[])(hs':e'.set=[]∧e'.del=[])(hcnt:e'.cnt=e.cnt)(hv:e'.v=rl (shm n e.cnt) e.v)(hna:∀p∈e.new,Q54 p.2=true)(hnew:∀i,i<e.cnt→∃x y,look i e.new=some x∧rlE (shm n e.cnt) x=some y∧(n+i,y)∈e'.new)(hfine:e'.fine n):ICon P f vs h n e':=by
 refine⟨hc.enters,λ_=>hfine,λC w g h' vals hag hnw hlim W H hsz hargs=>?_⟩;have hf0:=hc.fine (λid x hx=>by cases hx);have W0:WF ⟨w,λ_=>False,λ_=>none,0⟩ w ⟨g.R,λ_=>none,λ_=>none⟩:=⟨λb hb=>⟨(W.R b hb).1,rfl⟩,(λb L hb=>by cases hb),rfl,⟨rfl,qF _⟩,rfl,qF _,λb _ _=>rfl⟩;have H0:HRel w ⟨g.R,λ_=>none,λ_=>none⟩ (λid=>look id e.new):=⟨(λid sz es bk _ hb=>by cases hb),(λid sz es bk _ hb=>by cases hb),(λid c i k sz bk _ hb=>by cases hb),(λid kd es bk _ hb=>by cases hb)⟩;refine(hc.calls _ w _ _ vals (λid hid=>absurd hid (Nat.not_lt_zero _)) (λp hp=>QQ hf0.nodup hp) (λid k hk=>by cases hk) W0 H0 hsz (λk hk=>ro_rel (hargs k hk) (hro _ (by
  rw[qB,qI hk];exact yC hk)))).mono λex w' ⟨v,R',o',ρ',q0,q1,q2,q3,q4,q5,q6,q7⟩=>?_
 rw[QH hs.1 hs.2]at q3;have ho':∀b L,o' b=some L→w.heap.size≤b∧b<w'.heap.size:=λb L hb=>⟨(q2.o b L hb).2.resolve_right id,(q2.o b L hb).1⟩;have hkeep:∀b,b<w.heap.size→w'.heap[b]? =w.heap[b]?:=λb hb=>q2.keep b hb id;have hgo:∀b L,o' b=some L→g.o b=none:=by
  intro b L hb;cases hg:g.o b with
  |none=>rfl
  |some M=>have:=(W.o b M hg).1;have:=(ho' b L hb).1;omega
 have hm2:=shm_snd n e.cnt;have hrρ:∀j bk,rlρ (shm n e.cnt) ρ' j=some bk→∃i,i<e.cnt∧j=n+i∧look i (shm n e.cnt)=some j∧ρ' i=some bk:=by
  intro j bk hj;simp only[rlρ]at hj;split at hj
  ·rename_i i hi;have hl:=Q2M (shm_fst n e.cnt) hi;have hl2:=hl;rw[Q4Q]at hl2;split at hl2
   ·rename_i hlt;simp only[qA]at hl2;exact⟨i,hlt,hl2.symm,hl,hj⟩
   cases hl2
  cases hj
 have hgρ:∀j bk,rlρ (shm n e.cnt) ρ' j=some bk→g.ρ j=none:=by
  intro j bk hj;obtain⟨i,hi,rfl,_⟩:=hrρ j bk hj;cases hg:g.ρ (n+i)with
  |none=>rfl
  |some k=>have:=hlim _ _ hg;omega
 let o2:Nat→Option (List Nat):=λb=>match g.o b with|some L=>some L|none=>rlo (shm n e.cnt) o' b
 let ρ2:Nat→Option Bk:=λid=>match g.ρ id with|some k=>some k|none=>rlρ (shm n e.cnt) ρ' id
 have ho2:∀b L,g.o b=some L→o2 b=some L:=λb L hb=>by simp only[o2,hb]
 have ho3:∀b i M,i<e.cnt→o' b=some (i::M)→o2 b=some ((n+i)::M):=by
  intro b i M hi hb;simp only[o2,hgo b _ hb,rlo,hb,Q4Q,if_pos hi]
 have hρ2:∀id k,g.ρ id=some k→ρ2 id=some k:=λid k hk=>by simp only[ρ2,hk]
 have hρ3:∀id k,rlρ (shm n e.cnt) ρ' id=some k→ρ2 id=some k:=λid k hk=>by simp only[ρ2,hgρ id k hk,hk]
 have hX:∀v a,XRel w' R' ρ' v a→XRel w' R' ρ2 v (rl (shm n e.cnt) a):=λv a hx=>(Q7V hm2 hx).mono (λb hb=>⟨hb,rfl⟩) hρ3;have hent:∀id x bk,h' id=some x→g.ρ id=none→ρ2 id=some bk→∃i y,i<e.cnt∧id=n+i∧ρ' i=some bk∧look i e.new=some y∧rlE (shm n e.cnt) y=some x∧Q54 y=true:=by
  intro id x bk hx hg hb;simp only[ρ2,hg]at hb;obtain⟨i,hi,rfl,_,hr⟩:=hrρ id bk hb;obtain⟨y,z,h1,h2,h3⟩:=hnew i hi;have:=hnw _ h3;simp only at this;rw[this]at hx;cases hx;exact⟨i,y,hi,rfl,hr,h1,h2,hna _ (Qg h1)⟩
 have H1:HRel w' ⟨g.R,o2,g.ρ⟩ h':=H.mono (λb hb=>hkeep b (W.R b hb).1) (λb L hb=>⟨ho2 b L hb,hkeep b (W.o b L hb).1⟩) (λ_ _ hk=>hk) (λid sz es bk _ h1 h2=>by rw[h1]at h2;cases h2) (λid sz es bk _ h1 h2=>by rw[h1]at h2;cases h2)
  (λid c i k sz bk _ h1 h2=>by rw[h1]at h2;cases h2)
 have H2:HRel w' ⟨R',o2,g.ρ⟩ h':=H1.growR q1.1;have H3:HRel w' ⟨R',o2,ρ2⟩ h':=by
  refine H2.mono (λ_ _=>rfl) (λb L hb=>⟨hb,rfl⟩) hρ2 (λid sz es bk he hg hb=>?_) (λid sz es bk he hg hb=>?_) (λid c i k sz bk he hg hb=>?_) (λid kd es bk he hg hb=>?_)
  ·obtain⟨i,y,hi,rfl,hr,h1,h2,h3⟩:=hent id _ bk he hg hb;cases y with
   |mix s2 e2=>
    simp only[rlE,qA,Ent.mix.injEq]at h2;obtain⟨rfl,rfl⟩:=h2;rcases(q3.mix i _ _ bk h1 hr).ex0 with⟨rfl,h0⟩|⟨b,cur,el,us,cpm,p1,p2,p3,p4,p5,p5',p6,p7,p8,p9⟩
    ·exact⟨.inl ⟨rfl,h0⟩⟩
    refine .mk' ⟨b,cur,el,us,cpm,p1,ho3 b i [] hi p2,p3,p4,by rw[Q1q];exact p5,p5',λj hj=>?_,λj l hj hl=>?_,λj l hj hl=>?_,λj l hj hl=>?_⟩
    ·rw[Q1q]at hj;rw[Q4O,QD];exact p6 j hj
    ·rw[Q1q]at hj;exact p7 j l hj hl
    ·rw[Q1q]at hj;exact p8 j l hj hl
    rw[Q1q]at hj;rw[Q4O,Q2m];exact hX _ _ (p9 j l hj hl)
   |row=>simp[rlE]at h2
   |mapE=>simp[rlE]at h2
   |ali=>cases h3
  ·obtain⟨i,y,hi,rfl,hr,h1,h2,h3⟩:=hent id _ bk he hg hb;cases y with
   |mix=>simp[rlE]at h2
   |row s2 e2=>
    simp only[rlE,qA,Ent.row.injEq]at h2;obtain⟨rfl,rfl⟩:=h2;obtain⟨v,hv,hh2⟩:=q3.row i _ _ bk h1 hr;exact⟨v,hv.mono (R':=R') [n+i] λb M hbo=>⟨ho3 b i M hi hbo,rfl⟩,hh2⟩
   |mapE=>simp[rlE]at h2
   |ali=>cases h3
  ·obtain⟨i0,y,hi,rfl,hr,h1,h2,h3⟩:=hent id _ bk he hg hb;cases y with
   |mix=>simp[rlE]at h2
   |row=>simp[rlE]at h2
   |mapE=>simp[rlE]at h2
   |ali=>cases h3
  obtain⟨i,y,hi,rfl,hr,h1,h2,h3⟩:=hent id _ bk he hg hb;cases y with
  |mix=>simp[rlE]at h2
  |row=>simp[rlE]at h2
  |mapE kd2 e2=>
   simp only[rlE,qA,Ent.mapE.injEq]at h2;obtain⟨rfl,rfl⟩:=h2;exact(q3.map i _ _ bk h1 hr).move (λb hb=>⟨hb,rfl⟩) λb M p2=>⟨ho3 b i M hi p2,rfl⟩
  |ali=>cases h3
 refine⟨v,R',o2,ρ2,q0,⟨q1.1,λb hb=>(q1.2 b hb).imp id (qK W.size)⟩,⟨λb hb=>⟨(q2.R b hb).1,?_⟩,λb L hb=>?_,q2.os.trans W.os,tpt q2.tape W.tape,q2.output.trans W.output,qK W.size q2.size,λb hb hw=>(hkeep b (qN hb W.size)).trans (W.keep b hb hw)⟩,by rw[QH hs'.1 hs'.2];exact H3,hρ2,λid k hk=>?_,by rw[hv];exact hX _ _ q6,q7⟩
 ·have h1:o' b=none:=(q2.R b hb).2;show o2 b=none;rcases q1.2 b hb with hg|hg
  ·simp only[o2,show g.o b=none from(W.R b hg).2,rlo,h1]
  have hg':g.o b=none:=by
   cases hq:g.o b with
   |none=>rfl
   |some M=>have:=(W.o b M hq).1;simp only at hg;omega
  simp only[o2,hg',rlo,h1]
 ·have hb':o2 b=some L:=hb;cases hq:g.o b with
  |some M=>exact⟨qN (W.o b M hq).1 q2.size,(W.o b M hq).2⟩
  |none=>
   simp only[o2,hq,rlo]at hb';split at hb'
   ·rename_i x M hx;exact⟨(ho' b _ hx).2,.inl (qK W.size (ho' b _ hx).1)⟩
   cases hb'
 have hk':ρ2 id=some k:=hk;cases hg:g.ρ id with
 |some k2=>simp only[ρ2,hg]at hk';exact .inl hk'
 |none=>
  simp only[ρ2,hg]at hk';obtain⟨i,hi,rfl,_⟩:=hrρ id k hk';exact .inr ⟨by omega,by omega⟩
def rlE'(m:List (Nat×Nat))(x:Ent):Ent:=(rlE m x).getD x
@[simp] theorem rlE'_mix{m:List (Nat×Nat)}{sz:Nat}{es:List (List AV)}:rlE' m (.mix sz es)= .mix sz (rlLL m es):=rfl
@[simp] theorem rlE'_row{m:List (Nat×Nat)}{sz:Nat}{es:List (List AV)}:rlE' m (.row sz es)= .row sz es:=rfl
@[simp] theorem rlE'_map{m:List (Nat×Nat)}{kd:MK}{es:List (Value×Value)}:rlE' m (.mapE kd es)= .mapE kd es:=rfl
theorem ICon.liftL{P:Program}{f:Nat}{vs:List AV}{e e':Eff}{h:HP}{n:Nat}(hc:ICon P f vs (λ_=>none) 0 e)(hro:∀a∈vs,AV.ro a=true)(hs:e.set=[]∧e.del=[])(hs':e'.set=[]∧e'.del=[])(hcnt:e'.cnt=e.cnt)(hv:e'.v=rl (shm n e.cnt) e.v)(hna:∀p∈e.new,Q54 p.2=true)(hcomp:newB 0 e.cnt (e.new.map qE)=true)(hn:e'.new=e.new.map λp=>(n+p.1,rlE' (shm n e.cnt) p.2))(hfine:e'.fine n):ICon P f vs h n e':=by
 refine hc.lift hro hs hs' hcnt hv hna (λi hi=>?_) hfine;have hm:=newI (n:=0) (e:=e) hcomp i (yD _) (by omega);obtain⟨p,hp,rfl⟩:=List.mem_map.1 hm;have hf0:=hc.fine (λid x hx=>by cases hx);refine⟨p.2,rlE' (shm n e.cnt) p.2,QQ hf0.nodup hp,?_,by rw[hn];exact List.mem_map.2 ⟨p,hp,rfl⟩⟩;have:=hna p hp;generalize p.2=x at this;cases x with
 |ali=>cases this
 |_=>rfl
end
section
attribute [local simp] Qi QP Qv
def mxt(m:List (Nat×Nat))(n0 n cnt:Nat):List (Nat×Nat):=m++(yB cnt).map λi=>(n0+i,n+i)
theorem ICon.frame{P:Program}{f:Nat}{as0 az:List AV}{H0:List (Nat×Ent)}{n0:Nat}{e0 e:Eff}{h:HP}{n:Nat}(hc:ICon P f as0 (λid=>look id H0) n0 e0)(m:List (Nat×Nat))(hm1:m.map qE=yB n0)(hm2:(m.map zT).Nodup)(hm3:∀p∈m,p.2<n)(hH0:∀p∈H0,p.1<n0)(hpre:∀p∈m,∃x y,look p.1 H0=some x∧h p.2=some y∧rlE (back m) y=some x∧rlE (mxt m n0 n e0.cnt) x=some y)(has:as0=rlL (back m) az)(hali:∀id,id<n→∀c i k sz,h id=some (.ali c i k sz)→look id (back m)=none∧look c (back m)=none∧c<n∧∃s es,h c=some (.row s es))(hcnt:e.cnt=e0.cnt)(hv:e.v=rl (mxt m n0 n e0.cnt) e0.v)(hset:∀i j,look i m=some j→look j e.set=(look i e0.set).map (rlE' (mxt m n0 n e0.cnt)))(hset2:∀j,(∀i,look i m≠some j)→look j e.set=none)(hdel:∀i j,look i m=some j→(j∈e.del↔i∈e0.del))(hdel2:∀j,(∀i,look i m≠some j)→¬j∈e.del)(hna:(∀p∈e0.set,Q54 p.2=true)∧∀p∈e0.new,Q54 p.2=true)(hcomp:∀i,i<e0.cnt→∃x,look (n0+i) e0.new=some x∧(n+i,rlE' (mxt m n0 n e0.cnt) x)∈e.new)(hfine:e.fine n):ICon P f az h n e:=by
 refine⟨hc.enters,λ_=>hfine,λC w g h' vals hag hnw hlim W H hsz hargs=>?_⟩;have hf0:=hc.fine (λid x hx=>hH0 _ (Qg hx));generalize hmx:mxt m n0 n e0.cnt=mx at*;have hm1n:(m.map qE).Nodup:=by rw[hm1];exact yI
 have hb2:((back m).map zT).Nodup:=by
  have:(back m).map zT=m.map qE:=by simp[back,Function.comp_def]
  rw[this];exact hm1n
 have hb1:((back m).map qE).Nodup:=by
  have:(back m).map qE=m.map zT:=by simp[back,Function.comp_def]
  rw[this];exact hm2
 have hml:∀i,i<n0→∃j,look i m=some j:=by
  intro i hi;have:i∈m.map qE:=by rw[hm1];simpa using hi
  obtain⟨p,hp,rfl⟩:=List.mem_map.1 this;exact⟨p.2,QQ hm1n hp⟩
 have hmlt:∀i j,look i m=some j→i<n0∧j<n:=by
  intro i j hij;have hp:=Qg hij;refine⟨?_,hm3 _ hp⟩;have:i∈m.map qE:=List.mem_map.2 ⟨_,hp,rfl⟩;rw[hm1]at this;simpa using this
 have hxl:∀i,look i mx=match look i m with|some j=>some j|none=>if n0≤i∧i<n0+e0.cnt then some (n+(i - n0))else none:=by
  intro i;rw[←hmx];unfold mxt;have hr:∀(k s:Nat),look i ((List.range' s k).map λq=>(n0+q,n+q))=if n0+s≤i∧i<n0+(s+k)then some (n+(i - n0))else none:=by
   intro k
   induction k with
   |zero=>intro s;simp[look]
   |succ k ih=>
    intro s;rw[List.range'_succ];simp only[qP,look]
    by_cases hq:n0+s=i
    ·subst hq;simp
    rw[if_neg (by simpa using hq),ih (s+1)]
    by_cases hz:n0+(s+1)≤i∧i<n0+(s+1+k)
    ·rw[if_pos hz,if_pos (by omega)]
    rw[if_neg hz,if_neg (by omega)]
  have happd:∀(a b:List (Nat×Nat)),look i (a++b)=match look i a with|some j=>some j|none=>look i b:=by
   intro a b
   induction a with
   |nil=>simp[look]
   |cons p r ih=>
    simp only[List.cons_append,look]
    by_cases hq:p.1=i
    ·simp[hq]
    simp only[hq,if_false,ih]
  rw[happd,List.range_eq_range',hr];simp
 have hx1:∀i id,look i mx=some id→(look i m=some id∧i<n0∧id<n)∨(n0≤i∧i<n0+e0.cnt∧id=n+(i - n0)):=by
  intro i id hi;rw[hxl]at hi;cases hl:look i m with
  |some j=>
   rw[hl]at hi;simp only[qA]at hi;subst hi;exact .inl ⟨rfl,(hmlt i j hl).1,(hmlt i j hl).2⟩
  |none=>
   rw[hl]at hi;simp only at hi;split at hi
   ·rename_i hq;simp only[qA]at hi;exact .inr ⟨hq.1,hq.2,hi.symm⟩
   cases hi
 have hxm:∀i j,look i m=some j→look i mx=some j:=by intro i j hij;rw[hxl,hij]
 have hx1n:(mx.map qE).Nodup:=by
  have:mx.map qE=yB (n0+e0.cnt):=by rw[←hmx];simp[mxt,hm1,Function.comp_def,List.range_add]
  rw[this];exact yI
 have hx2n:(mx.map zT).Nodup:=by
  have:mx.map zT=m.map zT++(yB e0.cnt).map (n+·):=by rw[←hmx];simp[mxt,Function.comp_def]
  rw[this,List.nodup_append];refine⟨hm2,List.Pairwise.map (R:=λa b=>a≠b) _ (λa b h e=>h (by omega)) yI,?_⟩;intro a ha b hb e;obtain⟨p,hp,rfl⟩:=List.mem_map.1 ha;obtain⟨q,_,rfl⟩:=List.mem_map.1 hb;have:=hm3 p hp;omega
 have ho0:∀b L,rlo (back m) g.o b=some L→∃M,g.o b=some M:=by
  intro b L hb;simp only[rlo]at hb;split at hb
  ·rename_i hq;exact⟨_,hq⟩
  cases hb
 let C0:Ctx:=⟨w,λb=>∃L,rlo (back m) g.o b=some L,λ_=>none,0⟩
 let g0:Gh:=⟨g.R,rlo (back m) g.o,rlρ (back m) g.ρ⟩
 let h0':HP:=λid=>if id<n0 then look id H0 else look id e0.new
 have W0:WF C0 w g0:=by
  refine⟨λb hb=>⟨(W.R b hb).1,?_⟩,λb L hb=>?_,rfl,⟨rfl,qF _⟩,rfl,qF _,λb _ _=>rfl⟩
  ·show rlo (back m) g.o b=none;simp only[rlo,(W.R b hb).2]
  obtain⟨M,hM⟩:=ho0 b L hb;exact⟨(W.o b M hM).1,.inr ⟨L,hb⟩⟩
 have hρb:∀i k,rlρ (back m) g.ρ i=some k→∃j,look i m=some j∧g.ρ j=some k:=by
  intro i k hk;simp only[rlρ]at hk;split at hk
  ·rename_i j hj;exact⟨j,Q2M hm1n (Q2M hb1 hj),hk⟩
  cases hk
 have hρb2:∀i j,look i m=some j→rlρ (back m) g.ρ i=g.ρ j:=by
  intro i j hij;have:=Q1H hb2 (Q1H hm2 hij);simp only[rlρ,this]
 have H00:HRel w g0 h0':=by
  have q:HRel w g0 (λid=>look id H0):=by
   refine HRel.relabel (w:=w) (R:=g.R) (o:=g.o) (ρ:=g.ρ) H (back m) hb2 λi x hx=>?_;obtain⟨j,hij⟩:=hml i (hH0 _ (Qg hx));obtain⟨x',y,z1,z2,z3,_⟩:=hpre _ (Qg hij);simp only at z1 z2;rw[hx]at z1;cases z1;exact⟨j,y,Q1H hm2 hij,by rw[hag j (hmlt i j hij).2];exact z2,z3⟩
  refine q.grow λi k hk=>?_;obtain⟨j,hij,_⟩:=hρb i k hk;exact if_pos (hmlt i j hij).1
 have hsz0:vals.size=as0.length:=by rw[has,QD];exact hsz
 have hargs0:∀k,k<as0.length→XRel w g0.R g0.ρ (vals.getD k undef) (as0.getD k .bot):=λk hk=>by
  rw[has,QD]at hk;rw[has,Q2m];exact Q7V hb2 (hargs k hk)
 refine(hc.calls C0 w g0 h0' vals (λi hi=>if_pos hi) (λp hp=>?_) (λi k hk=>?_) W0 H00 hsz0 hargs0).mono λex w' ⟨v,R',o1,ρ1,q0,q1,q2,q3,q4,q5,q6,q7⟩=>?_
 ·have:=(hf0.new p hp).1;show(if p.1<n0 then look p.1 H0 else look p.1 e0.new)=some p.2;rw[if_neg (by omega)];exact QQ hf0.nodup hp
 ·obtain⟨j,hij,_⟩:=hρb i k hk;exact(hmlt i j hij).1
 have q1':RX g.R R' w.heap.size:=q1;have hwR:∀b L,g.o b=some L→b<w.heap.size:=λb L hb=>(W.o b L hb).1;have hRo:∀b L,g.o b=some L→¬R' b:=by
  intro b L hb hR;rcases q1'.2 b hR with h1|h1
  ·have:=(W.R b h1).2;rw[hb]at this;cases this
  have:=hwR b L hb;omega
 have hkeep:∀b,b<w.heap.size→rlo (back m) g.o b=none→w'.heap[b]? =w.heap[b]?∧o1 b=none:=by
  intro b hb ho;have hn:¬C0.wrb b:=by rintro ⟨L,hL⟩;rw[ho]at hL;cases hL
  refine⟨q2.keep b hb hn,?_⟩;cases hq:o1 b with
  |none=>rfl
  |some L=>
   rcases(q2.o b L hq).2 with h1|h1
   ·have:w.heap.size≤b:=h1;omega
   exact absurd h1 hn
 haveI:∀b,Decidable ((∃L,rlo (back m) g.o b=some L)∨R' b):=λb=>Classical.propDecidable _
 let o2:Nat→Option (List Nat):=λb=>match rlo mx o1 b with
  |some L=>some L
  |none=>if(∃L,rlo (back m) g.o b=some L)∨R' b then none else g.o b
 let ρ2:Nat→Option Bk:=λid=>match g.ρ id with|some k=>some k|none=>rlρ mx ρ1 id
 have hρ2:∀id k,g.ρ id=some k→ρ2 id=some k:=λid k hk=>by simp only[ρ2,hk]
 have ho2:∀b L,rlo mx o1 b=some L→o2 b=some L:=λb L hb=>by simp only[o2,hb]
 have hρx:∀i id,look i mx=some id→rlρ mx ρ1 id=ρ1 i:=λi id hi=>by simp only[rlρ,Q1H hx2n hi]
 have hρx2:∀id k,rlρ mx ρ1 id=some k→∃i,look i mx=some id∧ρ1 i=some k:=by
  intro id k hk;simp only[rlρ]at hk;split at hk
  ·rename_i i hi;exact⟨i,Q2M hx1n hi,hk⟩
  cases hk
 have hgx:∀i id k,look i mx=some id→g.ρ id=some k→ρ1 i=some k:=by
  intro i id k hi hk;rcases hx1 i id hi with⟨h1,_,_⟩|⟨h1,_,h3⟩
  ·exact q4 i k (by show rlρ (back m) g.ρ i=some k;rw[hρb2 i id h1];exact hk)
  have:=hlim id k hk;omega
 have hρ3:∀id k,rlρ mx ρ1 id=some k→ρ2 id=some k:=by
  intro id k hk;cases hg:g.ρ id with
  |none=>simp only[ρ2,hg];exact hk
  |some k2=>
   obtain⟨i,hi,h1⟩:=hρx2 id k hk;have:=hgx i id k2 hi hg;rw[h1]at this;cases this;exact hρ2 id _ hg
 have hρ4:∀i id k,look i mx=some id→ρ2 id=some k→rlρ mx ρ1 id=some k:=by
  intro i id k hi hk;cases hg:g.ρ id with
  |none=>simpa only[ρ2,hg]using hk
  |some k2=>
   have e1:ρ2 id=some k2:=hρ2 id _ hg;rw[hk]at e1;cases e1;rw[hρx i id hi];exact hgx i id _ hi hg
 have hX:∀v a,XRel w' R' ρ1 v a→XRel w' R' ρ2 v (rl mx a):=λv a hx=>(Q7V hx2n hx).mono (λb hb=>⟨hb,rfl⟩) hρ3
 let hF:HP:=λid=>match look id (back mx)with|some i=>(happ e0 h0' i).bind (rlE mx)|none=>none
 have HF:HRel w' ⟨R',rlo mx o1,rlρ mx ρ1⟩ hF:=by
  refine HRel.relabel (w:=w') (R:=R') (o:=o1) (ρ:=ρ1) q3 mx hx2n λid x hx=>?_;simp only[hF]at hx;split at hx
  ·rename_i i hi;obtain⟨y,h1,h2⟩:=Option.bind_eq_some_iff.1 hx;exact⟨i,y,Q2M hx1n hi,h1,h2⟩
  cases hx
 have hno:∀id x k,hF id=some x→rlρ mx ρ1 id=none→ρ2 id=some k→False:=by
  intro id x k hx h1 h2;simp only[hF]at hx;split at hx
  ·rename_i i hi;rw[hρ4 i id k (Q2M hx1n hi) h2]at h1;cases h1
  cases hx
 have HF2:HRel w' ⟨R',o2,ρ2⟩ hF:=HF.mono (λ_ _=>rfl) (λb L hb=>⟨ho2 b L hb,rfl⟩) hρ3 (λid sz es bk h1 h2 h3=>(hno id _ bk h1 h2 h3).elim) (λid sz es bk h1 h2 h3=>(hno id _ bk h1 h2 h3).elim)
  (λid c i k sz bk h1 h2 h3=>(hno id _ bk h1 h2 h3).elim) (λid kd es bk h1 h2 h3=>(hno id _ bk h1 h2 h3).elim)
 have hE:∀x,Q54 x=true→rlE mx x=some (rlE' mx x):=by
  intro x hx;cases x with
  |ali=>cases hx
  |_=>rfl
 have hT:∀i id,look i mx=some id→happ e h' id=(happ e0 h0' i).bind (rlE mx):=by
  intro i id hi;rcases hx1 i id hi with⟨h1,h2,h3⟩|⟨h1,h2,h3⟩
  ·simp only[happ,hset i id h1];cases hs:look i e0.set with
   |some x=>simp only[qY,yA];exact(hE x (hna.1 _ (Qg hs))).symm
   |none=>
    simp only[Option.map_none]
    by_cases hd:i∈e0.del
    ·rw[if_pos ((hdel i id h1).2 hd),if_pos hd];rfl
    rw[if_neg (λq=>hd ((hdel i id h1).1 q)),if_neg hd];obtain⟨x,y,z1,z2,_,z4⟩:=hpre _ (Qg h1);simp only at z1 z2;have:h0' i=some x:=(by show(if i<n0 then look i H0 else look i e0.new)=some x;rw[if_pos h2];exact z1);rw[hag id h3,z2,this];exact z4.symm
  have hs:look id e.set=none:=hset2 id λi' hi'=>by have:=(hmlt i' id hi').2;omega
  have hd:¬id∈e.del:=hdel2 id λi' hi'=>by have:=(hmlt i' id hi').2;omega
  have hs0:look i e0.set=none:=by
   cases hq:look i e0.set with
   |none=>rfl
   |some x=>have:=hf0.sets.2 _ (Qg hq);simp only at this;omega
  have hd0:¬i∈e0.del:=λq=>by have:=hf0.del i q;omega
  simp only[happ,hs,hs0];rw[if_neg hd,if_neg hd0];obtain⟨x,z1,z2⟩:=hcomp (i - n0) (by omega);rw[show n0+(i - n0)=i by omega]at z1;have e1:h0' i=some x:=by show(if i<n0 then look i H0 else look i e0.new)=some x;rw[if_neg (by omega)];exact z1
  rw[←h3]at z2;rw[hnw _ z2,e1];exact(hE x (hna.2 _ (Qg z1))).symm
 have hI:∀id,look id (back mx)=none→(look id (back m)=none)∧(id<n→happ e h' id=h' id)∧rlρ mx ρ1 id=none:=by
  intro id hid;have h1:∀i,look i m≠some id:=λi hi=>by
   have:=Q1H hx2n (hxm i id hi);rw[hid]at this;cases this
  refine⟨?_,λ_=>?_,by simp only[rlρ,hid]⟩
  ·cases hq:look id (back m)with
   |none=>rfl
   |some i=>exact absurd (Q2M hm1n hq) (h1 i)
  simp only[happ,hset2 id h1];rw[if_neg (hdel2 id h1)]
 have hirr:∀id b M,look id (back m)=none→g.o b=some (id::M)→o2 b=some (id::M)∧w'.heap[b]? =w.heap[b]?:=by
  intro id b M hid hb;have h0:rlo (back m) g.o b=none:=by simp only[rlo,hb,hid]
  obtain⟨k1,k2⟩:=hkeep b (hwR b _ hb) h0;refine⟨?_,k1⟩;have h1:rlo mx o1 b=none:=by simp only[rlo,k2]
  simp only[o2,h1];rw[if_neg]
  ·exact hb
  rintro (⟨L,hL⟩|hR)
  ·rw[h0]at hL;cases hL
  exact hRo b _ hb hR
 have hXi:∀v a,XRel w g.R g.ρ v a→XRel w' R' ρ2 v a:=λv a hx=>hx.mono (λb hb=>⟨q1'.1 b hb,q7 b hb⟩) hρ2;have hsplit:∀id x k,happ e h' id=some x→ρ2 id=some k→hF id=some x∨(look id (back m)=none∧id<n∧h' id=some x∧g.ρ id=some k):=by
  intro id x k hx hk;cases hl:look id (back mx)with
  |some i=>
   left;simp only[hF,hl];rw[←hT i id (Q2M hx1n hl)];exact hx
  |none=>
   right;obtain⟨i1,i2,i3⟩:=hI id hl;have hg:g.ρ id=some k:=by
    cases hg:g.ρ id with
    |none=>simp only[ρ2,hg,i3]at hk;cases hk
    |some k2=>have:=hρ2 id _ hg;rw[hk]at this;exact this.symm
   have hlt:=hlim id k hg;exact⟨i1,hlt,by rw[←i2 hlt];exact hx,hg⟩
 refine⟨v,R',o2,ρ2,q0,⟨q1'.1,λb hb=>(q1'.2 b hb).imp id (qK W.size)⟩,⟨λb hb=>⟨(q2.R b hb).1,?_⟩,λb L hb=>?_,q2.os.trans W.os,tpt q2.tape W.tape,q2.output.trans W.output,qK W.size q2.size,λb hb hw=>?_⟩,
  ⟨λid sz es bk he hb=>?_,λid sz es bk he hb=>?_,λid c i k sz bk he hb=>?_,λid kd es bk he hb=>?_⟩,hρ2,λid k hk=>?_,by rw[hv];exact hX _ _ q6,q7⟩
 ·have h1:o1 b=none:=(q2.R b hb).2;show o2 b=none;have h2:rlo mx o1 b=none:=by simp only[rlo,h1]
  simp only[o2,h2];rw[if_pos (.inr hb)]
 ·have hb':o2 b=some L:=hb;cases hq:rlo mx o1 b with
  |some M=>
   have:∃L1,o1 b=some L1:=by
    simp only[rlo]at hq;split at hq
    ·rename_i h3;exact⟨_,h3⟩
    cases hq
   obtain⟨L1,h1⟩:=this;obtain⟨k1,k2⟩:=q2.o b L1 h1;refine⟨k1,?_⟩;rcases k2 with k2|⟨L2,k2⟩
   ·exact .inl (qK W.size k2)
   obtain⟨M2,h3⟩:=ho0 b L2 k2;exact(W.o b M2 h3).2
  |none=>
   simp only[o2,hq]at hb';split at hb'
   ·cases hb'
   exact⟨qN (hwR b L hb') q2.size,(W.o b L hb').2⟩
 ·have h1:b<w.heap.size:=qN hb W.size;have h2:rlo (back m) g.o b=none:=by
   cases hq:rlo (back m) g.o b with
   |none=>rfl
   |some L=>
    obtain⟨M,hM⟩:=ho0 b L hq;rcases(W.o b M hM).2 with h3|h3
    ·omega
    exact absurd h3 hw
  exact(hkeep b h1 h2).1.trans (W.keep b hb hw)
 ·rcases hsplit id _ bk he hb with h1|⟨h1,_,h3,h4⟩
  ·exact HF2.mix id sz es bk h1 hb
  rcases(H.mix id sz es bk h3 h4).ex0 with h0|⟨b,cur,el,us,cpm,p1,p2,p3,p4,p5,p5',p6,p7,p8,p9⟩
  ·exact⟨.inl h0⟩
  obtain⟨k1,k2⟩:=hirr id b [] h1 p2;exact .mk' ⟨b,cur,el,us,cpm,p1,k1,k2.trans p3,p4,p5,p5',p6,p7,p8,λj l hj hl=>hXi _ _ (p9 j l hj hl)⟩
 ·rcases hsplit id _ bk he hb with h1|⟨h1,_,h3,h4⟩
  ·exact HF2.row id sz es bk h1 hb
  obtain⟨v,hv,hh⟩:=H.row id sz es bk h3 h4;exact⟨v,hv.mono (R':=R') [id] λb M hbo=>hirr id b M h1 hbo,hh⟩
 ·rcases hsplit id _ bk he hb with h1|⟨h1,h2,h3,h4⟩
  ·exfalso;simp only[hF]at h1;split at h1
   ·rename_i i0 hi0;obtain⟨y,h5,h6⟩:=Option.bind_eq_some_iff.1 h1;have hy:Q54 y=true:=by
     have hi:=Q2M hx1n hi0;simp only[happ]at h5;split at h5
     ·rename_i z hz;simp only[qA]at h5;subst h5;exact hna.1 _ (Qg hz)
     split at h5
     ·cases h5
     have h5':(if i0<n0 then look i0 H0 else look i0 e0.new)=some y:=h5;split at h5'
     ·rename_i hlt;obtain⟨j,hij⟩:=hml i0 hlt;obtain⟨x,y',z1,z2,z3,z4⟩:=hpre _ (Qg hij);simp only at z1 z2;rw[h5']at z1;cases z1;cases y with
      |ali c2 i2 k2 s2=>
       exfalso;cases y' with
       |ali c3 i3 k3 s3=>
        have:=(hali j (hmlt i0 j hij).2 _ _ _ _ z2).1;rw[Q1H hm2 hij]at this;cases this
       |mix=>simp[rlE]at z3
       |row=>simp[rlE]at z3
       |mapE=>simp[rlE]at z3
      |_=>rfl
     exact hna.2 _ (Qg h5')
    rw[hE y hy]at h6;cases y with
    |ali=>cases hy
    |mix=>simp[rlE',rlE]at h6
    |row=>simp[rlE',rlE]at h6
    |mapE=>simp[rlE',rlE]at h6
   cases h1
  have h3n:=h3;rw[hag id h2]at h3n;obtain⟨_,a1,a3,s1,es1,a2⟩:=hali id h2 c i k sz h3n;obtain⟨b1,bkc,b2,b3⟩:=H.ali id c i k sz bk h3 h4;have hcx:look c (back mx)=none:=by
   cases hl:look c (back mx)with
   |none=>rfl
   |some i1=>
    rcases hx1 i1 c (Q2M hx1n hl)with⟨h5,_,_⟩|⟨_,_,h5⟩
    ·rw[Q1H hm2 h5]at a1;cases a1
    omega
  have hcr:h' c=some (.row s1 es1):=(hag c a3).trans a2;have hc':happ e h' c=some (.row s1 es1):=((hI c hcx).2.1 a3).trans hcr;have hct:∀(d:Nat) (hh:HP),hh c=some (.row s1 es1)→∀q,cont hh d c=some q→q=(s1,es1):=by
   intro d hh hq q hcq;cases d with
   |zero=>simp[cont]at hcq
   |succ d=>simp only[cont,hq,qA]at hcq;exact hcq.symm
  refine⟨b1,bkc,hρ2 c _ b2,λd szc esc hc1 hm1' hi1 hk1=>?_⟩;have hq:=hct d _ hc' _ hc1;cases hq;obtain⟨bc,cur,el,v1,c1,c2,c3,c4⟩:=b3 1 s1 es1 (by simp only[cont,hcr]) (by rw[hcr];rfl) hi1 hk1;refine⟨bc,cur,el,v1,c1,?_,c3,c4⟩;obtain⟨vr,hv1,hv2⟩:=H.row c s1 es1 bkc hcr b2;cases hv1 with
  |nil=>simp at hi1
  |@own _ _ _ b4 cap4 cur4 e4 us4 hb4 hh4 _ _ _ _ _ _=>
   cases hv2;simp only[qA]at c1;subst c1;exact(hirr c b4 [] a1 hb4).2.trans c2
 ·rcases hsplit id _ bk he hb with h1|⟨h1,_,h3,h4⟩
  ·exact HF2.map id kd es bk h1 hb
  exact(H.map id kd es bk h3 h4).move (λb hb=>⟨q1'.1 b hb,q7 b hb⟩) λb M p2=>hirr id b M h1 p2
 cases hg:g.ρ id with
 |some k2=>have:=hρ2 id _ hg;rw[hk]at this;exact .inl this.symm
 |none=>
  right;simp only[ρ2,hg]at hk;obtain⟨i,hi,h1⟩:=hρx2 id k hk;rcases q5 i k h1 with h2|h2
  ·obtain⟨j,hij,h3⟩:=hρb i k h2;have:=hxm i j hij;rw[hi]at this;cases this;rw[hg]at h3;cases h3
  rcases hx1 i id hi with⟨_,h4,_⟩|⟨_,h4,h5⟩
  ·omega
  rw[hcnt];omega
def aliF(m:List (Nat×Nat))(n:Nat)(H:List (Nat×Ent))(p:Nat×Ent):Bool:=match p.2 with
 | .ali c _ _ _=>(look p.1 (back m)).isNone&&((look c (back m)).isNone&&(decide (c<n)&&match look c H with
  |some (.row _ _)=>true
  |_=>false))
 |_=>true
def trm(m:List (Nat×Nat))(i:Nat):Nat:=(look i m).getD 0
theorem ICon.frameL{P:Program}{f:Nat}{as0 az:List AV}{H0 H:List (Nat×Ent)}{n0:Nat}{e0 e:Eff}{n:Nat}(hc:ICon P f as0 (λid=>look id H0) n0 e0)(m:List (Nat×Nat))(hm1:m.map qE=yB n0)(hm2:(m.map zT).Nodup∧(∀p∈m,p.2<n)∧(∀p∈H0,p.1<n0))(hpre:∀p∈m,(look p.1 H0).isSome=true∧(look p.2 H).bind (rlE (back m))=look p.1 H0∧(look p.1 H0).bind (rlE (mxt m n0 n e0.cnt))=look p.2 H)(has:as0=rlL (back m) az)(hali:∀p∈H,aliF m n H p=true)(hcnt:e.cnt=e0.cnt)(hv:e.v=rl (mxt m n0 n e0.cnt) e0.v)(hset:e.set=e0.set.map λp=>(trm m p.1,rlE' (mxt m n0 n e0.cnt) p.2))(hdel:e.del=e0.del.map (trm m))(hnew:e.new=e0.new.map λp=>(n+(p.1 - n0),rlE' (mxt m n0 n e0.cnt) p.2))(hna:(∀p∈e0.set,Q54 p.2=true)∧∀p∈e0.new,Q54 p.2=true)(hcomp:newB n0 e0.cnt (e0.new.map qE)=true)(hfine:e.fine n):ICon P f az (λid=>look id H) n e:=by
 have hf0:=hc.fine (λid x hx=>hm2.2.2 _ (Qg hx));have hm1n:(m.map qE).Nodup:=by rw[hm1];exact yI
 have hin:∀i,i<n0→∃j,look i m=some j:=by
  intro i hi;have:i∈m.map qE:=by rw[hm1];simpa using hi
  obtain⟨p,hp,rfl⟩:=List.mem_map.1 this;exact⟨p.2,QQ hm1n hp⟩
 have hlt:∀i j,look i m=some j→i<n0:=by
  intro i j hij;have:i∈m.map qE:=List.mem_map.2 ⟨_,Qg hij,rfl⟩;rw[hm1]at this;simpa using this
 have tr:∀i j,look i m=some j→trm m i=j:=λi j h=>by simp[trm,h]
 have inj:∀i i' j,look i m=some j→i'<n0→trm m i'=j→i'=i:=by
  intro i i' j hij hi' h;obtain⟨j',hj'⟩:=hin i' hi';have:=tr i' j' hj';rw[h]at this;subst this;exact Q70 hm2.1 hj' hij
 have lm:∀(l:List (Nat×Ent)) (F:Ent→Ent) (i j:Nat),look i m=some j→(∀p∈l,p.1<n0)→look j (l.map λp=>(trm m p.1,F p.2))=(look i l).map F:=by
  intro l F i j hij
  induction l with
  |nil=>intro _;rfl
  |cons p r ih=>
   intro hl;simp only[qP,look]
   by_cases hq:p.1=i
   ·rw[if_pos hq,if_pos (by rw[hq];exact tr i j hij)];rfl
   rw[if_neg hq,if_neg (λh=>hq (inj i p.1 j hij (hl p (by simp)) h))];exact ih λq hq'=>hl q (by simp[hq'])
 refine ICon.frame hc m hm1 hm2.1 hm2.2.1 hm2.2.2 (λp hp=>?_) has (λid hid c i k sz he=>?_) hcnt hv (λi j hij=>?_) (λj hj=>?_) (λi j hij=>?_) (λj hj hd=>?_) hna (λi hi=>?_) hfine
 ·obtain⟨z1,z2,z3⟩:=hpre p hp;obtain⟨x,hx⟩:=Option.isSome_iff_exists.1 z1;rw[hx]at z2 z3;obtain⟨y,hy,hyx⟩:=Option.bind_eq_some_iff.1 z2;exact⟨x,y,hx,hy,hyx,by rw[←hy,←z3];rfl⟩
 ·have h5:=hali _ (Qg he);simp only[aliF,qG,decide_eq_true_eq,Option.isNone_iff_eq_none]at h5;obtain⟨h6,h7,h8,h9⟩:=h5;refine⟨h6,h7,h8,?_⟩;split at h9
  ·rename_i s1 es1 hq;exact⟨s1,es1,hq⟩
  cases h9
 ·rw[hset];exact lm e0.set _ i j hij hf0.sets.2
 ·rw[hset];cases hq:look j (e0.set.map λp=>(trm m p.1,rlE' (mxt m n0 n e0.cnt) p.2))with
  |none=>rfl
  |some x=>
   exfalso;obtain⟨p,hp,he⟩:=List.mem_map.1 (Qg hq);simp only[qC]at he;obtain⟨j',hj'⟩:=hin p.1 (hf0.sets.2 p hp);rw[tr _ _ hj']at he;exact hj p.1 (by rw[hj',he.1])
 ·rw[hdel,List.mem_map];constructor
  ·rintro ⟨i',hi',h⟩
   have:=inj i i' j hij (hf0.del i' hi') h;subst this;exact hi'
  intro h;exact⟨i,h,tr i j hij⟩
 ·rw[hdel,List.mem_map]at hd;obtain⟨i',hi',h⟩:=hd;obtain⟨j',hj'⟩:=hin i' (hf0.del i' hi');rw[tr _ _ hj']at h;exact hj i' (by rw[hj',h])
 have:=newI (n:=n0) (e:=e0) hcomp (n0+i) (by omega) (by omega);obtain⟨p,hp,he⟩:=List.mem_map.1 this;refine⟨p.2,by rw[←he];exact QQ hf0.nodup hp,?_⟩;rw[hnew];refine List.mem_map.2 ⟨p,hp,?_⟩;rw[show p.1 - n0=i by omega]
inductive PreL:List AV→List AV→Prop
 |nil:PreL [] []
 |eq {a az bs}:PreL az bs→PreL (a::az) (a::bs)
 |pre {xs cs az bs}:xs.take cs.length=cs→PreL az bs→PreL (.rptr xs::az) (.rptr cs::bs)
 |nz {u sz az bs}:PreL az bs→PreL (.val (.slice none 0 0)::az) (.lst u sz []::bs)
 |nl {id u sz az bs}:PreL az bs→PreL (.own id 0 0::az) (.lst u sz []::bs)
end
section
attribute [local simp] Qi QP Qv
structure RetFG(P:Program)(rvs:List ResultVar)(st:St)(rs:List AV):Prop where
 ex:∃az,RGet P st rvs az∧PurL st.hp az rs
def retFGQ(P:Program)(rvs:List ResultVar)(rs:List AV):Exit→St→Prop
 | .normal,st=>RetFG P rvs st rs
 | .ret,st=>RetFG P rvs st rs
 |_,_=>False
theorem Q5q{P:Program}{f:Nat}{fn:Func}{c:Code}{args:List AV}{rvs:List ResultVar}{rs:List AV}{res:AV}(hf:P.funcs[f]? =some fn)(hb:fn.body=some c)(hrt:fn.results=rvs.toArray)(hrs:res=Qt rs)(hname:(fn.name=="runtime.NumGoroutine")=false)(hN:args.length≤fn.ntmps)(h:∀F:Fx,F.N=fn.ntmps→F.pins=0→Wp P F c (retFGQ P rvs rs) ⟨Q39 0 args,[],0⟩):FContract P true f args res:=by
 subst hrs;refine⟨⟨fn,hf,hname,by rw[hb];rfl⟩,λw R vals hR hsz hx=>?_⟩;refine calls_of_wp hf hb ?_
 let C:Ctx:=⟨w,λ_=>False,λ_=>none,0⟩
 have hrel:Rel C R fn.ntmps {tmps:=vals++zY (fn.ntmps - vals.size) undef,defers:=[]} w ⟨Q39 0 args,[],0⟩:=by
  refine⟨by simp;omega,rfl,(λid x h=>by cases h),λ_=>none,noρ,⟨λb hb=>⟨hR b hb,rfl⟩,(λb L hb=>by cases hb),rfl,⟨rfl,qF _⟩,rfl,qF _,λb _ _=>rfl⟩,⟨(λid sz es bk _ hb=>by cases hb),(λid sz es bk _ hb=>by cases hb),(λid c i k sz bk _ hb=>by cases hb),(λid kd es bk _ hb=>by cases hb)⟩,λt=>?_,(λid k hk=>by cases hk),?_⟩;rotate_left
  ·exact⟨λid hid=>absurd hid (Nat.not_lt_zero id),yD _⟩
  simp only[St.get,Q2w]
  by_cases ht:t<args.length
  ·rw[if_pos (by omega)];simp only[yG,zQ];have:=hx t ht;have h2:(vals++zY (fn.ntmps - vals.size) undef).getD t undef=vals.getD t undef:=by
    simp[zJ,show t<vals.size by omega]
   rw[h2];exact this
  rw[if_neg (by omega)];exact .bot
 refine Q3T (λe a w' hq=>?_) (h ⟨C,R,fn.ntmps,0,rfl⟩ rfl rfl _ w (.of hrel));obtain⟨st,⟨R',hX,hr⟩,hq⟩:=hq;have fin:RetFG P rvs st rs→a.defers=[]∧∃v,(results fn a.tmps).run P w'= .ok v w'∧∃v' R1,Ending.returned v= .returned v'∧Blw w.heap.size w w'∧(∀b,R1 b→b<w'.heap.size∧((true=true∧R b)∨w.heap.size≤b))∧XRel w' R1 noρ v' (Qt rs):=by
  intro hA;obtain⟨az,hg,hl,hp⟩:=hA.ex;obtain⟨_,hdef,_,o,ρ,W,H,hxx,_⟩:=hr;obtain⟨vs,h1,h2,h3⟩:=Q5G H hxx hg
  let R1:Nat→Prop:=RAll ⟨R',o,ρ⟩
  have hown:∀b L,o b=some L→b<w'.heap.size∧w.heap.size≤b:=λb L hb=>by
   obtain⟨q1,q2⟩:=W.o b L hb;exact⟨q1,q2.resolve_right id⟩
  have hR1:∀b,R1 b→b<w'.heap.size∧((true=true∧R b)∨w.heap.size≤b):=λb hb=>by
   rcases(show RAll ⟨R',o,ρ⟩ b from hb)with hb|⟨L,hb⟩
   ·exact⟨(W.R b hb).1,(hX.2 b hb).imp (λh=>⟨rfl,h⟩) id⟩
   exact⟨(hown b L hb).1,.inr (hown b L hb).2⟩
  have hcell:∀k,k<vs.length→XRel w' R1 noρ (vs.getD k undef) (rs.getD k .bot):=λk hk=>(Q5Z H (hp k (by omega)) (h3 k (by omega))).1;refine⟨hdef,_,Q3d hrt h1,_,R1,rfl,⟨W.os,W.tape,W.output,W.size,λb hb=>W.keep b hb id⟩,hR1,?_⟩;have hl2:vs.length=rs.length:=by omega
  match vs,rs,hl2,hcell with
  |[],[],_,_=>exact .tup rfl λk hk=>by simp at hk
  |[t],[r],_,hcell=>exact hcell 0 (by simp)
  |t::u::ts,r::s::rs,hl,hcell=>
   simp only[Q2R,Qt];refine .tup (by simp at hl;simp;omega) λk hk=>?_;have hk':k<(t::u::ts).length:=(by simp at hl hk;simp;omega);have:=hcell k hk';have h1:((t::u::ts).toArray).getD k undef=(t::u::ts).getD k undef:=by
    have hk2:k<(t::u::ts).toArray.size:=(by simpa using hk');rw[Array.getD_eq_getD_getElem?,zP hk2,zQ];simp only[List.getElem_toArray];rw[qB,qI hk',zQ]
   rw[h1];exact this
 cases e with
 |normal=>exact fin hq
 |ret=>exact fin hq
 |_=>exact hq.elim
theorem RetFG.mk'{P:Program}{rvs:List ResultVar}{st:St}{az rs:List AV}(hg:RGet P st rvs az)(hp:PurL st.hp az rs):RetFG P rvs st rs:=⟨_,hg,hp⟩
end
section
attribute [local simp] Qi QP Qv
def AV.isV:AV→Bool
 | .val _=>true
 |_=>false
theorem Wk.mixRow{F:Fx}{st st':St}{j sz:Nat}{es:List (List AV)}(hj:look j st.h=some (.mix sz es))(hv:(es.all λr=>r.all AV.isV)=true)(hs:∀q∈st'.s,st.get q.1=q.2∨q.2= .bot)(hn:st'.n=st.n)(hh:∀q∈st'.h,(look q.1 st.h=some q.2∧(match q.2 with|.ali _ _ _ _=>False|_=>True))∨(q.1=j∧q.2= .row sz es)):Wk F st st':=by
 intro a w ⟨R,hX,hr0⟩;obtain⟨r1,r2,r3,o,ρ,W,H,hx,hρ,hpn⟩:=hr0;have hent:∀id e,st'.hp id=some e→(st.hp id=some e∧(match e with|.ali _ _ _ _=>False|_=>True))∨(id=j∧e= .row sz es):=λid e h=>hh (id,e) (Qg h);refine⟨R,hX,r1,r2,λid x hx'=>?_,o,ρ,W,⟨λid z xs bk h1 h2=>?_,λid z xs bk h1 h2=>?_,λid c i' k' z bk h1 h2=>?_,λid kd xs bk h1 h2=>?_⟩,λt=>?_,λid kk hk'=>?_,λid hid=>hpn.1 id hid,by rw[hn];exact hpn.2⟩
 ·rw[hn];rcases hent id x hx' with⟨h,_⟩|⟨rfl,h⟩
  ·exact r3 _ _ h
  exact r3 _ _ hj
 ·rcases hent id _ h1 with⟨h,_⟩|⟨rfl,e⟩
  ·exact H.mix id z xs bk h h2
  cases e
 ·rcases hent id _ h1 with⟨h,_⟩|⟨rfl,e⟩
  ·exact H.row id z xs bk h h2
  cases e;rcases(H.mix id sz es bk hj h2).ex0 with⟨rfl,cp0,rfl⟩|⟨b,cur,el,us,cpm,rfl,q2,q3,q4,q5,q5',q6,q7,q8,q9⟩
  ·exact⟨_,.nil,.nil⟩
  refine⟨.slice (some ⟨b,0,none⟩) es.length cpm,.own us q2 q3 q4 q5 q5' q6 q7 q8 λi k hi hk=>?_,.own⟩;have h9:=q9 i k hi hk;have hrow:es.getD i []∈es:=by
   rw[qB,qI hi];exact yC _
  have hcell:(es.getD i []).getD k .bot∈es.getD i []:=by
   have hk':k<(es.getD i []).length:=(by rw[q6 i hi];exact hk);generalize es.getD i []=r at hk';rw[qB,qI hk'];exact yC _
  have hall:=List.all_eq_true.1 (List.all_eq_true.1 hv _ hrow) _ hcell;generalize (es.getD i []).getD k .bot=c at h9 hall;cases c with
  |val v=>
   generalize us i k=u at h9;cases h9 with
   |r h=>cases h with
    |val h=>exact .val h
  |_=>cases hall
 ·rcases hent id _ h1 with⟨h,q⟩|⟨rfl,e⟩
  ·exact q.elim
  cases e
 ·rcases hent id _ h1 with⟨h,_⟩|⟨rfl,e⟩
  ·exact H.map id kd xs bk h h2
  cases e
 ·cases hl:look t st'.s with
  |none=>simp only[St.get,hl,Option.getD_none];exact .bot
  |some v=>
   simp only[St.get,hl,zQ];rcases hs _ (Qg hl)with h|h
   ·simp only at h;rw[←h];exact hx t
   simp only at h;rw[h];exact .bot
 rw[hn];exact hρ id kk hk'
end
section
attribute [local simp] Qi QP Qv
section
variable {P:Program}{mt:MT}{C:Ctx}{R:Nat→Prop}{N:Nat}{ops:Array Oper}{S:Nat→St}{E:Nat→Option Eff}{w0:World}
theorem tchr(hrd:mt.rd=[])(op:Op):tch mt op=Q14 op:=by
 unfold tch;rw[hrd,Q77];simp
theorem easyr(hbi:mt.bi=false)(x y:Op):easy mt x y=false:=by simp[easy,hbi]
def Q40(mt:MT)(x y:Oper):Bool:=(wrM mt x.op&&Q14 y.op)||(Q14 x.op&&wrM mt y.op)
theorem Q7s(hrd:mt.rd=[])(hbi:mt.bi=false){ops:Array Oper}{x y:Oper}:Q3m mt ops x y=(Q2t ops x y||Q40 mt x y):=by
 unfold Q3m Q2t Q40;rw[easyr hbi,tchr hrd,tchr hrd,Bool.not_false,Bool.and_true];exact Bool.or_assoc _ _ _
def MovF(P:Program)(mt:MT)(ops:Array Oper)(S:Nat→St)(E:Nat→Option Eff)(i m:Nat):Prop:=∀oi,ops[i]? =some oi→wrM mt oi.op=false∧∀(ev:Operand→AV) (e:Eff),i≤m+1→m+1≤ops.size→
 AOp P mt oi.op ev (S i).hp (S i).n e→e=eff E i→AOp P mt oi.op ev (HS S E ops.size i) (S i).n e→(∀p∈e.new,HS S E ops.size i p.1=some p.2)→(∀t,(.tmp t:Operand)∈oi.op.operands→ev (.tmp t)=(S i).get t)→
 AOp P mt oi.op ev (HS S E ops.size (m+1)) (S i).n e∧∀p∈e.new,HS S E ops.size (m+1) p.1=some p.2
theorem hU_lastF(L:Nat→Bool):∀n,(∃k,k<n∧L k=true∧isW mt ops k=true)→∃m,m<n∧hU mt ops S E L n=HS S E ops.size (m+1)∧(∀k,m<k→k<n→L k=true→isW mt ops k=false)∧L m=true∧isW mt ops m=true:=by
 intro n
 induction n with
 |zero=>rintro ⟨k,hk,_⟩;omega
 |succ n ih=>
  rintro ⟨k,hk,h1,h2⟩
  by_cases hn:L n=true∧isW mt ops n=true
  ·refine⟨n,by omega,?_,(λq h3 h4=>by omega),hn.1,hn.2⟩;simp only[hU];rw[if_pos (by simpa[isW]using hn)]
  have hkn:k<n:=by
   rcases zR k n with h|h
   ·exact h
   have:k=n:=(by omega);subst this;exact absurd ⟨h1,h2⟩ hn
  obtain⟨m,m1,m2,m3,m4,m5⟩:=ih ⟨k,hkn,h1,h2⟩;refine⟨m,by omega,?_,λq h3 h4 h5=>?_,m4,m5⟩
  ·simp only[hU];rw[if_neg (by simpa[isW]using hn)];exact m2
  by_cases hq:q=n
  ·subst hq;cases hw:isW mt ops q with
   |false=>rfl
   |true=>exact absurd ⟨h5,hw⟩ hn
  exact m3 q h3 (by omega) h5
theorem mid_stepF(hrd:mt.rd=[])(hbi:mt.bi=false)(T:Tr P mt ops S E)(hN:∀o∈ops.toList,∀d,o.dst=some d→d<N){L:Nat→Bool}{i:Nat}{oi:Oper}(hi:ops[i]? =some oi)(hL:L i=false)(hA:∀k o,k<i→ops[k]? =some o→Q3m mt ops o oi=true→L k=true∨(MovF P mt ops S E k i∧Q2t ops o oi=false))(hB:∀k o,i<k→ops[k]? =some o→L k=true→Q2t ops oi o=false∧(Q40 mt oi o=true→MovF P mt ops S E i k)){a:Act}{w:World}(M:Mid mt C R N ops S E w0 L a w){K:Act→World→Prop}(hK:∀R' a' w',RX R R' C.w0.heap.size→Mid mt C R' N ops S E w0 (upL L i) a' w'→K a' w'):wpOp P ops i K a w:=by
 classical
 have hin:i<ops.size:=(Array.getElem?_eq_some_iff.1 hi).1;obtain⟨o,ρ,W,H,hx,hρ,hpin⟩:=M.ex;obtain⟨hf,hS,hnw,hnt⟩:=T.step hi;have hd:(ops[i]?).bind (·.dst)=oi.dst:=by rw[hi];rfl
 have hslot:∀t,t∈Q4v ops oi→envU ops S E L ops.size t=(S i).get t:=by
  intro t ht;rw[Q5O L t i ops.size (by omega) λk hk1 hk2 hk3=>?_]
  ·refine Q6R T L t i (by omega) λk hk1 hk2=>?_;have hk:k<ops.size:=(by omega);rw[zP hk]at hk2;have hk2:(ops[k]).dst=some t:=hk2;have hcs:Q2t ops ops[k] oi=true:=by
    simp only[Q2t,hk2,zS];left;left;simpa using ht
   rcases hA k _ hk1 (zP hk) (by rw[Q7s hrd hbi,hcs];rfl)with h|h
   ·exact h
   rw[hcs]at h;cases h.2
  intro hdk
  by_cases hki:k=i
  ·subst hki;rw[hL]at hk3;cases hk3
  have hk:k<ops.size:=hk2;have h1:=hB k _ (by omega) (zP hk) hk3;rw[zP hk]at hdk;exact(Q4a h1.1).2 t hdk ht
 have hown:∀t,envU ops S E (upL L i) ops.size t=if oi.dst=some t then(eff E i).v else envU ops S E L ops.size t:=by
  intro t;rw[Q6S hL t ops.size λk h1 h2 h3=>?_,hd]
  ·by_cases hdt:oi.dst=some t
   ·rw[if_pos ⟨hin,hdt⟩,if_pos hdt]
   rw[if_neg (λh=>hdt h.2),if_neg hdt]
  cases hdi:oi.dst with
  |none=>right;rw[hd,hdi]
  |some d=>
   left;rw[hd,hdi,zP h2];have h4:=hB k _ h1 (zP h2) h3;exact((Q4a h4.1).1 d hdi).2
 have hdN:∀x,oi.dst=some x→x<a.tmps.size:=λx hx=>by
  rw[M.size];exact hN oi (by rw[←yE]at hi;exact List.mem_of_getElem? hi) x hx
 have hW:isW mt ops i=true→(∀k,k<i→isW mt ops k=true→L k=true)∧∀k,i<k→k<ops.size→L k=true→isW mt ops k=false:=by
  intro hw;have hwi:wrM mt oi.op=true:=by simpa[isW,hi]using hw
  have htw:∀x:Op,wrM mt x=true→Q14 x=true:=by
   intro x hx;cases x with
   |call cl=>
    obtain⟨ce,args,ts⟩:=cl;cases ce with
    |builtin b=>cases b<;>simp_all[wrM,Q2Q,roC,Q32,Q1f,Q14]
    |value=>rfl
    |invoke=>simp[wrM,Q2Q,roC,Q32,Q1f]at hx
   |_=>first|rfl|(simp[wrM,Q2Q,roC,Q32,Q1f]at hx;done)
  refine⟨λk hk hwk=>?_,λk hk hk2 hLk=>?_⟩
  ·have hks:k<ops.size:=(by omega);have hg:=zP hks;have hwk':wrM mt (ops[k]).op=true:=(by simpa[isW,hg]using hwk);rcases hA k _ hk hg (by simp only[Q3m,zS,qG];left;right;exact⟨⟨hwk',(tchr hrd _).trans (htw _ hwi)⟩,by rw[easyr hbi];rfl⟩)with h|h
   ·exact h
   have:=(h.1 _ hg).1;rw[hwk']at this;cases this
  have hg:=zP hk2;have h1:=hB k _ hk hg hLk;cases hwk:isW mt ops k with
  |false=>rfl
  |true=>
   have hwk':wrM mt (ops[k]).op=true:=(by simpa[isW,hg]using hwk);have h2:=h1.2 (by simp only[Q40,hwi,htw _ hwk',Bool.and_self,Bool.true_or]);have:=(h2 _ hi).1;rw[hwi]at this;cases this
 have hcl:∀k k':Nat,k<k'→k'<ops.size→isW mt ops k=true→isW mt ops k'=true→upL L i k'=true→upL L i k=true:=by
  intro k k' h1 h2 h3 h4 h5;simp only[upL]at h5⊢
  by_cases hk:k=i
  ·rw[if_pos hk]
  rw[if_neg hk]
  by_cases hk':k'=i
  ·exact(hW (by rw[←hk'];exact h4)).1 k (by omega) h3
  rw[if_neg hk']at h5;exact M.cl k k' h1 h2 h3 h4 h5
 have hme:MT.on mt=false→∀(k:Nat) (o:Oper),ops[k]? =some o→isMe o.op=true→upL L i k=true→(∀p∈(eff E k).set,Giv ops S (upL L i) p.1)∧∀d∈(eff E k).del,Giv ops S (upL L i) d:=by
  intro hmt k o2 hk hm hLk;have up:∀{q:Nat},Giv ops S L q→Giv ops S (upL L i) q:=by
   rintro q (h|⟨j,j1,j2,j3⟩)
   ·exact .inl h
   exact .inr ⟨j,j1,by simp only[upL];split<;>simp_all,j3⟩
  by_cases hki:k=i
  ·subst hki;rw[hi]at hk;cases hk;have hrun:=T.run k oi hi;cases hE:E k with
   |none=>simp[eff,hE]
   |some e=>
    rw[hE]at hrun;obtain⟨_,hop,_⟩:=hrun;obtain⟨⟨id,kd,es,kd',es',r1,r2,r3⟩,r4⟩:=hop.me hm hmt;have he:eff E k=e:=(by simp[eff,hE]);have giv:∀id,(∃x∈oi.op.operands,(S k).ev x= .mp id)→Giv ops S (upL L k) id:=by
     rintro id ⟨x,x1,x2⟩
     cases x with
     |tmp t1=>
      have h1:=hx t1;rw[hslot t1 (Q3y x1),show(S k).get t1= .mp id from x2]at h1;obtain⟨b,_,hb⟩:∃b,a.tmps.getD t1 undef= .map (some b)∧ρ id=some ⟨some b,0,0⟩:=by
       generalize a.tmps.getD t1 undef=vv at h1;cases h1 with
       |r h=>cases h
       |mp h=>exact⟨_,rfl,h⟩
      exact up (hρ id _ hb)
     |const v=>simp only[St.ev,cst]at x2;split at x2<;>cases x2
     |global=>cases x2
     |func f=>cases x2
    rw[he];refine⟨λp hp=>?_,λd hd=>giv d (r4 d hd).1⟩;rw[r3]at hp;simp only[zN]at hp;subst hp;exact giv id r1
  have hLk':L k=true:=by simpa[upL,hki]using hLk
  obtain⟨g1,g2⟩:=M.me hmt k o2 hk hm hLk';exact⟨λp hp=>up (g1 p hp),λd hd=>up (g2 d hd)⟩
 have fin:∀v w' R' o' ρ',RX R R' C.w0.heap.size→WF C w' ⟨R',o',ρ'⟩→HRel w' ⟨R',o',ρ'⟩ (hU mt ops S E (upL L i) ops.size)→(∀id k,ρ id=some k→ρ' id=some k)→(∀id k,ρ' id=some k→ρ id=some k∨((S i).n≤id∧id<(S i).n+(eff E i).cnt))→
   XRel w' R' ρ' v (eff E i).v→(∀b,R b→w'.heap[b]? =w.heap[b]?)→K (a.put oi.dst v) w':=by
  intro v w' R' o' ρ' hX W' H' h1 h2 hv h3;refine hK R' _ _ hX ⟨by rw[Q75];exact M.size,by rw[←M.defers];cases oi.dst<;>rfl,⟨o',ρ',W',H',λt=>?_,λid k hk=>?_,λid hid=>?_,hpin.2⟩,λhmt=>hme hmt,hcl⟩
  ·rw[put_get a oi.dst v t hdN,hown];split
   ·exact hv
   exact(hx t).mono (λb hb=>⟨hX.1 b hb,h3 b hb⟩) h1
  ·rcases h2 id k hk with h4|h4
   ·rcases hρ id k h4 with h5|⟨j,hj,hLj,h5⟩
    ·exact .inl h5
    exact .inr ⟨j,hj,by simp only[upL];split<;>simp_all,h5⟩
   exact .inr ⟨i,hin,by simp[upL],h4.1,by rw[T.n hin];exact h4.2⟩
  rw[←hpin.1 id hid];cases hr:ρ id with
  |some k=>exact h1 id k hr
  |none=>
   cases hr':ρ' id with
   |none=>rfl
   |some k=>
    exfalso;rcases h2 id k hr' with h4|h4
    ·rw[hr]at h4;cases h4
    have:=T.nle (show 0≤i by omega) (by omega);have:=hpin.2;omega
 have hhU:=hU_upL T hin hL hW;have hguard:∀b,Q2f ops oi (S i)=some b→Region.wanted oi (yielded ops a.tmps)=b:=by
  intro b hb;unfold Q2f at hb;unfold Region.wanted;split at hb
  ·rename_i hg;rw[hg];simpa using hb
  rename_i j want hg;rw[hg];split at hb
  ·rename_i t ht;split at hb
   ·rename_i bb hbb;have h1:=hx t;rw[hslot t (Q2v hg ht),hbb]at h1;have h2:=h1.val_eq.1;have h3:a.tmps[t]? =some (.bool bb):=by
     cases hh:a.tmps[t]? with
     |none=>simp[hh,undef]at h2
     |some x=>simp[hh]at h2;rw[h2]
    simp only[yielded,ht,yA,h3];simp only[qA]at hb;rw[←hb];cases bb<;>cases want<;>rfl
   ·rename_i htt;have h1:=hx t;rw[hslot t (Q2v hg ht),htt]at h1;obtain⟨cs,h2,h3,_⟩:=h1.tup_eq;have h4:cs=#[]:=(by simpa using h3);subst h4;simp only[qA]at hb;rw[←hb];have h5:a.tmps[t]? =none∨a.tmps[t]? =some (.tuple #[]):=by
     cases hh:a.tmps[t]? with
     |none=>exact .inl rfl
     |some x=>simp[hh]at h2;rw[h2];exact .inr rfl
    rcases h5 with h5|h5<;>simp[yielded,ht,h5]
   cases hb
  cases hb
 have hrun:=T.run i oi hi;unfold wpOp;rw[hi];simp only;cases hE:E i with
 |none=>
  rw[hE]at hrun;rw[hguard false hrun.1];simp only[zM,if_false];have heff:eff E i={v:=.tup []}:=by simp[eff,hE]
  refine fin undef w R o ρ .refl W ?_ (λ_ _ h=>h) (λ_ _ h=>.inl h) (by rw[heff];exact .tup rfl λk hk=>by simp at hk) (λ_ _=>rfl);rw[hhU,heff];cases isW mt ops i<;>simpa[QH]using H
 |some e=>
  rw[hE]at hrun;obtain⟨hwant,hop,_⟩:=hrun;have heff:eff E i=e:=by simp[eff,hE]
  rw[hguard true hwant];simp only[if_true]
  let ev:Operand→AV:=λx=>if x∈oi.op.operands then(S i).ev x else .bot
  have hev:∀x,XRel w R ρ (a.eval x) (ev x):=by
   intro x;simp only[ev];split
   ·rename_i hmem;cases x with
    |tmp t=>
     have:=hx t;rw[hslot t (Q3y hmem)]at this;exact this
    |const v=>
     simp only[St.ev,cst,Act.eval];split
     ·rename_i hsc;exact .r (.val (Q6F hsc))
     exact .bot
    |global=>exact .bot
    |func f=>exact .fn (by simp) (λk hk=>by simp at hk)
   exact .bot
  have hop1:AOp P mt oi.op ev (S i).hp (S i).n e:=hop.congr λx hx=>by simp only[ev];rw[if_pos hx]
  have hop2:AOp P mt oi.op ev (hU mt ops S E L ops.size) (S i).n e∧(∀p∈e.new,hU mt ops S E L ops.size p.1=some p.2):=by
   cases ht:Q14 oi.op with
   |false=>
    have hc:=hop1.calm ht;exact⟨hc.2 _,by rw[hc.1.2.2.1];simp⟩
   |true=>
    have hok:=T.all i (by omega);have up:AOp P mt oi.op ev (HS S E ops.size i) (S i).n e:=by
     refine hop1.up (λid x hid=>?_) λid hid=>?_
     ·have hid':look id (S i).h=some x:=hid;simp only[HS,hid']
     simp only[HS,St.hp];cases hh:look id (S i).h with
     |some x=>rfl
     |none=>
      cases hl:look id (Q2E E i (ops.size - i))with
      |none=>rfl
      |some x=>
       obtain⟨p,hp,hpe⟩:=List.mem_map.1 (Q2l hl);have:=(Q3I T (ops.size - i) i (by omega) p hp).1;omega
    have nw:∀p∈e.new,HS S E ops.size i p.1=some p.2:=by
     intro p hp;have hfe:e.fine (S i).n:=(by rw[←heff];exact hf);have hlt:=(hfe.new p hp).1;have hnone:look p.1 (S i).h=none:=by
      cases hh:look p.1 (S i).h with
      |none=>rfl
      |some x=>have:=hok _ _ hh;omega
     simp only[HS,hnone];have hlat:Q2E E i (ops.size - i)=(eff E i).new++Q2E E (i+1) (ops.size - (i+1)):=by
      rw[show ops.size - i=(ops.size - (i+1))+1 by omega];rfl
     rw[hlat,Q25,heff,QQ hfe.nodup hp]
    by_cases hlate:∃k,i<k∧k<ops.size∧L k=true∧isW mt ops k=true
    ·obtain⟨k1,hk1,hk2,hk3,hk4⟩:=hlate;have hg1:=zP hk2;have hwk1:wrM mt (ops[k1]).op=true:=(by simpa[isW,hg1]using hk4);obtain⟨m,hm1,hm2,hm3,hm4,hm5⟩:=hU_lastF (S:=S) (E:=E) L ops.size ⟨k1,hk2,hk3,hk4⟩;have him:i≤m:=by
      rcases zR m i with h|h
      ·have:=hm3 k1 (by omega) hk2 hk3;rw[this]at hk4;cases hk4
      exact h
     rw[hm2];have hne:i≠m:=λq=>by rw[q,hm4]at hL;cases hL
     have hgm:=zP hm1;have hwm:wrM mt (ops[m]).op=true:=(by simpa[isW,hgm]using hm5);have hr:=(hB m _ (by omega) hgm hm4).2 (by simp only[Q40,ht,hwm,Bool.and_self,Bool.or_true]);exact(hr _ hi).2 ev e (by omega) (by omega) hop1 heff.symm up nw (λt ht=>by simp only[ev];rw[if_pos ht];rfl)
    have e1:hU mt ops S E L ops.size=HS S E ops.size i:=by
     rw[Q52 L i ops.size (by omega) λk hk1 hk2 hk3=>?_]
     ·refine Q9w T L i (by omega) λk hk hwk=>?_;have hks:k<ops.size:=(by omega);have hg:=zP hks;have hwk':wrM mt (ops[k]).op=true:=(by simpa[isW,hg]using hwk);rcases hA k _ hk hg (by simp only[Q3m,zS,qG];left;right;exact⟨⟨hwk',(tchr hrd _).trans ht⟩,by rw[easyr hbi];rfl⟩)with h|h
      ·exact h
      have:=(h.1 _ hg).1;rw[hwk']at this;cases this
     by_cases hki:k=i
     ·subst hki;rw[hL]at hk3;cases hk3
     cases hwk:isW mt ops k with
     |false=>rfl
     |true=>exact absurd ⟨k,by omega,hk2,hk3,hwk⟩ hlate
    rw[e1];exact⟨up,nw⟩
  have hfr:∀id,(S i).n≤id→id<(S i).n+e.cnt→ρ id=none:=by
   intro id h1 h2;cases hh:ρ id with
   |none=>rfl
   |some k=>
    have hni:=T.n hin;rw[heff]at hni;rcases hρ id k hh with h3|⟨j,hj,hLj,h3,h4⟩
    ·have:=T.nle (show 0≤i by omega) (by omega);omega
    rcases yH j i with hji|hji|hji
    ·have:=T.nle (show j+1≤i by omega) (by omega);omega
    ·subst hji;rw[hL]at hLj;cases hLj
    have:=T.nle (show i+1≤j by omega) (by omega);omega
  have hlim:wrM mt oi.op=true→∀id k,ρ id=some k→id<(S i).n:=by
   intro hw id k hk;rcases hρ id k hk with h3|⟨j,hj,hLj,h3,h4⟩
   ·exact qN h3 (T.nle (by omega) (by omega))
   rcases yH j i with hji|hji|hji
   ·have:=T.nle (show j+1≤i by omega) (by omega);omega
   ·subst hji;rw[hL]at hLj;cases hLj
   have hg:=zP hj;have h5:Q14 (ops[j]).op=false:=by
    cases h:Q14 (ops[j]).op with
    |false=>rfl
    |true=>
     have h2:=(hB j _ hji hg hLj).2 (by simp only[Q40,hw,h,Bool.and_self,Bool.true_or]);have:=(h2 _ hi).1;rw[hw]at this;cases this
   have h6:=(T.step hg).2.2.2 ((tchr hrd _).trans h5);have:=T.n hj;rw[h6.2.2.2]at this;omega
  have hstep:=hop2.1.step (λh=>hlim (lim_wr h)) hev W H hop2.2 hfr;refine hstep K (λ_ _ _=>True) λv w' R' o' ρ' hX W' H' h1 h2 hv h3=>?_;have hv':XRel w' R' ρ' v (eff E i).v:=by rw[heff];exact hv
  refine fin v w' R' o' ρ' hX W' ?_ h1 (by rw[heff];exact h2) hv' h3;rw[hhU,heff];cases hw:isW mt ops i with
  |true=>exact H'
  |false=>
   have hwf:wrM mt oi.op=false:=(by simpa[isW,hi]using hw);have:=hnw hwf;rw[heff]at this;rw[QH this.1 this.2]at H';rw[cond_false,QH rfl rfl];exact H'
def okFar(mt:MT)(far:Nat→Nat→Bool)(ops:Array Oper):Bool:=
 let ms:=Q3i ops.toList []
 (yB ops.size).all λj=>(yB j).all λi=>
  match ops[i]?,ops[j]? with
  |some x,some y=>(!Q2t ops x y&&(!Q40 mt x y||far i j))||(ms.getD j 0).testBit i
  |_,_=>true
theorem Q6A{far:Nat→Nat→Bool}{ops:Array Oper}(h:okFar mt far ops=true){i j:Nat}{x y:Oper}(hij:i<j)(hx:ops[i]? =some x)(hy:ops[j]? =some y):
  ((Q3i ops.toList []).getD j 0).testBit i=true∨(Q2t ops x y=false∧(Q40 mt x y=true→far i j=true)):=by
 unfold okFar at h;have h2:=h;simp only[qW,List.mem_range]at h2;have hj:j<ops.size:=by
  rcases zR j ops.size with h'|h'
  ·exact h'
  simp[Array.getElem?_eq_none h']at hy
 have:=h2 j hj i hij;rw[hx,hy]at this;simp only[zS,qG,Bool.not_eq_true']at this;rcases this with⟨h3,h4⟩|h3
 ·refine .inr ⟨h3,λhm=>?_⟩;rcases h4 with h4|h4
  ·rw[hm]at h4;cases h4
  exact h4
 exact .inl h3
theorem Q9L(hrd:mt.rd=[])(hbi:mt.bi=false)(far:Nat→Nat→Bool)(T:Tr P mt ops S E)(hN:okN N ops=true)(mv:∀i j,far i j=true→MovF P mt ops S E i j)(hreg:okFar mt far ops=true)(hback:Q2b ops=true)(hm:P.follows .mixedOrders=true){id:Nat}{Q:Exit→Act→World→Prop}{a:Act}{w:World}(h:Rel C R N a w (S 0))(hQ:∀R' a' w',RX R R' C.w0.heap.size→Rel C R' N a' w' (S ops.size)→Q .normal a' w'):(Code.region id ops true).wpT P Q a w:=by
 refine wp_region_any hm λwr hrl=>?_;have key:∀(fuel:Nat) (listed:Array Bool) (R':Nat→Prop) (a:Act) (w':World),RX R R' C.w0.heap.size→listed.size=ops.size→left (λk=>listed.getD k false) ops.size≤fuel→
   (∀j,listed.getD j false=true→∀i,((Q3i ops.toList []).getD j 0).testBit i=true→listed.getD i false=true)→Mid mt C R' N ops S E wr.drew (λk=>listed.getD k false) a w'→wpAny P .any ops Q fuel listed a w':=by
  intro fuel
  induction fuel with
  |zero=>
   intro listed R' a w' hX hsz hleft hanc M;have hall:=Q5U _ (show left (λk=>listed.getD k false) ops.size=0 by omega);refine⟨?_,hQ _ _ _ hX (Q4u T M hall)⟩;cases hr:Region.ready .any ops listed with
   |nil=>rfl
   |cons x xs=>
    have hx:x∈Region.ready .any ops listed:=(by rw[hr];simp);obtain⟨hf,o,ho,_⟩:=mem_ready.1 hx;have hxs:=(Array.getElem?_eq_some_iff.1 ho).1;have h1:listed.getD x false=true:=hall x hxs;have:listed.getD x true=listed.getD x false:=(by simp[show x<listed.size by omega]);rw[this,h1]at hf;cases hf
  |succ fuel ih=>
   intro listed R' a w' hX hsz hleft hanc M;refine⟨λhr=>?_,λi hi w₁ hrl1=>?_⟩
   ·
    have hall:∀k,k<ops.size→listed.getD k false=true:=by
     intro k
     induction k using yF with
     |_ k ihk=>
      intro hk;cases hl:listed.getD k false with
      |true=>rfl
      |false=>
       have:k∈Region.ready .any ops listed:=by
        refine mem_ready.2 ⟨?_,ops[k],zP hk,λe he hb=>?_⟩
        ·have:listed.getD k true=listed.getD k false:=(by simp[show k<listed.size by omega]);rw[this,hl]
        have h1:=hback;unfold Q2b at h1;simp only[qW]at h1;have h2:=h1 (ops[k],k) (List.mk_mem_zipIdx_iff_getElem?.2 (by simp[hk])) e (by simpa using he);rw[hb]at h2;have hlt:e.on<k:=(by simpa using h2);exact ihk e.on hlt (by omega)
       rw[hr]at this;cases this
    exact hQ _ _ _ hX (Q4u T M hall)
   obtain⟨hf,oi,hoi,hafter⟩:=mem_ready.1 hi;have hin:=(Array.getElem?_eq_some_iff.1 hoi).1;have hLi:listed.getD i false=false:=by
    have:listed.getD i true=listed.getD i false:=(by simp[show i<listed.size by omega]);rw[←this];exact hf
   have hanci:∀k,((Q3i ops.toList []).getD i 0).testBit k=true→listed.getD k false=true:=by
    intro k hk;obtain⟨o',ho',e,he,hb,hx⟩:=Q5X ops.toList [] i k (by simp) hk;have hoo:o'=oi:=by
     simp only[List.length_nil,yG]at ho';rw[yE,hoi]at ho';simpa using ho'.symm
    subst hoo;have h1:=hafter e (by simpa using he) hb;rcases hx with hx|⟨_,hx⟩
    ·rw[←hx];exact h1
    exact hanc _ h1 _ hx
   refine mid_stepF hrd hbi T (Q5F hN) hoi hLi (λk o hk ho hc=>?_) (λk o hk ho hLk=>?_) (M.rly hrl1) λR'' a' w'' hX' M'=>?_
   ·rcases Q6A hreg hk ho hoi with h|⟨h1,h2⟩
    ·exact .inl (hanci k h)
    rw[Q7s hrd hbi,h1,Bool.false_or]at hc;exact .inr ⟨mv k i (h2 hc),h1⟩
   ·rcases Q6A hreg hk hoi ho with h|⟨h1,h2⟩
    ·have:=hanc k hLk i h;rw[hLi]at this;cases this
    exact⟨h1,λhc=>mv i k (h2 hc)⟩
   have hset:∀k,(listed.setIfInBounds i true).getD k false=upL (λk=>listed.getD k false) i k:=by
    intro k;simp only[upL]
    by_cases hk:k=i
    ·subst hk;simp[show k<listed.size by omega]
    rw[if_neg hk,getD_set_ne false (Ne.symm hk)]
   refine ih _ R'' a' w'' (hX.trans hX' (qF _)) (by simpa using hsz) ?_ ?_ (M'.congrL λk=>(hset k).symm)
   ·have h1:=Q8o (L:=λk=>listed.getD k false) hLi ops.size;rw[if_pos hin]at h1;have h2:left (λk=>(listed.setIfInBounds i true).getD k false) ops.size=left (upL (λk=>listed.getD k false) i) ops.size:=by
     congr 1;funext k;exact hset k
    omega
   intro j hj k hk;rw[hset]at hj⊢;simp only[upL]at hj⊢
   by_cases hki:k=i
   ·rw[if_pos hki]
   rw[if_neg hki]
   by_cases hji:j=i
   ·subst hji;exact hanci k hk
   rw[if_neg hji]at hj;exact hanc j hj k hk
 refine key ops.size _ R a _ .refl (by simp) ?_ ?_ ?_
 ·have:∀m,left (λk=>(zY ops.size false).getD k false) m≤m:=by
   intro m
   induction m with
   |zero=>simp[left]
   |succ m ih=>simp only[left];split<;>omega
  exact this _
 ·intro j hj;exfalso
  by_cases hjs:j<ops.size
  ·simp[hjs]at hj
  simp[hjs]at hj
 refine Q4L T (h.rly hrl).drew λk=>?_
 by_cases hk:k<ops.size
 ·simp[hk]
 simp[hk]
end
end
end Go.Vc
