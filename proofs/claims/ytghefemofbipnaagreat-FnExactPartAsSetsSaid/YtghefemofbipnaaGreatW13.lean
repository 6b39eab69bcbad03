/- A part of the proof. -/
import Derived.Test.YtghefemofbipnaaGreatW12
import Derived.IntWalk
import Derived.Laws.BytesString
import Derived.Scope
set_option maxRecDepth 100000
set_option maxHeartbeats 4000000
set_option linter.unusedSimpArgs false
set_option linter.unusedVariables false
set_option linter.unusedSectionVars false
set_option linter.unnecessarySimpa false

open Option.some renaming injEq→qA
open List renaming getD_eq_getElem?_getD→qG
open Prod.mk renaming injEq→qH
open Array renaming getElem?_eq_getElem→zA
open Nat renaming le_refl→qC
open Nat renaming lt_of_lt_of_le→qD
open Option renaming getD_some→qB
open List renaming getElem?_eq_getElem→qI
open List renaming range→zG
open Nat renaming lt_or_ge→zB
open List renaming map_cons→qN
open Array renaming getElem?_append→qY
open Array renaming replicate→zE
namespace Go.Vc
open Go
inductive Good:AV→Prop
 | val {v}:sc v→Good (.val v)
 | lst {u sz es}:es.length≤maxLen→(∀ i,i<es.length→(es.getD i []).length=sz)→(∀ i k,i<es.length→k<sz→Good ((es.getD i []).getD k .bot))→Good (.lst u sz es)
 | rptr {cs}:(∀ k,k<cs.length→Good (cs.getD k .bot))→Good (.rptr cs)
 | agg {cs}:(∀ k,k<cs.length→Good (cs.getD k .bot))→Good (.agg cs)
 | other {a}:(match a with|.val _|.lst _ _ _|.rptr _|.agg _=>False|_=>True)→Good a
theorem RRel.good {w:World} {R:Nat→Prop} {v:Value} {a:AV} (h:RRel w R v a):Good a:=by
 induction h with
 | val h=>exact .val h
 | nil=>exact .lst (by simp) (fun i hi=>by simp at hi) (fun i k hi=>by simp at hi)
 | lst us _ _ h1 h2 h3 _ _ _ ih=>exact .lst (by omega) h3 ih
 | rptr us _ _ _ _ _ ih=>exact .rptr ih
 | fn=>exact .other trivial
 | bnd=>exact .other trivial
 | ifc=>exact .other trivial
 | ifs=>exact .other trivial
 | cmap=>exact .other trivial
 | bot=>exact .other trivial
theorem XRel.good {w:World} {R:Nat→Prop} {ρ:Nat→Option Bk} {v:Value} {a:AV} (h:XRel w R ρ v a):Good a:=by
 induction h with
 | r h=>exact h.good
 | agg _ _ _ ih=>exact .agg ih
 | _=>exact .other trivial
section
variable {P:Program} [Kd P] {F:Fx} {AQ:Exit→St→Prop} {st:St} {c:Code}
theorem Q61 (t:Nat) (h:Good (st.get t)→Wp P F c AQ st):Wp P F c AQ st:=by
 intro a w hr;have:Good (st.get t):=by
  obtain ⟨_,_,_,_,_,o,ρ,_,_,hx,_⟩:=hr;exact (hx t).good
 exact h this a w hr
theorem w_sr {id:Nat} {ops:Array Oper} {d:Bool} {y:Code} (hm:P.follows .mixedOrders=true) (hok:(okN F.N ops && (!d || (Q4j false ops && Q29 ops)))=true)
  (h:∀ K:St→Prop,(∀ st',Wp P F y AQ st'→K st')→QN P false ops ops.toList st K):Wp P F (.seq (.region id ops d) y) AQ st :=
 Q3 (w_run hm hok fun K hK=>h K fun st' h'=>hK st' h')
theorem Q5d {id:Nat} {ops:Array Oper} {d:Bool} {y:Code} (hm:P.follows .mixedOrders=true) (hok:(okN F.N ops && (!d || (Q4j true ops && Q29 ops)))=true)
  (h:∀ K:St→Prop,(∀ st',Wp P F y AQ st'→K st')→QN P true ops ops.toList st K):Wp P F (.seq (.region id ops d) y) AQ st :=
 Q3 (w_runM hm hok fun K hK=>h K fun st' h'=>hK st' h')
end
def Is (xs:List Int):List (List AV):=xs.map fun x=>[.val (.int .i64 x)]
@[simp] theorem Is_length (xs:List Int):(Is xs).length=xs.length:=by simp [Is]
@[simp] theorem Is_nil:Is []=[]:=rfl
theorem Is_get (xs:List Int) (i:Nat) (h:i<xs.length):(Is xs).getD i []=[.val (.int .i64 (xs.getD i 0))]:=by
 simp [Is,qG,h]
theorem Is_append (xs ys:List Int):Is (xs++ys)=Is xs++Is ys:=by simp [Is]
def B64 (x:Int):Prop:=-9223372036854775808≤x∧x≤9223372036854775807
theorem Good.is {u:Bool} {xs:List Int} (h:Good (.lst u 1 (Is xs))):xs.length≤9223372036854775807∧∀ x∈xs,B64 x:=by
 cases h with
 | lst h1 h2 h3 =>
  refine ⟨by rw [Is_length] at h1;exact Nat.le_trans h1 (by decide),fun x hx=>?_⟩;obtain ⟨i,hi,rfl⟩:=List.getElem_of_mem hx;have:=h3 i 0 (by simpa using hi) (by omega);rw [Is_get _ _ hi] at this;simp only [List.getD_cons_zero] at this;cases this with
  | val h =>
   simp only [sc] at h;have e1:IntKind.i64.min = -9223372036854775808:=(by decide);have e2:IntKind.i64.max=9223372036854775807:=(by decide);simpa [qG,hi,B64,e1,e2] using h
  | other h=>exact h.elim
 | other h=>exact h.elim
@[simp] theorem i64_min:IntKind.i64.min = -9223372036854775808:=by decide
theorem QB {x:Int} (h:B64 x):IntKind.i64.wrap x=x:=IntWalk.i64_in x h
theorem QF (xs:List Int) (i:Nat) (h:i<xs.length):(Is xs)[i]? = some [.val (.int .i64 xs[i])]:=by simp [Is,h]
attribute [local simp] QF
theorem Qs (xs:List Int) (i:Nat) (h:i<(Is xs).length):(Is xs)[i]=[.val (.int .i64 (xs[i]'(by simpa using h)))]:=by simp [Is]
attribute [local simp] Qs
@[simp] theorem Is_set (xs:List Int) (i:Nat) (x:Int):(Is xs).set i [.val (.int .i64 x)]=Is (xs.set i x):=by simp [Is,List.map_set]
@[simp] theorem Is_rep (n:Nat) (x:Int):List.replicate n [.val (.int .i64 x)]=Is (List.replicate n x):=by simp [Is]
theorem Qh {t:Nat} {v v':Value} {st:St} (h:st.get t = .val v) (e:v=v'):RetA [t] st [.val v']:=by
 subst e;refine ⟨?_,[.val v],[],?_,.nil,UpL.refl _⟩
 ·simp only [qN,List.map_nil,h];exact .one rfl rfl .nil
 simp only [qN,List.map_nil,h,List.flatMap_cons,List.flatMap_nil,AV.cells,List.append_nil];rfl
theorem Q4F {t id n sz:Nat} {es fs:List (List AV)} {st:St} (h:st.get t = .own id 0 n) (he:look id st.h=some (.row sz es)) (hn:es.length=n) (e:es=fs):RetA [t] st [.lst true sz fs]:=by
 subst e;refine ⟨?_,[.lst true sz es],[id],?_,by simp,UpL.refl _⟩
 ·simp only [qN,List.map_nil,h];exact .one rfl rfl .nil
 have he':st.hp id=some (.row sz es):=he;simp only [qN,List.map_nil,h,List.flatMap_cons,List.flatMap_nil,AV.cells,List.append_nil];simp [Q21,layC,layD,Go.Vc.depth,he',hn]
theorem Qi {i n:Nat} (h:i<n) (hn:n≤9223372036854775807):IntKind.i64.wrap ((i:Int)+1)=((i+1:Nat):Int):=by
 rw [QB ⟨by omega,by omega⟩];rfl
def contE (h:HP) (d:Nat):Option Ent→Option (Nat × List (List AV))
 | some (.mix sz es)=>some (sz,es)
 | some (.row sz es)=>some (sz,es)
 | some (.ali c i k sz)=>if Ql (h c) then none else match cont h d c with
   | some (_,es)=>match (es.getD i []).getD k .bot with
    | .lst true sz' es'=>if sz'=sz then some (sz,es') else none
    | _=>none
   | none=>none
 | some (.mapE _ _)=>none
 | none=>none
theorem cont_E {h:HP} {d id:Nat}:cont h (d+1) id=contE h d (h id):=by
 simp only [cont];cases h id with
 | none=>rfl
 | some e=>cases e<;>rfl
def wrE (h:HP) (d id:Nat) (es:List (List AV)):Option Ent→Option (List (Nat × Ent))
 | some (.mix sz _)=>some [(id,.mix sz es)]
 | some (.row sz _)=>some [(id,.row sz es)]
 | some (.ali c i k sz)=>match cont h d c with
   | some (_,fs)=>wr h d c (fs.set i ((fs.getD i []).set k (.lst true sz es)))
   | none=>none
 | some (.mapE _ _)=>none
 | none=>none
theorem wr_E {h:HP} {d id:Nat} {es:List (List AV)}:wr h (d+1) id es=wrE h d id es (h id):=by
 simp only [wr];cases h id with
 | none=>rfl
 | some e=>cases e<;>rfl
def Q8o (t:Tyi) (id i k n:Nat):Option (Nat × List (List AV))→Option (Prop × Eff)
 | some (sz,es)=>some (i<es.length∧k+t.sz≤sz,{ v:=bif t.agg then .agg (QU id i k n (((es.getD i []).drop k).take t.sz)).1 else (QU id i k n (((es.getD i []).drop k).take t.sz)).1.getD 0 .bot,new:=(QU id i k n (((es.getD i []).drop k).take t.sz)).2,cnt:=t.sz })
 | none=>none
def Q9T (t:Tyi) (id i k n:Nat) (h:HP):Option Ent→Option (Prop × Eff)
 | some (.mix sz es)=>some (i<es.length∧k+t.sz≤sz,{ v:=bif t.agg then .agg (((es.getD i []).drop k).take t.sz) else (es.getD i []).getD k .bot })
 | some (.row sz es)=>Q8o t id i k n (some (sz,es))
 | some (.ali _ _ _ _)=>Q8o t id i k n (cont h depth id)
 | some (.mapE _ _)=>none
 | none=>none
theorem Q8p {t:Tyi} {id i k n:Nat} {h:HP}:Q3h (some t) (.adr id i k) h n=Q9T t id i k n h (h id):=by
 simp only [Q3h,Q9T];cases he:h id with
 | none=>rfl
 | some e =>
  cases e with
  | mix=>rfl
  | row sz es =>
   have:cont h depth id=some (sz,es):=(by simp [cont,depth,he]);simp only [this,Q8o]
  | ali=>simp only [Q8o];cases cont h depth id<;>rfl
  | mapE kd es =>
   have:cont h depth id=none:=(by simp [cont,depth,he]);simp only [this]
def Q50 (t:Tyi) (id i k:Nat) (x:AV) (h:HP):Option (Nat × List (List AV))→Option (Prop × Eff)
 | some (sz,es)=>match x with
  | .val v=>if t.sz=1∧Q6q v=true then
    match wr h depth id (es.set i ((es.getD i []).set k (.val v))) with
    | some s=>some (i<es.length∧k<sz,{ v:=.bot,set:=s })
    | none=>none
   else none
  | _=>none
 | none=>none
def Q7Q (t:Tyi) (id i k:Nat) (x:AV) (h:HP):Option Ent→Option (Prop × Eff)
 | some (.mix sz es)=>if x.cells.length=t.sz && Q58 x then
    some (i<es.length∧k+t.sz≤sz,{ v:=.bot,set:=[(id,.mix sz (es.set i (Q1t (es.getD i []) k x.cells)))] })
   else none
 | some (.row _ _)=>Q50 t id i k x h (cont h depth id)
 | some (.ali _ _ _ _)=>Q50 t id i k x h (cont h depth id)
 | some (.mapE _ _)=>none
 | none=>none
theorem storev_E {t:Tyi} {id i k:Nat} {x:AV} {h:HP}:Q2Y (some t) (.adr id i k) x h=Q7Q t id i k x h (h id):=by
 simp only [Q2Y,Q7Q];cases he:h id with
 | none=>rfl
 | some e =>
  cases e with
  | mapE kd es =>
   have:cont h depth id=none:=(by simp [cont,depth,he]);simp only [this]
  | _=>first|rfl|(simp only [Q50];cases cont h depth id<;>rfl)
def layE (h:HP) (d:Nat) (id n:Nat):Option Ent→Option (AV × List Nat)
 | some (.row sz es)=>if es.length=n then some (.lst true sz es,[id]) else none
 | some (.mix sz es)=>if es.length=n then match Q1L (layD h d) es with
   | some (q,ds)=>some (.lst true sz q,id :: ds)
   | none=>none
   else none
 | some (.ali _ _ _ _)=>none
 | some (.mapE _ _)=>none
 | none=>none
theorem layD_val {h:HP} {d:Nat} {v:Value}:layD h (d+1) (.val v)=some (.val v,[]):=rfl
theorem layD_E {h:HP} {d id n:Nat}:layD h (d+1) (.own id 0 n)=layE h d id n (h id):=by
 simp only [layD,layE];cases he:h id with
 | none=>rfl
 | some e=>cases e<;>rfl
def idxC (t:Tyi) (id off n:Nat) (j:Int):Option (Nat × List (List AV))→Option (Prop × Eff)
 | some (sz,_)=>if sz=t.sz then some (0≤j∧j<n,{ v:=.adr id (off+j.toNat) 0 }) else none
 | none=>none
theorem Q8k {t:Tyi} {id off n:Nat} {k:IntKind} {j:Int} {h:HP}:Q1K (some t) (.own id off n) (.val (.int k j)) h=idxC t id off n j (cont h depth id):=by
 simp only [Q1K,idxC];cases cont h depth id<;>rfl
theorem Q8j {t:Tyi} {u:Bool} {sz:Nat} {es:List (List AV)} {k:IntKind} {j:Int} {h:HP} :
  Q1K (some t) (.lst u sz es) (.val (.int k j)) h=if sz=t.sz then some (0≤j∧j<es.length,{ v:=.rptr (es.getD j.toNat []) }) else none:=rfl
def srcE (h:HP) (sz id off n:Nat):Option Ent→Option (Prop × List (List AV) × List Nat)
 | some (.mix sz' es)=>if sz'=sz then match Q4f h ((es.drop off).take n) with
   | some (q,d)=>some (off+n≤es.length,q,d)
   | none=>none
   else none
 | some (.row sz' es)=>if sz'=sz then some (off+n≤es.length∧∀ e∈es,∀ c∈e,isVal c=true,(es.drop off).take n,[]) else none
 | some (.ali _ _ _ _)=>match cont h depth id with
   | some (sz',es)=>if sz'=sz then some (off+n≤es.length∧∀ e∈es,∀ c∈e,isVal c=true,(es.drop off).take n,[]) else none
   | none=>none
 | some (.mapE _ _)=>none
 | none=>none
theorem src_nil {h:HP} {sz:Nat}:src h sz (.val (.slice none 0 0))=some (True,[],[]):=rfl
theorem src_lst {h:HP} {sz:Nat} {u:Bool} {sz':Nat} {es:List (List AV)}:src h sz (.lst u sz' es)=if sz'=sz then some (∀ e∈es,∀ c∈e,isVal c=true,es,[]) else none:=rfl
theorem src_E {h:HP} {sz id off n:Nat}:src h sz (.own id off n)=srcE h sz id off n (h id):=by
 simp only [src,srcE];cases he:h id with
 | none=>rfl
 | some e =>
  cases e with
  | mix=>rfl
  | row sz' es =>
   have:cont h depth id=some (sz',es):=(by simp [cont,depth,he]);simp only [this]
  | mapE kd es =>
   have:cont h depth id=none:=(by simp [cont,depth,he]);simp only [this]
  | ali=>rfl
def baseE (h:HP) (sz id m:Nat):Option Ent→Option (Prop × List (List AV) × List Nat × List Nat)
 | some (.row sz' es)=>if sz'=sz then some (m≤es.length,es.take m,[id],[]) else none
 | some (.mix sz' es)=>if sz'=sz then match Q4f h (es.take m) with
   | some (q,d)=>some (m≤es.length,q,[id],d)
   | none=>none
   else none
 | some (.ali _ _ _ _)=>none
 | some (.mapE _ _)=>none
 | none=>none
theorem base_nil {h:HP} {sz:Nat}:base h sz (.val (.slice none 0 0))=some (True,[],[],[]):=rfl
theorem base_E {h:HP} {sz id m:Nat}:base h sz (.own id 0 m)=baseE h sz id m (h id):=by
 simp only [base,baseE];cases he:h id with
 | none=>rfl
 | some e=>cases e<;>rfl
def appE (t:Tyi) (n:Nat):Option (Prop × List (List AV) × List Nat × List Nat)→Option (Prop × List (List AV) × List Nat)→Option (Prop × Eff)
 | some (c1,es,i,d1),some (c2,news,d2) =>
   if (n :: (i++(d1++d2))).Nodup then
    some (c1∧c2∧(es.length+news.length) * t.bytes≤140737488355328∧es.length+news.length≤140737488355328∧0<t.sz,
     { v:=.own n 0 (es.length+news.length),del:=i++(d1++d2),new:=[(n,.row t.sz (es++news))],cnt:=1 }) else none
 | _,_=>none
theorem appendv_E {t:Tyi} {s x:AV} {h:HP} {n:Nat}:Q26 (some t) s x h n=appE t n (base h t.sz s) (src h t.sz x):=by
 simp only [Q26,appE];cases base h t.sz s with
 | none=>rfl
 | some p=>cases src h t.sz x<;>rfl
def slcC (t:Tyi) (id off n:Nat) (lo hi:Int):Option (Nat × List (List AV))→Option (Prop × Eff)
 | some (sz,_)=>if sz=t.sz then some (0≤lo∧lo≤hi∧hi≤n,{ v:=.own id (off+lo.toNat) (hi - lo).toNat }) else none
 | none=>none
theorem Q8D {t:Tyi} {h:HP} {id off n:Nat} {lo hi:Int}:Q1O t h (.own id off n) lo hi=slcC t id off n lo hi (cont h depth id):=by
 simp only [Q1O,slcC];cases cont h depth id<;>rfl
theorem Q8C {t:Tyi} {h:HP} {u:Bool} {sz:Nat} {es:List (List AV)} {lo hi:Int} :
  Q1O t h (.lst u sz es) lo hi=if sz=t.sz then some (0≤lo∧lo≤hi∧hi≤es.length,{ v:=.lst u sz ((es.drop lo.toNat).take (hi - lo).toNat) }) else none:=rfl
@[simp] theorem hp_mk {s:List (Nat × AV)} {h:List (Nat × Ent)} {n id:Nat}:St.hp ⟨s,h,n⟩ id=look id h:=rfl
section
variable {h:HP} {d id n k i c j l off m sz:Nat} {es:List (List AV)} {t:Tyi} {x:AV} {q:Int}
@[simp] theorem contE_mix:contE h d (some (.mix sz es))=some (sz,es):=rfl
@[simp] theorem contE_row:contE h d (some (.row sz es))=some (sz,es):=rfl
def contI (h:HP) (d i k sz:Nat):Bool→Option (Nat × List (List AV))→Option (Nat × List (List AV))
 | true,_=>none
 | false,some (_,es)=>match (es.getD i []).getD k .bot with
    | .lst true sz' es'=>if sz'=sz then some (sz,es') else none
    | _=>none
 | false,none=>none
@[simp] theorem contE_ali:contE h d (some (.ali c i k sz))=contI h d i k sz (Ql (h c)) (cont h d c):=by
 simp only [contE,contI];cases Ql (h c) with
 | true=>rfl
 | false=>simp only [Bool.false_eq_true,if_false];cases cont h d c<;>rfl
@[simp] theorem contI_some {z:Nat}:contI h d i k sz false (some (z,es))=match (es.getD i []).getD k .bot with
    | .lst true sz' es'=>if sz'=sz then some (sz,es') else none
    | _=>none:=rfl
@[simp] theorem wrE_mix:wrE h d id es (some (.mix sz es))=some [(id,.mix sz es)]:=rfl
@[simp] theorem wrE_row {fs:List (List AV)}:wrE h d id es (some (.row sz fs))=some [(id,.row sz es)]:=rfl
@[simp] theorem loadC_some:Q8o t id i k n (some (sz,es))=some (i<es.length∧k+t.sz≤sz,{ v:=bif t.agg then .agg (QU id i k n (((es.getD i []).drop k).take t.sz)).1 else (QU id i k n (((es.getD i []).drop k).take t.sz)).1.getD 0 .bot,new:=(QU id i k n (((es.getD i []).drop k).take t.sz)).2,cnt:=t.sz }):=rfl
@[simp] theorem loadE_mix:Q9T t id i k n h (some (.mix sz es))=some (i<es.length∧k+t.sz≤sz,{ v:=bif t.agg then .agg (((es.getD i []).drop k).take t.sz) else (es.getD i []).getD k .bot }):=rfl
@[simp] theorem loadE_row:Q9T t id i k n h (some (.row sz es))=Q8o t id i k n (some (sz,es)):=rfl
@[simp] theorem loadE_ali:Q9T t id i k n h (some (.ali c j l sz))=Q8o t id i k n (cont h depth id):=rfl
@[simp] theorem loadv_rptr {cs:List AV}:Q3h (some t) (.rptr cs) h n=some (t.sz≤cs.length,{ v:=bif t.agg then .agg (cs.take t.sz) else cs.getD 0 .bot }):=rfl
@[simp] theorem storeC_some {v:Value}:Q50 t id i k (.val v) h (some (sz,es))=if t.sz=1∧Q6q v=true then (wr h depth id (es.set i ((es.getD i []).set k (.val v)))).map (fun s=>(i<es.length∧k<sz,{ v:=.bot,set:=s })) else none:=by
 simp only [Q50];split
 ·cases wr h depth id (es.set i ((es.getD i []).set k (.val v)))<;>rfl
 rfl
@[simp] theorem storeC_own {a b c:Nat}:Q50 t id i k (.own a b c) h (some (sz,es))=none:=rfl
@[simp] theorem storeE_mix:Q7Q t id i k x h (some (.mix sz es))=if x.cells.length=t.sz && Q58 x then
    some (i<es.length∧k+t.sz≤sz,{ v:=.bot,set:=[(id,.mix sz (es.set i (Q1t (es.getD i []) k x.cells)))] }) else none:=rfl
@[simp] theorem storeE_row:Q7Q t id i k x h (some (.row sz es))=Q50 t id i k x h (cont h depth id):=rfl
@[simp] theorem storeE_ali:Q7Q t id i k x h (some (.ali c j l sz))=Q50 t id i k x h (cont h depth id):=rfl
@[simp] theorem layE_row:layE h d id n (some (.row sz es))=if es.length=n then some (.lst true sz es,[id]) else none:=rfl
@[simp] theorem layE_mix:layE h d id n (some (.mix sz es))=if es.length=n then (Q1L (layD h d) es).map (fun p=>(.lst true sz p.1,id :: p.2)) else none:=by
 simp only [layE];split
 ·cases Q1L (layD h d) es<;>rfl
 rfl
@[simp] theorem idxC_some:idxC t id off n q (some (sz,es))=if sz=t.sz then some (0≤q∧q<n,{ v:=.adr id (off+q.toNat) 0 }) else none:=rfl
@[simp] theorem srcE_mix {z:Nat}:srcE h sz id off n (some (.mix z es))=if z=sz then (Q4f h ((es.drop off).take n)).map (fun p=>(off+n≤es.length,p.1,p.2)) else none:=by
 simp only [srcE];split
 ·cases Q4f h ((es.drop off).take n)<;>rfl
 rfl
@[simp] theorem srcE_row {z:Nat}:srcE h sz id off n (some (.row z es))=if z=sz then some (off+n≤es.length∧∀ e∈es,∀ c∈e,isVal c=true,(es.drop off).take n,[]) else none:=rfl
@[simp] theorem baseE_row {z:Nat}:baseE h sz id m (some (.row z es))=if z=sz then some (m≤es.length,es.take m,[id],[]) else none:=rfl
@[simp] theorem baseE_mix {z:Nat}:baseE h sz id m (some (.mix z es))=if z=sz then (Q4f h (es.take m)).map (fun p=>(m≤es.length,p.1,[id],p.2)) else none:=by
 simp only [baseE];split
 ·cases Q4f h (es.take m)<;>rfl
 rfl
@[simp] theorem appE_some {c1 c2:Prop} {is d1 d2:List Nat} {news:List (List AV)}:appE t n (some (c1,es,is,d1)) (some (c2,news,d2))=if (n :: (is++(d1++d2))).Nodup then
    some (c1∧c2∧(es.length+news.length) * t.bytes≤140737488355328∧es.length+news.length≤140737488355328∧0<t.sz,
     { v:=.own n 0 (es.length+news.length),del:=is++(d1++d2),new:=[(n,.row t.sz (es++news))],cnt:=1 }) else none:=rfl
@[simp] theorem slcC_some {lo hi:Int}:slcC t id off n lo hi (some (sz,es))=if sz=t.sz then some (0≤lo∧lo≤hi∧hi≤n,{ v:=.own id (off+lo.toNat) (hi - lo).toNat }) else none:=rfl
end
def runE (P:Program) [Kd P] (mt:MT) (all:Array Oper) (os:List Oper) (dst:Option Nat) (st:St) (K:St→Prop) (x:Option (Prop × Eff)):Prop:=Q68 (fun st'=>QN P mt all os st' K) dst st x
def runS (P:Program) [Kd P] (mt:MT) (all:Array Oper) (os:List Oper) (dst:Option Nat) (st:St) (K:St→Prop) (t:TypeId) (av xv:AV) (x:Option (Prop × Eff)):Prop:=Q4I (fun st'=>QN P mt all os st' K) (stoA P mt all t av xv dst os st K) dst st x
def runO (P:Program) [Kd P] (mt:MT) (all:Array Oper) (os:List Oper) (dst:Option Nat) (st:St) (K:St→Prop) (op:Op):Prop:=Q5a P mt all os K (fun st'=>QN P mt all os st' K) dst st op
def Q4Q (P:Program) [Kd P] (mt:MT) (all:Array Oper) (os:List Oper) (dst:Option Nat) (st:St) (K:St→Prop) (op:Op) (t:Nat) (want:Bool) (x:AV):Prop:=guardW P mt all os K (fun st'=>QN P mt all os st' K) dst st op t want x
def guardT (P:Program) [Kd P] (mt:MT) (all:Array Oper) (os:List Oper) (dst:Option Nat) (st:St) (K:St→Prop) (op:Op) (want:Bool) (x:Option Nat):Prop:=Q8i P mt all os K (fun st'=>QN P mt all os st' K) dst st op want x
section
variable {P:Program} [Kd P] {mt:MT} {all:Array Oper} {os:List Oper} {dst:Option Nat} {st:St} {K:St→Prop} {op:Op} {ty:TypeId} {pos:String} {af:Array Edge}
@[simp] theorem runE_some {c:Prop} {e:Eff}:runE P mt all os dst st K (some (c,e))=(c∧QN P mt all os (st.app dst e) K):=rfl
@[simp] theorem callE_fn {f:Nat} {caps az:List AV}:callE P mt all az dst os st K (.fn f caps)=Q88 P mt all f (az++caps) dst os st K:=rfl
@[simp] theorem runO_call {x:Operand} {args:Array Operand} {ts:Array TypeId}:runO P mt all os dst st K (.call ⟨.value x,args,ts⟩)=callE P mt all (args.toList.map st.ev) dst os st K (st.ev x):=rfl
@[simp] theorem runO_move {x}:runO P mt all os dst st K (.move x)=QN P mt all os (st.app dst { v:=st.ev x }) K:=by simp [runO,Q5a,Q68,opF]
@[simp] theorem runO_assign {x}:runO P mt all os dst st K (.assign x)=QN P mt all os (st.app dst { v:=st.ev x }) K:=by simp [runO,Q5a,Q68,opF]
@[simp] theorem runO_pick {c a b}:runO P mt all os dst st K (.pick c a b)=runE P mt all os dst st K (pick (st.ev c) (st.ev a) (st.ev b)):=rfl
@[simp] theorem runO_alloc {e}:runO P mt all os dst st K (.alloc e)=runE P mt all os dst st K (Vc.alloc (tyi P e) st.n):=rfl
@[simp] theorem runO_box {t x}:runO P mt all os dst st K (.box t x)=runE P mt all os dst st K (boxv (st.ev x) st.n):=rfl
@[simp] theorem runO_build {t parts}:runO P mt all os dst st K (.build t parts)=runE P mt all os dst st K (build (tyi P t) (Q4W P t) (parts.toList.map fun p=>(p.1,st.ev p.2))):=rfl
def elmE (g:TypeId→Option (Prop × Eff)):Option TypeId→Option (Prop × Eff)
 | some e=>g e
 | none=>none
@[simp] theorem elmE_some {g:TypeId→Option (Prop × Eff)} {e:TypeId}:elmE g (some e)=g e:=rfl
@[simp] theorem runO_buildSlice {t len parts}:runO P mt all os dst st K (.buildSlice t len parts)=runE P mt all os dst st K (elmE (fun e=>buildSlice (tyi P e) len (parts.toList.map fun p=>(p.1,st.ev p.2)) st.n) (elm P t)):=by
 simp only [runO,runE,Q5a,opF];cases elm P t<;>rfl
@[simp] theorem runO_load {t a}:runO P mt all os dst st K (.load t a)=runE P mt all os dst st K (Q3h (tyi P t) (st.ev a) st.hp st.n):=rfl
@[simp] theorem runO_store {t a x}:runO P mt all os dst st K (.store t a x)=runS P mt all os dst st K t (st.ev a) (st.ev x) (Q2Y (tyi P t) (st.ev a) (st.ev x) st.hp):=rfl
@[simp] theorem runS_some {t:TypeId} {av xv:AV} {c:Prop} {e:Eff}:runS P mt all os dst st K t av xv (some (c,e))=(c∧QN P mt all os (st.app dst e) K):=rfl
@[simp] theorem runS_none {t:TypeId} {av xv:AV}:runS P mt all os dst st K t av xv none=stoA P mt all t av xv dst os st K:=rfl
@[simp] theorem runO_nilCheck {x}:runO P mt all os dst st K (.nilCheck x)=runE P mt all os dst st K (nilCheck (st.ev x)):=rfl
@[simp] theorem runO_binOp {o xt x y yt}:runO P mt all os dst st K (.binOp o xt x y yt)=runE P mt all os dst st K (Q47 (eqT P xt) o (st.ev x) (st.ev y)):=rfl
@[simp] theorem runO_unOp {o t x}:runO P mt all os dst st K (.unOp o t x)=runE P mt all os dst st K (unop o (st.ev x)):=rfl
@[simp] theorem runO_convert {s d x}:runO P mt all os dst st K (.convert s d x)=runE P mt all os dst st K (Q64 (intk P s) (intk P d) (st.ev x)):=rfl
@[simp] theorem runO_makeSlice {t l c}:runO P mt all os dst st K (.makeSlice t l c)=runE P mt all os dst st K (elmE (fun e=>Q4U (tyi P e) (st.ev l) (st.ev c) st.n) (elm P t)):=by
 simp only [runO,runE,Q5a,opF];cases elm P t<;>rfl
@[simp] theorem runO_fieldAddr {t x k}:runO P mt all os dst st K (.fieldAddr t x k)=runE P mt all os dst st K (fieldAddr (fld P t k) (st.ev x)):=rfl
@[simp] theorem runO_field {t x k}:runO P mt all os dst st K (.field t x k)=runE P mt all os dst st K (Q5u (fld P t k) (st.ev x)):=rfl
@[simp] theorem runO_indexAddr {t x i}:runO P mt all os dst st K (.indexAddr t x i)=runE P mt all os dst st K (elmE (fun e=>Q1K (tyi P e) (st.ev x) (st.ev i) st.hp) (elm P t)):=by
 simp only [runO,runE,Q5a,opF];cases elm P t<;>rfl
@[simp] theorem runO_extract {x k}:runO P mt all os dst st K (.extract x k)=runE P mt all os dst st K (Q33 (st.ev x) k):=rfl
@[simp] theorem runO_len {x t ts} (h:ts = #[t]):runO P mt all os dst st K (.call ⟨.builtin .len,#[x],ts⟩)=runE P mt all os dst st K (elmE (fun _=>lenv (st.ev x)) (elm P t)):=by
 subst h;simp only [runO,runE,Q5a,opF,bltF];cases elm P t<;>rfl
@[simp] theorem runO_append {x y t u}:runO P mt all os dst st K (.call ⟨.builtin .append,#[x,y],#[t,u]⟩)=runE P mt all os dst st K (elmE (fun e=>if t=u then Q26 (tyi P e) (st.ev x) (st.ev y) st.hp st.n else none) (elm P t)):=by
 simp only [runO,runE,Q5a,opF,bltF];cases elm P t<;>rfl
@[simp] theorem runO_min {xs ts}:runO P mt all os dst st K (.call ⟨.builtin .min,xs,ts⟩)=runE P mt all os dst st K (Q3M (fun a b=>if b<a then b else a) (xs.toList.map st.ev)):=rfl
@[simp] theorem runO_max {xs ts}:runO P mt all os dst st K (.call ⟨.builtin .max,xs,ts⟩)=runE P mt all os dst st K (Q3M (fun a b=>if b > a then b else a) (xs.toList.map st.ev)):=rfl
@[simp] theorem runOps_nil:QN P mt all [] st K=K st:=rfl
@[simp] theorem runOps_go:QN P mt all (⟨dst,op,ty,pos,af,none⟩ :: os) st K=runO P mt all os dst st K op:=rfl
@[simp] theorem runOps_guard {j:Nat} {want:Bool}:QN P mt all (⟨dst,op,ty,pos,af,some (j,want)⟩ :: os) st K=guardT P mt all os dst st K op want ((all[j]?).bind (·.dst)):=rfl
@[simp] theorem guardT_some {want:Bool} {t:Nat}:guardT P mt all os dst st K op want (some t)=Q4Q P mt all os dst st K op t want (st.get t):=rfl
theorem Qf {want:Bool} {t:Nat} {b:Bool}:Q4Q P mt all os dst st K op t want (.val (.bool b))=((b=want→runO P mt all os dst (st.put t (.val (.bool want))) K op)∧(b = !want→QN P mt all os ((st.put t (.val (.bool !want))).app dst { v:=.tup [] }) K)):=rfl
attribute [local simp] Qf
@[simp high] theorem guardE_tup {t:Nat} {want:Bool}:Q4Q P mt all os dst st K op t want (.tup [])=QN P mt all os (st.app dst { v:=.tup [] }) K:=rfl
@[simp high] theorem guardE_tt {t:Nat}:Q4Q P mt all os dst st K op t true (.val (.bool true))=runO P mt all os dst (st.put t (.val (.bool true))) K op:=by simp [Qf]
@[simp high] theorem guardE_ff {t:Nat}:Q4Q P mt all os dst st K op t false (.val (.bool false))=runO P mt all os dst (st.put t (.val (.bool false))) K op:=by simp [Qf]
@[simp high] theorem guardE_tf {t:Nat}:Q4Q P mt all os dst st K op t true (.val (.bool false))=QN P mt all os ((st.put t (.val (.bool false))).app dst { v:=.tup [] }) K:=by simp [Qf]
@[simp high] theorem guardE_ft {t:Nat}:Q4Q P mt all os dst st K op t false (.val (.bool true))=QN P mt all os ((st.put t (.val (.bool true))).app dst { v:=.tup [] }) K:=by simp [Qf]
end
attribute [simp] cont_E wr_E Q8p storev_E layD_val layD_E Q8k Q8j src_nil src_lst src_E base_nil base_E appendv_E Q8D Q8C
attribute [simp] rl rlL rlLL rlE Q6q St.ev cst scB St.app putS Q4Z Q4c Q3H St.get look lenv Q47 Q9E unop pick St.put setH delH fieldAddr Q5u nilCheck depth Ql Q4L Q5r roundA Q4U Q64 Q33 slen Q6v Q3M Q9O build Q66 Q1t Q7e rep Q4P buildSlice Q21 Q1L layC alloc boxv QU AV.cells isVal Q58
section
attribute [local simp] Qf QF Qs
def Q4D:Nat→List Mu→List (Nat × Ent)
 | _,[]=>[]
 | j,u :: r=>(j,.row u.sz u.es) :: Q4D (j+1) r
theorem Q9U:∀ (ms:List Mu) (j id:Nat),look id (Q4D j ms)=if j≤id∧id<j+ms.length then some (.row (ms.getD (id - j) .none).sz (ms.getD (id - j) .none).es) else none:=by
 intro ms
 induction ms with
 | nil=>intro j id;simp only [Q4D,look];rw [if_neg (by simp)]
 | cons u r ih =>
  intro j id;simp only [Q4D,look]
  by_cases h:j=id
  ·subst h;simp
  rw [if_neg h,ih]
  by_cases h2:j+1≤id∧id<j+1+r.length
  ·rw [if_pos h2,if_pos (by simp;omega)];have:id - j=(id - (j+1))+1:=(by omega);rw [this,List.getD_cons_succ]
  rw [if_neg h2,if_neg (by simp;omega)]
def Qa3 (ts:List Nat) (st:St) (res:AV):Prop :=
 match ts,res with
 | [t],.val v=>st.get t = .val v
 | [],.tup []=>True
 | _,_=>False
structure MRet (ts:List Nat) (res:AV) (ms:List Mu) (st:St):Prop where
 res:Qa3 ts st res
 ent:∀ j,j<ms.length→look j st.h=some (.row (ms.getD j .none).sz (ms.getD j .none).fs)
def mretQ (ts:List Nat) (res:AV) (ms:List Mu):Exit→St→Prop
 | .normal,st=>MRet ts res ms st
 | .ret,st=>MRet ts res ms st
 | _,_=>False
theorem Q1g {P:Program} [Kd P] {f:Nat} {fn:Func} {c:Code} {args:List AV} {ms:List Mu} {ts:List Nat} {res:AV} {rv:Value} (hf:P.funcs[f]? = some fn) (hb:fn.body=some c) (hrt:resT fn.results=some ts) (hrv:resV res=some rv)
  (hname : (fn.name == "runtime.NumGoroutine") = false) (hN : args.length ≤ fn.ntmps) (hlen : ∀ j, j < ms.length → (ms.getD j .none).fs.length = (ms.getD j .none).es.length)
  (h:∀ F:Fx,F.N=fn.ntmps→F.pins=ms.length→Wp P F c (mretQ ts res ms) ⟨Q3H 0 args,Q4D 0 ms,ms.length⟩):MContract P f args ms res:=by
 refine ⟨⟨fn,hf,hname,by rw [hb];rfl⟩,hlen,rv,hrv,fun w R o ρ vals hp=>?_⟩;refine Q2n hf hb ?_
 let C:Ctx:=⟨w,fun b=>∃ L,o b=some L,ρ,ms.length⟩
 have hment:∀ id e,look id (Q4D 0 ms)=some e→id<ms.length∧e = .row (ms.getD id .none).sz (ms.getD id .none).es:=by
  intro id e he;rw [Q9U] at he;split at he
  ·rename_i h1;simp only [Nat.sub_zero,qA] at he;exact ⟨by omega,he.symm⟩
  cases he
 have hsz:=hp.size;have hrel:Rel C R fn.ntmps { tmps:=vals++zE (fn.ntmps - vals.size) undef,defers:=[] } w ⟨Q3H 0 args,Q4D 0 ms,ms.length⟩:=by
  refine ⟨by simp;omega,rfl,fun id x h=>(hment id x h).1,o,ρ,⟨hp.hR,fun b L hb=>⟨hp.ho b L hb,.inr ⟨L,hb⟩⟩,rfl,⟨rfl,qC _⟩,rfl,qC _,fun b _ _=>rfl⟩,
   ⟨fun id sz es bk he hb=>?_,fun id sz es bk he hb=>?_,fun id c i k sz bk he hb=>?_,fun id kd es bk he hb=>?_⟩,fun t=>?_,fun id k hk=>hp.lim id k hk,fun id _=>rfl,qC _⟩
  ·have:=(hment id _ he).2;cases this
  ·obtain ⟨h1,h2⟩:=hment id _ he;cases h2;obtain ⟨v,h3,h4⟩:=hp.ent id bk h1 hb;exact ⟨v,h4,h3⟩
  ·have:=(hment id _ he).2;cases this
  ·have:=(hment id _ he).2;cases this
  simp only [St.get,Q2R]
  by_cases ht:t<args.length
  ·rw [if_pos (by omega)];simp only [Nat.sub_zero,qB];have:=hp.args t ht;have h2:(vals++zE (fn.ntmps - vals.size) undef).getD t undef=vals.getD t undef:=by
    simp [qY,show t<vals.size by omega]
   rw [h2];exact this
  rw [if_neg (by omega)];exact .bot
 refine Q4v (fun e a w' hq=>?_) (h ⟨C,R,fn.ntmps,ms.length,rfl⟩ rfl rfl _ w (.of hrel));obtain ⟨st,⟨R',hX,hr⟩,hq⟩:=hq;have fin:MRet ts res ms st→a.defers=[]∧∃ v,(results fn a.tmps).run P w' = .ok v w'∧(Ending.returned v = .returned rv∧MPost w w' R o ρ ms):=by
  intro hA;obtain ⟨_,hdef,_,o',ρ',W,H,hx,_,hpin⟩:=hr;refine ⟨hdef,_,Q3Z hrt _,?_,W.os,W.tape,W.output,W.size,fun b hb hob=>W.keep b hb (by rintro ⟨L,hL⟩;rw [hob] at hL;cases hL),o',fun b L hb=>W.o b L hb,fun j bk hj hbk=>?_⟩
  ·have h1:=hA.res;unfold Qa3 at h1;split at h1
   ·rename_i t v;have h2:=hx t;rw [h1] at h2;simp only [resV] at hrv;split at hrv
    ·cases hrv;simp only [qN,List.map_nil,Q2y];rw [h2.val_eq.1]
    cases hrv
   ·simp only [resV,qA] at hrv;subst hrv;rfl
   exact h1.elim
  obtain ⟨v,h1,h2⟩:=H.row j _ _ bk (hA.ent j hj) ((hpin.1 j hj).trans hbk);exact ⟨v,h2,h1.anyR⟩
 cases e with
 | normal=>exact fin hq
 | ret=>exact fin hq
 | _=>exact hq.elim
def Q67:Ent→Bool
 | .ali _ _ _ _=>true
 | _=>false
theorem MCall.cell {st:St} {id r i k sz szr:Nat} {es fs:List (List AV)} {esr:List (List AV)} {dels:List Nat} (h1:look id st.h=some (.ali r i k sz)) (h2:look r st.h=some (.row szr esr)) (hi:i<esr.length) (hk:k<szr) (hks:k<(esr.getD i []).length)
  (hc:(esr.getD i []).getD k .bot = .lst true sz es) (hd:∀ x∈dels,x<st.n) (ha:∀ p∈st.h,Q67 p.2=true→p.1∈dels) :
  MCall st.hp st.n [⟨sz,es,fs⟩] [id] (fun _=>[r,i,k]) [(r,.row szr (esr.set i ((esr.getD i []).set k (.lst true sz fs))))] dels:=by
 have h0:∀ j,j < [(⟨sz,es,fs⟩:Mu)].length→j=0:=fun j hj=>by simpa using hj
 have hset:=fun j l=>Q4l esr i k (.lst true sz fs) j l hi hks;refine ⟨rfl,fun j hj=>?_,fun i' j hi' hj hij=>?_,by simp,fun r' e he=>?_,fun j r' M hj hP=>?_,hd,fun id' c i' k' s' hid he=>.inl ?_⟩
 ·have:=h0 j hj;subst this;exact .cell h1 h2 hi hk hc
 ·have:=h0 j hj;have:=h0 i' hi';omega
 ·simp only [look] at he;split at he
  ·rename_i hr;subst hr;simp only [qA] at he;subst he;refine ⟨szr,esr,_,h2,rfl,⟨fun j hj hP=>by simp at hP,by simp,fun _ j hj=>by rw [Q6T],fun i2 k2 j hj hP hi2 hk2=>?_,fun i2 k2 hi2 hk2 hm=>?_⟩⟩
   ·have:=h0 j hj;subst this;simp only [List.cons.injEq,and_true,true_and] at hP;rw [hset];rw [if_pos ⟨hP.1.symm,hP.2.symm⟩];rfl
   rw [hset];rw [if_neg]
   rintro ⟨rfl,rfl⟩
   exact (hm 0 (by simp)).2 rfl
  cases he
 ·simp only [List.cons.injEq] at hP;simp [look,hP.1]
 exact ha (id',_) (Qk he) rfl
def Q4G:List Nat→List Mu→List (Nat × Ent)
 | id :: m,u :: ms=>(id,.row u.sz u.fs) :: Q4G m ms
 | _,_=>[]
theorem Q4H:∀ (m:List Nat) (ms:List Mu),m.length=ms.length→(Q4G m ms).map Prod.fst=m:=by
 intro m
 induction m with
 | nil=>intro ms _;cases ms<;>rfl
 | cons id m ih =>
  intro ms h;cases ms with
  | nil=>simp at h
  | cons u ms=>simp [Q4G,ih ms (by simpa using h)]
theorem Qa4:∀ (m:List Nat) (ms:List Mu) (r:Nat) (e:Ent),m.length=ms.length→look r (Q4G m ms)=some e→∃ j,j<ms.length∧m.getD j 0=r∧e = .row (ms.getD j .none).sz (ms.getD j .none).fs:=by
 intro m
 induction m with
 | nil=>intro ms r e _ h;cases ms<;>cases h
 | cons id m ih =>
  intro ms r e hl h;cases ms with
  | nil=>simp at hl
  | cons u ms =>
   simp only [Q4G,look] at h;split at h
   ·rename_i hr;cases h;exact ⟨0,by simp,by simpa using hr,rfl⟩
   obtain ⟨j,h1,h2,h3⟩:=ih ms r e (by simpa using hl) h;exact ⟨j+1,by simpa using h1,by simpa using h2,by simpa using h3⟩
theorem Q98 {m:List Nat} (hn:m.Nodup) {i j:Nat} (hi:i<m.length) (hj:j<m.length) (h:m.getD i 0=m.getD j 0):i=j:=by
 rw [qG,qG,qI hi,qI hj] at h;exact (List.getElem_inj hn).1 (by simpa using h)
theorem MCall.roots {st:St} {ms:List Mu} {m:List Nat} {dels:List Nat} (hl:m.length=ms.length) (hn:m.Nodup) (hr:∀ j,j<ms.length→look (m.getD j 0) st.h=some (.row (ms.getD j .none).sz (ms.getD j .none).es))
  (hlen:∀ j,j<ms.length→(ms.getD j .none).fs.length=(ms.getD j .none).es.length) (hd:∀ x∈dels,x<st.n) (ha:∀ p∈st.h,Q67 p.2=true→p.1∈dels) :
  MCall st.hp st.n ms m (fun j=>[m.getD j 0]) (Q4G m ms) dels:=by
 refine ⟨hl,fun j hj=>.root (hr j hj),fun i j hi hj hij hp=>?_,by rw [Q4H m ms hl];exact hn,fun r e he=>?_,fun j r M hj hP=>?_,hd,fun id' c i' k' s' hid he=>.inl ?_⟩
 ·have h1:m.getD i 0=m.getD j 0:=by simpa using hp
  exact hij (Q98 hn (by omega) (by omega) h1)
 ·obtain ⟨j,h1,h2,h3⟩:=Qa4 m ms r e hl he;refine ⟨_,(ms.getD j .none).es,(ms.getD j .none).fs,by rw [← h2];exact hr j h1,h3,⟨fun j' hj' hP=>?_,hlen j h1,fun hne=>?_,fun i k j' hj' hP=>?_,fun i k hi hk hm=>?_⟩⟩
  ·have h4:m.getD j' 0=m.getD j 0:=(by rw [h2];simpa using hP);rw [Q98 hn (by omega) (by omega) h4]
  ·exact absurd (by rw [h2]) (hne j h1)
  ·simp at hP
  exact absurd (by rw [h2]) (hm j h1).1
 ·simp only [List.cons.injEq] at hP;have hk:r∈(Q4G m ms).map Prod.fst:=by
   rw [Q4H m ms hl,← hP.1,qG,qI (by omega)];simp
  cases hlk:look r (Q4G m ms) with
  | some x=>rfl
  | none =>
   exfalso;obtain ⟨q,hq,hqe⟩:=List.mem_map.1 hk;obtain ⟨a,b⟩:=q;simp only at hqe;subst hqe;rw [Q13 (by rw [Q4H m ms hl];exact hn) hq] at hlk;cases hlk
 exact ha (id',_) (Qk he) rfl
theorem Q1C {P:Program} [Kd P] {all:Array Oper} {f:Nat} {id n:Nat} {v:Value} {u:Mu} {res:AV} {dst:Option Nat} {os:List Oper} {st:St} {K:St→Prop} (hc:MContract P f [.own 0 0 n,.val v] [u] res)
  (hr:look id st.h=some (.row u.sz u.es)) (ha:∀ p∈st.h,Q67 p.2=false) (h:QN P true all os (st.app dst { v:=res,set:=[(id,.row u.sz u.fs)] }) K):Q88 P true all f [.own id 0 n,.val v] dst os st K:=by
 have h0:∀ j,j < [u].length→j=0:=fun j hj=>by simpa using hj
 refine Q5s (m:=[id]) hc (MCall.roots (dels:=[]) rfl (by simp) (fun j hj=>by have:=h0 j hj;subst this;exact hr) hc.len (by simp) (fun p hp hi=>by rw [ha p hp] at hi;cases hi)) rfl (fun q hq=>?_) (fun j hj=>⟨0,by simp,?_⟩) h
 ·match q,hq with
  | 0,_=>exact .own (j:=0) (by simp)
  | 1,_=>exact .val
 have:=h0 j hj;subst this;rfl
theorem stoA_row {P:Program} [Kd P] {mt:MT} {all:Array Oper} {t:TypeId} {ty:Tyi} {xv b:AV} {id i k sz:Nat} {es:List (List AV)} {ds:List Nat} {dst:Option Nat} {os:List Oper} {st:St} {K:St→Prop} (dels:List Nat) (h1:tyi P t=some ty) (h2:ty.sz=1)
  (he:look id st.h=some (.row sz es)) (hl:layC st.hp xv=some (b,ds)) (hi:i<es.length) (hk:k<sz) (hn:(id :: ds).Nodup) (hlt:∀ y∈ds++dels,y<st.n) (ha:∀ p∈st.h,Q67 p.2=true→p.1∈dels)
  (h:QN P mt all os (st.app dst { v:=.bot,set:=[(id,.row sz (es.set i ((es.getD i []).set k b)))],del:=ds++dels }) K):stoA P mt all t (.adr id i k) xv dst os st K :=
 Qaj dels h1 h2 ⟨he,hl,hi,hk,hn,hlt,fun id' _ _ _ _ _ h3=>.inl (ha (id',_) (Qk h3) rfl)⟩ h
attribute [simp] Q67 Q4D Qa3
end
section
attribute [local simp] Qf QF Qs
theorem PurTo.aggL {h:HP} {xs ys:List AV} (hp:PurL h xs ys):PurTo h (.agg xs) (.agg ys):=.agg hp.1 hp.2
inductive MArgL (m:List Nat):List AV→List AV→Prop
 | nil:MArgL m [] []
 | cons {a b xs ys}:MArg m a b→MArgL m xs ys→MArgL m (a :: xs) (b :: ys)
theorem MArgL.get {m:List Nat} {xs ys:List AV} (h:MArgL m xs ys):xs.length=ys.length∧∀ k,k<ys.length→MArg m (xs.getD k .bot) (ys.getD k .bot):=by
 induction h with
 | nil=>exact ⟨rfl,fun k hk=>by simp at hk⟩
 | cons h _ ih =>
  refine ⟨by simp [ih.1],fun k hk=>?_⟩;cases k with
  | zero=>simpa using h
  | succ k=>simpa using ih.2 k (by simpa using hk)
theorem MArg.aggL {m:List Nat} {xs ys:List AV} (h:MArgL m xs ys):MArg m (.agg xs) (.agg ys):=.agg h.get.1 fun k hk=>h.get.2 k (by have:=h.get.1;omega)
inductive Roots (h:List (Nat × Ent)):List Nat→List Mu→Prop
 | nil:Roots h [] []
 | cons {id u m ms}:look id h=some (.row u.sz u.es)→Roots h m ms→Roots h (id :: m) (u :: ms)
theorem Roots.get {h:List (Nat × Ent)} {m:List Nat} {ms:List Mu} (hr:Roots h m ms):m.length=ms.length∧∀ j,j<ms.length→look (m.getD j 0) h=some (.row (ms.getD j .none).sz (ms.getD j .none).es):=by
 induction hr with
 | nil=>exact ⟨rfl,fun j hj=>by simp at hj⟩
 | cons h _ ih =>
  refine ⟨by simp [ih.1],fun k hk=>?_⟩;cases k with
  | zero=>simpa using h
  | succ k=>simpa using ih.2 k (by simpa using hk)
def occC (id:Nat):AV→Bool
 | .own i _ _=>Nat.beq i id
 | _=>false
def occB (id:Nat):AV→Bool
 | .own i _ _=>Nat.beq i id
 | .agg cs=>cs.any (occC id)
 | _=>false
theorem occC_own {id:Nat} {a:AV} (h:occC id a=true):∃ off n,a = .own id off n:=by
 unfold occC at h;split at h
 ·cases Nat.eq_of_beq_eq_true h;exact ⟨_,_,rfl⟩
 cases h
theorem occB_occ {id:Nat} {a:AV} (h:occB id a=true):Occ id a:=by
 unfold occB at h;split at h
 ·exact Nat.eq_of_beq_eq_true h
 ·rename_i cs;obtain ⟨x,hx,hc⟩:=List.any_eq_true.1 h;obtain ⟨l,hl,rfl⟩:=List.getElem_of_mem hx;obtain ⟨off,n,he⟩:=occC_own hc;exact ⟨l,hl,off,n,by simp [qG,hl,he]⟩
 cases h
theorem Q32 {P:Program} [Kd P] {all:Array Oper} {f:Nat} {az args:List AV} {m:List Nat} {ms:List Mu} {res:AV} {dst:Option Nat} {os:List Oper} {st:St} {K:St→Prop} (hc:MContract P f args ms res)
  (hn:m.Nodup) (hr:Roots st.h m ms) (ha:MArgL m az args) (ho:(m.all fun id=>az.any (occB id))=true) (hali:∀ p∈st.h,Q67 p.2=false)
  (h:QN P true all os (st.app dst { v:=res,set:=Q4G m ms }) K):Q88 P true all f az dst os st K:=by
 refine Q5s (m:=m) hc (MCall.roots (dels:=[]) hr.get.1 hn hr.get.2 hc.len (by simp) (fun p hp hi=>by rw [hali p hp] at hi;cases hi)) ha.get.1 ha.get.2 (fun j hj=>?_) h;have hj':j<m.length:=by rw [hr.get.1];exact hj
 have:=List.all_eq_true.1 ho _ (List.getElem_mem hj');obtain ⟨a,ha1,ha2⟩:=List.any_eq_true.1 this;obtain ⟨k,hk,rfl⟩:=List.getElem_of_mem ha1;refine ⟨k,by rw [← ha.get.1];exact hk,?_⟩;have:=occB_occ ha2;simpa [qG,hj',hk] using this
inductive Ents (h:List (Nat × Ent)):Nat→List Mu→Prop
 | nil {j}:Ents h j []
 | cons {j u ms}:look j h=some (.row u.sz u.fs)→Ents h (j+1) ms→Ents h j (u :: ms)
theorem Ents.get {h:List (Nat × Ent)} {j:Nat} {ms:List Mu} (he:Ents h j ms):∀ i,i<ms.length→look (j+i) h=some (.row (ms.getD i .none).sz (ms.getD i .none).fs):=by
 induction he with
 | nil=>intro i hi;simp at hi
 | cons h _ ih =>
  intro i hi;cases i with
  | zero=>simpa using h
  | succ i=>have:=ih i (by simpa using hi);simpa [Nat.add_comm,Nat.add_left_comm] using this
theorem mret {ts:List Nat} {res:AV} {ms:List Mu} {st:St} (h1:Qa3 ts st res) (h2:Ents st.h 0 ms):MRet ts res ms st:=⟨h1,fun j hj=>by simpa using h2.get j hj⟩
end
section
attribute [local simp] Qf QF Qs
structure IRet (ts:List Nat) (H:List (Nat × Ent)) (n:Nat) (e:Eff) (st:St):Prop where
 res:Q1Q (ts.map st.get)=e.v
 n:st.n=n+e.cnt
 h:st.h=Q4Z e.set (Q4c e.del H)++e.new
end
section
attribute [local simp] Qf QF Qs
inductive RGet (P:Program) (st:St):List ResultVar→List AV→Prop
 | nil:RGet P st [] []
 | tmp {t r az}:RGet P st r az→RGet P st (.tmp t :: r) (st.get t :: az)
 | cell {a t ty id i k sz es r az}:tyi P t=some ty→ty.agg=true→st.get a = .adr id i k→look id st.h=some (.mix sz es)→i<es.length→k+ty.sz≤sz→RGet P st r az →
   RGet P st (.cell a t :: r) (.agg (((es.getD i []).drop k).take ty.sz) :: az)
 | cell1 {a t ty id i k sz es r az}:tyi P t=some ty→ty.agg=false→0<ty.sz→st.get a = .adr id i k→look id st.h=some (.mix sz es)→i<es.length→k+ty.sz≤sz→RGet P st r az →
   RGet P st (.cell a t :: r) ((es.getD i []).getD k .bot :: az)
def resM (tmps:Array Value):ResultVar→Sem Value
 | .tmp t=>pure (tmps.getD t undef)
 | .cell a t=>do loadVar t (← asAddr (tmps.getD a undef))
theorem rget_run {P:Program} [Kd P] {R:Nat→Prop} {w:World} {st:St} {o:Nat→Option (List Nat)} {ρ:Nat→Option Bk} (H:HRel w ⟨R,o,ρ⟩ st.hp) {tmps:Array Value} (hx:∀ t,XRel w R ρ (tmps.getD t undef) (st.get t))
  {rvs:List ResultVar} {az:List AV} (hg:RGet P st rvs az):∃ vs:List Value,(rvs.mapM (resM tmps)).run P w = .ok vs w∧vs.length=az.length∧∀ k,k<az.length→XRel w R ρ (vs.getD k undef) (az.getD k .bot):=by
 induction hg with
 | nil=>exact ⟨[],by simp,rfl,fun k hk=>by simp at hk⟩
 | @tmp t r az _ ih =>
  obtain ⟨vs,h1,h2,h3⟩:=ih;refine ⟨tmps.getD t undef :: vs,by simp [List.mapM_cons,resM,h1],by simp [h2],fun k hk=>?_⟩;cases k with
  | zero=>exact hx t
  | succ k=>exact h3 k (by simpa using hk)
 | @cell a t ty id i k sz es r az hty hag ha hl hi hk _ ih =>
  obtain ⟨vs,h1,h2,h3⟩:=ih;have hxa:=hx a;rw [ha] at hxa;obtain ⟨b,bsz,cap,hbk,hv⟩:=hxa.adr_eq;obtain ⟨b',cur,el,us,cpm,hbk',ho',hh,hsz',hcp,hml,hlen,hcur,hone,hxr⟩:=(H.mix id sz es _ hl hbk).ex (by simp);simp only [Bk.mk.injEq,qA] at hbk';obtain ⟨rfl,rfl,_⟩:=hbk';have hrun:=Q3Y (P:=P) (w:=w) hty (b:=b) (x:=i * bsz+k) (us:=fun j=>us i (k+j)) (fun j hj=>by
   rw [QZ hh,Nat.add_assoc];exact hcur i (k+j) hi (by omega))
  rw [hag] at hrun;simp only [cond_true] at hrun;have hlen2:(((es.getD i []).drop k).take ty.sz).length=ty.sz:=by rw [List.length_take,List.length_drop,hlen i hi];omega
  have hX:XRel w R ρ (.agg ((zG ty.sz).map fun j=>us i (k+j)).toArray) (.agg (((es.getD i []).drop k).take ty.sz)):=by
   refine .agg (by rw [hlen2];simp) ?_ ?_
   ·intro j hj;rw [hlen2] at hj;rw [Q1a _ _ _ hj];exact hone _ _ hi (by omega)
   intro j hj;rw [hlen2] at hj;rw [Q1a _ _ _ hj];have:=hxr i (k+j) hi (by omega);simpa [qG,List.getElem?_take,List.getElem?_drop,hj] using this
  have hv2:tmps.getD a undef = .pointer (some ⟨b,i * bsz+k,none⟩):=hv;refine ⟨.agg ((zG ty.sz).map fun j=>us i (k+j)).toArray :: vs,?_,by simp [h2],fun j hj=>?_⟩
  ·rw [List.mapM_cons];simp [resM,hv2,asAddr,hrun,h1]
  cases j with
  | zero=>exact hX
  | succ j=>exact h3 j (by simpa using hj)
 | @cell1 a t ty id i k sz es r az hty hag h0 ha hl hi hk _ ih =>
  obtain ⟨vs,h1,h2,h3⟩:=ih;have hxa:=hx a;rw [ha] at hxa;obtain ⟨b,bsz,cap,hbk,hv⟩:=hxa.adr_eq;obtain ⟨b',cur,el,us,cpm,hbk',ho',hh,hsz',hcp,hml,hlen,hcur,hone,hxr⟩:=(H.mix id sz es _ hl hbk).ex (by simp);simp only [Bk.mk.injEq,qA] at hbk';obtain ⟨rfl,rfl,_⟩:=hbk';have hrun:=Q3Y (P:=P) (w:=w) hty (b:=b) (x:=i * bsz+k) (us:=fun j=>us i (k+j)) (fun j hj=>by
   rw [QZ hh,Nat.add_assoc];exact hcur i (k+j) hi (by omega))
  rw [hag] at hrun;simp only [cond_false,Nat.add_zero] at hrun;have hv2:tmps.getD a undef = .pointer (some ⟨b,i * bsz+k,none⟩):=hv;refine ⟨us i k :: vs,?_,by simp [h2],fun j hj=>?_⟩
  ·rw [List.mapM_cons];simp [resM,hv2,asAddr,hrun,h1]
  cases j with
  | zero=>exact hxr i k hi (by omega)
  | succ j=>exact h3 j (by simpa using hj)
theorem Q7J {P:Program} [Kd P] {w:World} {fn:Func} {rvs:List ResultVar} {tmps:Array Value} {vs:List Value} (hr:fn.results=rvs.toArray) (h:(rvs.mapM (resM tmps)).run P w = .ok vs w):(results fn tmps).run P w = .ok (Q2y vs) w:=by
 have e:results fn tmps=(do let vs ← fn.results.mapM (resM tmps);pure (if h:vs.size=1 then vs[0] else .tuple vs)):=by
  unfold results
  congr 1
 rw [e,hr,List.mapM_toArray];simp only [map_eq_pure_bind];simp [h];rcases vs with _|⟨v,_|⟨u,r⟩⟩
 ·simp [Q2y]
 ·simp [Q2y]
 simp [Q2y]
structure RetG (P:Program) (rvs:List ResultVar) (st:St) (rs:List AV):Prop where
 ex:∃ az,RGet P st rvs az∧RetV az st rs
def retGQ (P:Program) (rvs:List ResultVar) (rs:List AV):Exit→St→Prop
 | .normal,st=>RetG P rvs st rs
 | .ret,st=>RetG P rvs st rs
 | _,_=>False
theorem Q55 {P:Program} [Kd P] {f:Nat} {fn:Func} {c:Code} {args:List AV} {rvs:List ResultVar} {rs:List AV} {res:AV} (hf:P.funcs[f]? = some fn) (hb:fn.body=some c) (hrt:fn.results=rvs.toArray) (hrs:res=Q1Q rs)
  (hname : (fn.name == "runtime.NumGoroutine") = false) (hN : args.length ≤ fn.ntmps) (h : ∀ F : Fx, F.N = fn.ntmps → F.pins = 0 → (∀ b, ¬ F.C.wrb b) → Wp P F c (retGQ P rvs rs) ⟨Q3H 0 args, [], 0⟩) : Contract P f args res := by
 subst hrs;refine ⟨⟨fn,hf,hname,by rw [hb];rfl⟩,fun w R vals hR hsz hx=>?_⟩;refine Q2n hf hb ?_
 let C:Ctx:=⟨w,fun _=>False,fun _=>none,0⟩
 have hrel:Rel C R fn.ntmps { tmps:=vals++zE (fn.ntmps - vals.size) undef,defers:=[] } w ⟨Q3H 0 args,[],0⟩:=by
  refine ⟨by simp;omega,rfl,(fun id x h=>by cases h),fun _=>none,noρ,⟨fun b hb=>⟨hR b hb,rfl⟩,(fun b L hb=>by cases hb),rfl,⟨rfl,qC _⟩,rfl,qC _,fun b _ _=>rfl⟩,⟨(fun id sz es bk _ hb=>by cases hb),(fun id sz es bk _ hb=>by cases hb),(fun id c i k sz bk _ hb=>by cases hb),(fun id kd es bk _ hb=>by cases hb)⟩,fun t=>?_,(fun id k hk=>by cases hk),(fun id hid=>by cases hid),qC _⟩;simp only [St.get,Q2R]
  by_cases ht:t<args.length
  ·rw [if_pos (by omega)];simp only [Nat.sub_zero,qB];have:=hx t ht;have h2:(vals++zE (fn.ntmps - vals.size) undef).getD t undef=vals.getD t undef:=by
    simp [qY,show t<vals.size by omega]
   rw [h2];exact this
  rw [if_neg (by omega)];exact .bot
 refine Q4v (fun e a w' hq=>?_) (h ⟨C,R,fn.ntmps,0,rfl⟩ rfl rfl (fun _ h=>h) _ w (.of hrel));obtain ⟨st,⟨R',hX,hr⟩,hq⟩:=hq;have fin:RetG P rvs st rs→a.defers=[]∧∃ v,(results fn a.tmps).run P w' = .ok v w'∧∃ v' o,Ending.returned v = .returned v'∧Blw w.heap.size w w'∧(∀ b L,o b=some L→w.heap.size≤b∧b<w'.heap.size)∧Res w' o v' (Q1Q rs):=by
  intro hA;obtain ⟨az,hg,hv⟩:=hA.ex;obtain ⟨_,hdef,_,o,ρ,W,H,hxx,_⟩:=hr;obtain ⟨vs,h1,h2,h3⟩:=rget_run H hxx hg;obtain ⟨q1,o1,q2,q3⟩:=Q6R W H rfl hv (vs:=vs) h2 h3;exact ⟨hdef,_,Q7J hrt h1,_,o1,rfl,q1,q2,q3⟩
 cases e with
 | normal=>exact fin hq
 | ret=>exact fin hq
 | _=>exact hq.elim
theorem Qn {P:Program} [Kd P] {f:Nat} {fn:Func} {c:Code} {args:List AV} {rvs:List ResultVar} {rs:List AV} {res:AV} (hf:P.funcs[f]? = some fn) (hb:fn.body=some c) (hrt:fn.results=rvs.toArray) (hrs:res=Q1Q rs)
  (hname : (fn.name == "runtime.NumGoroutine") = false) (hN : args.length ≤ fn.ntmps) (h : ∀ F : Fx, F.N = fn.ntmps → F.pins = 0 → Wp P F c (retGQ P rvs rs) ⟨Q3H 0 args, [], 0⟩) : Contract P f args res :=
 Q55 hf hb hrt hrs hname hN fun F h1 h2 _=>h F h1 h2
end
section
attribute [local simp] Qf QF Qs
def nlA (news:List (Nat × Nat)) (a b:AV):Prop:=a=b∨(a = .val (.slice none 0 0)∧∃ q∈news,b = .own q.1 0 0)
def nlL (news:List (Nat × Nat)):List AV→List AV→Prop
 | [],[]=>True
 | a :: r,b :: s=>nlA news a b∧nlL news r s
 | _,_=>False
def entN (news:List (Nat × Nat)):Ent→Ent→Prop
 | .mix sz [cs],.mix sz' [ds]=>sz=sz'∧nlL news cs ds
 | .mix sz [],.row sz' es=>sz=sz'∧es=[]
 | e,e'=>e=e'
theorem nlL_get {news:List (Nat × Nat)}:∀ {cs ds:List AV},nlL news cs ds→cs.length=ds.length∧∀ k,k<cs.length→nlA news (cs.getD k .bot) (ds.getD k .bot):=by
 intro cs
 induction cs with
 | nil=>intro ds h;cases ds with
  | nil=>exact ⟨rfl,fun k hk=>by simp at hk⟩
  | cons=>exact h.elim
 | cons a r ih =>
  intro ds h;cases ds with
  | nil=>exact h.elim
  | cons b s =>
   obtain ⟨h1,h2⟩:=h;obtain ⟨h3,h4⟩:=ih h2;refine ⟨by simp [h3],fun k hk=>?_⟩;cases k with
   | zero=>simpa using h1
   | succ k=>simpa using h4 k (by simpa using hk)
theorem Q2N {news:List (Nat × Nat)} {e e':Ent} (h:entN news e e'):e=e'∨(∃ sz cs ds,e = .mix sz [cs]∧e' = .mix sz [ds]∧nlL news cs ds)∨(∃ sz,e = .mix sz []∧e' = .row sz []):=by
 unfold entN at h;split at h
 ·obtain ⟨rfl,h⟩:=h;exact .inr (.inl ⟨_,_,_,rfl,rfl,h⟩)
 ·obtain ⟨rfl,rfl⟩:=h;exact .inr (.inr ⟨_,rfl,rfl⟩)
 exact .inl h
theorem Wk.nils {F:Fx} {st st':St} (news:List (Nat × Nat)) (hn:∀ p∈news,st.n≤p.1∧p.1<st'.n) (hle:st.n≤st'.n) (hs:∀ p∈st'.s,nlA news (st.get p.1) p.2∨p.2 = .bot)
  (hh:∀ p∈st'.h,(∃ q∈news,p=(q.1,.row q.2 []))∨∃ e,look p.1 st.h=some e∧entN news e p.2) (hnd:(news.map Prod.fst).Nodup):Wk F st st':=by
 refine Wk.mk fun R a w hr=>?_;obtain ⟨r1,r2,r3,o,ρ,W,H,hx,hρ,hp⟩:=hr
 let ρ':Nat→Option Bk:=fun id=>match look id news with|some sz=>some ⟨none,sz,0⟩|none=>ρ id
 have hnone:∀ q∈news,ρ q.1=none:=by
  intro q hq;cases h:ρ q.1 with
  | none=>rfl
  | some k=>have:=hρ _ _ h;have:=(hn q hq).1;omega
 have hold:∀ id k,ρ id=some k→ρ' id=some k:=by
  intro id k hk;simp only [ρ'];cases hl:look id news with
  | none=>exact hk
  | some sz=>have:=hnone _ (Qk hl);simp only at this;rw [hk] at this;cases this
 have hnew:∀ q∈news,ρ' q.1=some ⟨none,q.2,0⟩:=by
  intro q hq;simp only [ρ'];rw [Q13 hnd hq]
 have hA:∀ {v:Value} {x y:AV},XRel w R ρ v x→nlA news x y→XRel w R ρ' v y:=by
  intro v x y hv h;rcases h with rfl|⟨rfl,q,hq,rfl⟩
  ·exact hv.mono (fun b hb=>⟨hb,rfl⟩) hold
  obtain ⟨rfl,_⟩:=hv.val_eq;exact .own0 (hnew q hq)
 have hent:∀ id e',st'.hp id=some e'→(∃ q∈news,id=q.1∧e' = .row q.2 [])∨∃ e,st.hp id=some e∧entN news e e':=by
  intro id e' h;rcases hh (id,e') (Qk h) with ⟨q,hq,he⟩|h
  ·simp only [qH] at he;exact .inl ⟨q,hq,he.1,he.2⟩
  exact .inr h
 have hback:∀ id bk,ρ' id=some bk→(∃ q∈news,id=q.1∧bk=⟨none,q.2,0⟩)∨(ρ id=some bk∧∀ q∈news,id ≠ q.1):=by
  intro id bk h;simp only [ρ'] at h;cases hl:look id news with
  | some sz=>rw [hl] at h;simp only [qA] at h;exact .inl ⟨(id,sz),Qk hl,rfl,h.symm⟩
  | none =>
   rw [hl] at h;refine .inr ⟨h,fun q hq he=>?_⟩;subst he;rw [Q13 hnd hq] at hl;cases hl
 have hcont:∀ (d c:Nat) (szc:Nat) (esc:List (List AV)) (bk:Bk),ρ c=some bk→cont st'.hp d c=some (szc,esc)→Ql (st'.hp c)=false→esc=[]∨(cont st.hp d c=some (szc,esc)∧Ql (st.hp c)=false):=by
  intro d
  induction d with
  | zero=>intro c szc esc bk _ h;cases h
  | succ d ih =>
   intro c szc esc bk hb hc hm;unfold cont at hc ⊢;cases he:st'.hp c with
   | none=>simp [he] at hc
   | some e' =>
    rw [he] at hc hm;rcases hent c e' he with ⟨q,hq,rfl,rfl⟩|⟨e,h1,h2⟩
    ·rw [hnone q hq] at hb;cases hb
    rcases Q2N h2 with rfl|⟨sz,cs,ds,rfl,rfl,_⟩|⟨sz,rfl,rfl⟩
    ·cases e with
     | mix=>cases hm
     | mapE=>cases hc
     | row sz es=>exact .inr ⟨by rw [h1];exact hc,by rw [h1];rfl⟩
     | ali c2 i2 k2 s2 =>
      rw [h1];simp only at hc ⊢;split at hc
      ·cases hc
      rename_i hm2;cases hc2:cont st'.hp d c2 with
      | none=>simp [hc2] at hc
      | some p =>
       obtain ⟨sz2,es2⟩:=p;obtain ⟨_,bk2,hb2,_⟩:=H.ali c c2 i2 k2 s2 bk h1 hb;rw [hc2] at hc;rcases ih c2 sz2 es2 bk2 hb2 hc2 (by simpa using hm2) with rfl|⟨q1,q2⟩
       ·simp at hc
       right;rw [q2,q1];exact ⟨hc,rfl⟩
    ·cases hm
    simp only [qA,qH] at hc;exact .inl hc.2.symm
 refine ⟨r1,r2,fun id x hx=>?_,o,ρ',⟨W.R,W.o,W.os,W.tape,W.output,W.size,W.keep⟩,⟨fun id sz es bk he hb=>?_,fun id sz es bk he hb=>?_,fun id c i k sz bk he hb=>?_,fun id kd es bk he hb=>?_⟩,fun t=>?_,fun id k hk=>?_,fun id hid=>?_,Nat.le_trans hp.2 hle⟩;rotate_left 4
 ·rcases hent id _ he with ⟨q,hq,rfl,h⟩|⟨e,h1,h2⟩
  ·cases h
  rcases hback id bk hb with ⟨q,hq,rfl,rfl⟩|⟨hb',_⟩
  ·exact absurd (r3 _ e h1) (by have:=(hn q hq).1;omega)
  rcases Q2N h2 with rfl|⟨s1,cs,ds,rfl,hd,hl⟩|⟨s1,rfl,hd⟩
  ·exact H.map id kd es bk h1 hb'
  ·cases hd
  cases hd
 rotate_left 3
 ·rcases hent id x hx with ⟨q,hq,rfl,_⟩|⟨e,he,_⟩
  ·exact (hn q hq).2
  exact qD (r3 id e he) hle
 ·rcases hent id _ he with ⟨q,hq,rfl,h⟩|⟨e,h1,h2⟩
  ·cases h
  rcases hback id bk hb with ⟨q,hq,rfl,rfl⟩|⟨hb',_⟩
  ·exact absurd (r3 _ e h1) (by have:=(hn q hq).1;omega)
  rcases Q2N h2 with rfl|⟨s1,cs,ds,rfl,hd,hl⟩|⟨s1,rfl,hd⟩
  ·rcases (H.mix id sz es bk h1 hb').ex0 with h0|⟨b,cur,el,us,cpm,q1,q2,q3,q4,q5,q5',q6,q7,q8,q9⟩
   ·exact ⟨.inl h0⟩
   exact .mk' ⟨b,cur,el,us,cpm,q1,q2,q3,q4,q5,q5',q6,q7,q8,fun i k hi hk=>(q9 i k hi hk).mono (fun b hb=>⟨hb,rfl⟩) hold⟩
  ·cases hd;rcases (H.mix id sz _ bk h1 hb').ex0 with ⟨h0,_⟩|⟨b,cur,el,us,cpm,q1,q2,q3,q4,q5,q5',q6,q7,q8,q9⟩
   ·cases h0
   obtain ⟨g1,g2⟩:=nlL_get hl;refine .mk' ⟨b,cur,el,us,cpm,q1,q2,q3,q4,by simpa using q5,q5',fun i hi=>?_,q7,q8,fun i k hi hk=>?_⟩
   ·have h0:i=0:=(by simp at hi;omega);subst h0;have:=q6 0 (by simp);simpa [← g1] using this
   have h0:i=0:=(by simp at hi;omega);subst h0;have h6:=q6 0 (by simp);simp only [List.getD_cons_zero] at h6;refine hA (q9 0 k (by simp) hk) ?_;simpa using g2 k (by omega)
  cases hd
 ·rcases hent id _ he with ⟨q,hq,rfl,h⟩|⟨e,h1,h2⟩
  ·cases h;have:=(show ρ' q.1=some bk from hb).symm.trans (hnew q hq);cases this;exact ⟨_,.nil,.nil⟩
  rcases hback id bk hb with ⟨q,hq,rfl,rfl⟩|⟨hb',_⟩
  ·exact absurd (r3 _ e h1) (by have:=(hn q hq).1;omega)
  rcases Q2N h2 with rfl|⟨s1,cs,ds,rfl,hd,hl⟩|⟨s1,rfl,hd⟩
  ·exact H.row id sz es bk h1 hb'
  ·cases hd
  cases hd;rcases (H.mix id sz [] bk h1 hb').ex0 with ⟨_,cp0,rfl⟩|⟨b,cur,el,us,cpm,q1,q2,q3,q4,q5,q5',q6,q7,q8,q9⟩
  ·exact ⟨_,.nil,.nil⟩
  subst q1;exact ⟨.slice (some ⟨b,0,none⟩) 0 cpm,.own (es:=[]) us q2 q3 q4 (Nat.zero_le _) q5' (fun i hi=>by simp at hi) (fun i k hi=>by simp at hi) (fun i k hi=>by simp at hi) (fun i k hi=>by simp at hi),.own⟩
 ·rcases hent id _ he with ⟨q,hq,rfl,h⟩|⟨e,h1,h2⟩
  ·cases h
  rcases hback id bk hb with ⟨q,hq,rfl,rfl⟩|⟨hb',_⟩
  ·exact absurd (r3 _ e h1) (by have:=(hn q hq).1;omega)
  rcases Q2N h2 with rfl|⟨s1,cs,ds,rfl,hd,hl⟩|⟨s1,rfl,hd⟩
  ·obtain ⟨q1,bkc,q2,q3⟩:=H.ali id c i k sz bk h1 hb';refine ⟨q1,bkc,hold _ _ q2,fun d szc esc hc hm hi hk=>?_⟩;rcases hcont d c szc esc bkc q2 hc hm with rfl|⟨g1,g2⟩
   ·simp at hi
   exact q3 d szc esc g1 g2 hi hk
  ·cases hd
  cases hd
 ·cases hl:look t st'.s with
  | none=>simp only [St.get,hl,Option.getD_none];exact .bot
  | some v =>
   simp only [St.get,hl,qB];rcases hs _ (Qk hl) with h|h
   ·exact hA (hx t) h
   simp only at h;rw [h];exact .bot
 ·rcases hback id k hk with ⟨q,hq,rfl,_⟩|⟨h,_⟩
  ·exact (hn q hq).2
  exact qD (hρ id k h) hle
 show ρ' id=_;have hlt:id<st.n:=qD hid hp.2;rw [← hp.1 id hid];simp only [ρ'];cases hl:look id news with
 | none=>rfl
 | some sz=>have:=(hn _ (Qk hl)).1;simp only at this;omega
def hhOk (m:List (Nat × Nat)) (h:List (Nat × Ent)) (j:Nat) (e':Ent):Prop:=(((look j (back m)).bind fun i=>look i h).bind (rlE m))=some e'
theorem Wk.rel {F:Fx} {st st':St} (m:List (Nat × Nat)) (h1:(m.map Prod.fst).Nodup) (h2:(m.map Prod.snd).Nodup) (hpin:∀ id,id<F.pins→look id m=some id) (hn:∀ p∈m,p.2<st'.n)
  (hok:∀ p∈st'.h,p.1<st'.n) (hs:∀ p∈st'.s,p.2=rl m (st.get p.1)∨p.2 = .bot) (hh:∀ p∈st'.h,hhOk m st.h p.1 p.2):Wk F st st':=by
 refine Wk.relabel m h1 h2 hpin hn hok hs fun p hp=>?_;have:=hh p hp;unfold hhOk at this;obtain ⟨e,he,hr⟩:=Option.bind_eq_some_iff.1 this;obtain ⟨i,hi,hl⟩:=Option.bind_eq_some_iff.1 he;exact ⟨i,e,back_of h1 hi,hl,hr⟩
theorem join {P:Program} [Kd P] {F:Fx} {y:Code} {AQ:Exit→St→Prop} {K:St→Prop} {G:Prop} (hK:∀ st',Wp P F y AQ st'→K st') (S:Bool→St) (C:Prop) (h1:(∀ b:Bool,(b=true↔C)→∀ st',Wk F st' (S b)→K st')→G)
  (h2:∀ b:Bool,(b=true↔C)→Wp P F y AQ (S b)):G:=h1 fun b hb st' hw=>hK st' (Qa hw (h2 b hb))
end
section
attribute [local simp] Qf QF Qs
theorem PurTo.field {h:HP} {id k sz:Nat} {row cs:List AV} (he:h id=some (.mix sz [row])) (hl:k+cs.length≤sz) (hp:PurL h ((row.drop k).take cs.length) cs):PurTo h (.adr id 0 k) (.rptr cs) :=
 .adr he (by simp) hl fun j hj=>by
  have:=hp.2 j (by rw [hp.1];exact hj);simpa [qG,List.getElem?_take,List.getElem?_drop,hj] using this
inductive PurLL (h:HP) (sz:Nat):List (List AV)→List (List AV)→Prop
 | nil:PurLL h sz [] []
 | cons {r s rs ss}:s.length=sz→PurL h r s→PurLL h sz rs ss→PurLL h sz (r :: rs) (s :: ss)
theorem PurLL.get {h:HP} {sz:Nat} {rs ss:List (List AV)} (hp:PurLL h sz rs ss):rs.length=ss.length∧∀ i,i<ss.length→(ss.getD i []).length=sz∧PurL h (rs.getD i []) (ss.getD i []):=by
 induction hp with
 | nil=>exact ⟨rfl,fun i hi=>by simp at hi⟩
 | cons h1 h2 _ ih =>
  refine ⟨by simp [ih.1],fun i hi=>?_⟩;cases i with
  | zero=>exact ⟨h1,h2⟩
  | succ i=>simpa using ih.2 i (by simpa using hi)
theorem PurTo.lits {h:HP} {id n sz:Nat} {u:Bool} {es fs:List (List AV)} (he:h id=some (.mix sz es)) (hp:PurLL h sz es fs) (hn:n=fs.length):PurTo h (.own id 0 n) (.lst u sz fs):=by
 subst hn;refine .mix he (by rw [hp.get.1];omega) rfl (fun i hi=>(hp.get.2 i hi).1) fun i k hi hk=>?_;have:=hp.get.2 i hi;rw [Nat.zero_add];exact this.2.2 k (by rw [this.2.1,this.1];exact hk)
end
section
attribute [local simp] Qf QF Qs
noncomputable def ass {α:Type} (p:Prop) (k:Option α):Option α:=@ite _ p (Classical.propDecidable p) k none
theorem Q5 {α:Type} {p:Prop} {k:Option α} {r:α} (h:ass p k=some r):p∧k=some r:=by
 unfold ass at h;split at h
 ·exact ⟨‹_›,h⟩
 cases h
theorem Q4 {α:Type} {p:Prop} {k:Option α} (h:p):ass p k=k:=by unfold ass;rw [if_pos h]
inductive Ctl (σ ε:Type) where
 | next (s:σ)
 | ret (e:ε)
def QM {σ ε:Type} (body:σ→Option (Ctl σ ε)):Nat→σ→Option ε
 | 0,_=>none
 | n+1,s=>match body s with
  | some (.next s')=>QM body n s'
  | some (.ret e)=>some e
  | none=>none
theorem bind_some {α β:Type} {x:Option α} {f:α→Option β} {r:β} (h:x.bind f=some r):∃ v,x=some v∧f v=some r:=Option.bind_eq_some_iff.1 h
theorem if_l {α:Type} {p:Prop} [Decidable p] {a b:Option α} {r:α} (g:p) (h:(if p then a else b)=some r):a=some r:=by rw [if_pos g] at h;exact h
theorem if_r {α:Type} {p:Prop} [Decidable p] {a b:Option α} {r:α} (g:¬ p) (h:(if p then a else b)=some r):b=some r:=by rw [if_neg g] at h;exact h
def contF {σ ε:Type} (body:σ→Option (Ctl σ ε)) (k:Nat) (e:ε):Ctl σ ε→Prop
 | .next s'=>QM body k s'=some e
 | .ret e'=>e'=e
def Q9s {σ:Type} (F:Fx) (S:σ→St) (G:σ→Prop) (AQ:Exit→St→Prop):Exit→St→Prop
 | .normal,st=>∃ s',G s'∧Wk F st (S s')
 | e,st=>AQ e st
section
variable {P:Program} [Kd P] {mt:MT} {F:Fx} {AQ:Exit→St→Prop} {st:St}
theorem Wp.mono {c:Code} {AQ':Exit→St→Prop} (h:∀ e st,AQ e st→AQ' e st) (hw:Wp P F c AQ st):Wp P F c AQ' st:=by
 intro a w hr;refine Q74 (hw a w hr) fun e a w he=>?_;obtain ⟨st',h1,h2⟩:=he;exact ⟨st',h1,h _ _ h2⟩
theorem Q6e {st1 st3:St} (st2:St) (h1:Wk F st1 st2) (h2:Wk F st2 st3):Wk F st1 st3:=fun a w h=>h2 a w (h1 a w h)
theorem QR {σ ε:Type} {c:Code} {body:σ→Option (Ctl σ ε)} {N:Nat} {s0:σ} {e:ε} (h:QM body N s0=some e) (S:σ→St) (hk:Wk F st (S s0))
  (round:∀ (k:Nat) (s:σ) (c':Ctl σ ε),body s=some c'→contF body k e c'→Wp P F c (Q9s F S (fun s'=>QM body k s'=some e) AQ) (S s)):Wp P F (.loop c) AQ st:=by
 refine QD (fun p:Nat × σ=>S p.2) (fun p=>QM body p.1 p.2=some e) (fun p=>p.1) (N,s0) h hk ?_
 rintro ⟨k,s⟩ hl
 cases k with
 | zero=>cases hl
 | succ k =>
  simp only [QM] at hl;cases hb:body s with
  | none=>rw [hb] at hl;cases hl
  | some c' =>
   have hc:contF body k e c':=by
    rw [hb] at hl;cases c' with
    | next s'=>exact hl
    | ret e'=>simpa [contF] using hl
   refine Wp.mono ?_ (round k s c' hb hc);intro ex st' hq;cases ex with
   | normal =>
    obtain ⟨s',h1,h2⟩:=hq;exact ⟨(k,s'),h1,Nat.lt_succ_self k,h2⟩
   | _=>exact hq
theorem QI {β:Type} {x y:Code} (J:β→St) (C:β→Prop) (h2:Wp P F x (Q4L (fun st=>∃ b,C b∧Wk F st (J b)) AQ) st) (h1:∀ b,C b→Wp P F y AQ (J b)):Wp P F x (Q4L (Wp P F y AQ) AQ) st:=by
 refine Wp.mono ?_ h2;intro ex st' hq;cases ex with
 | normal =>
  obtain ⟨b,hc,hw⟩:=hq;exact Qa hw (h1 b hc)
 | _=>exact hq
theorem Q3V {all:Array Oper} {os:List Oper} {dst:Option Nat} {K:St→Prop} {op:Op} {t:Nat} {want:Bool} {b:Bool}
  (h1:b=want→runO P mt all os dst (st.put t (.val (.bool want))) K op) (h2:b=(!want)→QN P mt all os ((st.put t (.val (.bool !want))).app dst { v:=.tup [] }) K) :
  Q4Q P mt all os dst st K op t want (.val (.bool b)):=by
 rw [Qf];exact ⟨h1,h2⟩
end
section
variable {P:Program} [Kd P] {F:Fx} {AQ:Exit→St→Prop} {st:St} {i id:Nat}
theorem tn {K:St→Prop} (h:K st):Q4L K AQ .normal st:=h
theorem tx {K:St→Prop} (h:AQ (.exit i) st):Q4L K AQ (.exit i) st:=h
theorem tr {K:St→Prop} (h:AQ .ret st):Q4L K AQ .ret st:=h
theorem bn (h:AQ .normal st):Q5r id AQ .normal st:=h
theorem bh (h:AQ .normal st):Q5r id AQ (.exit id) st:=by simp only [Q5r,if_pos];exact h
theorem br (h:AQ .ret st):Q5r id AQ .ret st:=h
theorem lx {σ:Type} {S:σ→St} {G:σ→Prop} (h:AQ (.exit i) st):Q9s F S G AQ (.exit i) st:=h
theorem lr {σ:Type} {S:σ→St} {G:σ→Prop} (h:AQ .ret st):Q9s F S G AQ .ret st:=h
theorem rn {σ:Type} {S:σ→St} {G:σ→Prop} {s':σ} (h1:G s') (h2:Wk F st (S s')):Q9s F S G AQ .normal st:=⟨s',h1,h2⟩
theorem jn {β:Type} {J:β→St} {C:β→Prop} {b:β} (h1:C b) (h2:Wk F st (J b)):Q4L (fun st=>∃ b,C b∧Wk F st (J b)) AQ .normal st:=⟨b,h1,h2⟩
end
theorem Wk.r1 {F:Fx} {st st':St} (m:List (Nat × Nat)) (h:(m.map Prod.fst).Nodup∧(m.map Prod.snd).Nodup∧(∀ id,id<F.pins→look id m=some id)∧(∀ p∈m,p.2<st'.n)∧(∀ p∈st'.h,p.1<st'.n)∧(∀ p∈st'.s,p.2=rl m (st.get p.1)∨p.2 = .bot)∧∀ p∈st'.h,hhOk m st.h p.1 p.2):Wk F st st':=Wk.rel m h.1 h.2.1 h.2.2.1 h.2.2.2.1 h.2.2.2.2.1 h.2.2.2.2.2.1 h.2.2.2.2.2.2
def fuel:Nat:=4611686018427387904
theorem PurTo.fnL {h:HP} {f:Nat} {az bs:List AV} (hb:∀ b∈bs,∀ cs,b ≠ .agg cs) (hp:PurL h az bs):PurTo h (.fn f az) (.fn f bs):=by
 refine .fn hp.1 (fun k hk cs he=>?_) hp.2;have hk':k<bs.length:=by rw [← hp.1];exact hk
 refine hb (bs.getD k .bot) ?_ cs he;simp only [qG,qI hk',qB];exact List.getElem_mem hk'
theorem PurTo.preT {h:HP} {xs cs:List AV} (e:xs.take cs.length=cs):PurTo h (.rptr xs) (.rptr cs):=by
 have:xs=cs++xs.drop cs.length:=by
  have h:=List.take_append_drop cs.length xs;rw [e] at h;exact h.symm
 rw [this];exact .pre
end
section
attribute [local simp] Qf QF Qs
def Q3I (ops:Array Oper) (x y:Oper):Bool :=
 (match x.dst with
  | some d=>(Q4k ops y).contains d || y.dst == some d
  | none=>false) ||
 (match y.dst with
  | some d=>(Q4k ops x).contains d
  | none=>false)
def Q4O (x y:Oper):Bool:=(wrM false x.op && touch y.op) || (touch x.op && wrM false y.op)
theorem Q91 {ops:Array Oper} {x y:Oper}:Q3T false ops x y=(Q3I ops x y || Q4O x y):=by
 unfold Q3T Q3I Q4O;rw [tch0,tch0];exact Bool.or_assoc _ _ _
theorem Q6h {ops:Array Oper} {x y:Oper} (h:Q3I ops x y=false):(∀ d,x.dst=some d→d ∉ Q4k ops y∧y.dst ≠ some d)∧∀ d,y.dst=some d→d ∉ Q4k ops x:=by
 unfold Q3I at h;simp only [Bool.or_eq_false_iff] at h;obtain ⟨h1,h2⟩:=h;refine ⟨fun d hd=>?_,fun d hd=>?_⟩
 ·rw [hd] at h1;simp only [Bool.or_eq_false_iff] at h1;refine ⟨by simpa using h1.1,?_⟩;intro hy;rw [hy] at h1;simp at h1
 rw [hd] at h2;simpa using h2
def Q2H (ops:Array Oper) (j s:Nat):Bool:=(zG ops.size).all fun m=>m == j || (ops[m]?).bind (·.dst) != some s
def Q7F (ops:Array Oper) (s:Nat):Bool:=(zG ops.size).all fun m=>(ops[m]?).bind (·.dst) != some s
theorem Q3r {ops:Array Oper} {j s m:Nat} (h:Q2H ops j s=true) (hm:m<ops.size) (hj:m ≠ j):(ops[m]?).bind (·.dst) ≠ some s:=by
 unfold Q2H at h;have:=List.all_eq_true.1 h m (List.mem_range.2 hm);simpa [hj] using this
theorem Q3C {ops:Array Oper} {s m:Nat} (h:Q7F ops s=true) (hm:m<ops.size):(ops[m]?).bind (·.dst) ≠ some s:=by
 unfold Q7F at h;have:=List.all_eq_true.1 h m (List.mem_range.2 hm);simpa using this
def Q84 (ops:Array Oper) (j s:Nat):Bool:=match ops[j]? with
 | some ⟨d,.alloc _,_,_,_,none⟩=>d == some s && Q2H ops j s
 | _=>false
def Q6w (ds:List Nat) (ops:Array Oper) (k:Nat):Bool:=match ops[k]? with
 | some ⟨_,.store _ (.tmp s) _,_,_,_,none⟩=>((zG k).any fun j=>Q84 ops j s) || (ds.contains s && Q7F ops s)
 | _=>false
def stepAt (ops:Array Oper) (l t:Nat):Option Nat:=match ops[l]? with
 | some ⟨d,.fieldAddr _ (.tmp r) _,_,_,_,none⟩=>if d == some t && Q2H ops l t then some r else none
 | some ⟨d,.move (.tmp r),_,_,_,none⟩=>if d == some t && Q2H ops l t then some r else none
 | some ⟨d,.nilCheck (.tmp r),_,_,_,none⟩=>if d == some t && Q2H ops l t then some r else none
 | some ⟨d,.indexAddr _ (.tmp r) _,_,_,_,none⟩=>if d == some t && Q2H ops l t then some r else none
 | _=>none
def Q4z (ds:List Nat) (ops:Array Oper):Nat→Nat→Nat→Bool
 | 0,_,_=>false
 | k+1,i,t=>(Q7F ops t && !ds.contains t) || (zG i).any fun l=>match stepAt ops l t with|some r=>Q4z ds ops k l r|none=>false
def Q4X (ds:List Nat) (ops:Array Oper) (i:Nat):Bool:=match ops[i]? with
 | some ⟨_,.load _ (.tmp t),_,_,_,_⟩=>Q4z ds ops 8 i t
 | some ⟨_,.indexAddr _ (.tmp t) _,_,_,_,_⟩=>Q4z ds ops 8 i t
 | _=>false
def Q3R (ds:List Nat) (ops:Array Oper):Bool:=(zG ops.size).all fun k=>!((ops[k]?).map (wrM false ·.op)).getD false || Q6w ds ops k
def Q6k (rs:List Nat) (ops:Array Oper) (l t:Nat):Bool:=match ops[l]? with
 | some ⟨d,.fieldAddr _ (.tmp r) _,_,_,_,none⟩=>d == some t && (Q2H ops l t && (Q7F ops r && rs.contains r))
 | _=>false
def Q4e (rs:List Nat) (ops:Array Oper) (i:Nat):Bool:=match ops[i]? with
 | some ⟨_,.load _ (.tmp t),_,_,_,_⟩=>(rs.contains t && Q7F ops t) || (zG i).any fun l=>Q6k rs ops l t
 | _=>false
def Q9k (ds rs:List Nat) (J:Nat) (ops:Array Oper):Bool :=
 let ms:=Q3q ops.toList []
 (zG ops.size).all fun j=>(zG j).all fun i =>
  match ops[i]?,ops[j]? with
  | some x,some y=>(!Q3I ops x y && (!Q4O x y || ((Q4e rs ops i && decide (j≤J)) || (Q3R ds ops && (Q4X ds ops i && Q6w ds ops j))))) || (ms.getD j 0).testBit i
  | _,_=>true
structure SD (ds:List Nat) (st:St):Prop where
 mix:∀ s∈ds,∃ id,st.get s = .adr id 0 0∧Ql (st.hp id)=true
 sep:∀ t id i k,t ∉ ds→st.get t = .adr id i k→∀ s∈ds,st.get s ≠ .adr id 0 0
 sepO:∀ t id i k,t ∉ ds→st.get t = .own id i k→∀ s∈ds,st.get s ≠ .adr id 0 0
def sd1 (ds:List Nat) (st:St):AV→Bool
 | .adr id 0 0=>Ql (look id st.h) && st.s.all fun p=>ds.contains p.1 || (match p.2 with|.adr j _ _=>j != id|.own j _ _=>j != id|_=>true)
 | _=>false
def sdB (ds:List Nat) (st:St):Bool:=ds.all fun s=>sd1 ds st (st.get s)
theorem sd_ok {ds:List Nat} {st:St} (h:sdB ds st=true):SD ds st:=by
 have h1:∀ s∈ds,∃ id,st.get s = .adr id 0 0∧Ql (look id st.h)=true∧∀ p∈st.s,p.1 ∉ ds→∀ j a b,(p.2 = .adr j a b∨p.2 = .own j a b)→j ≠ id:=by
  intro s hs;have h2:=List.all_eq_true.1 h s hs;unfold sd1 at h2;split at h2
  ·rename_i id hg;simp only [Bool.and_eq_true,List.all_eq_true,Bool.or_eq_true] at h2;refine ⟨id,hg,h2.1,fun p hp hn j a b hj=>?_⟩;rcases h2.2 p hp with h3|h3
   ·exact absurd (by simpa using h3) hn
   rcases hj with hj|hj<;>(rw [hj] at h3;simpa using h3)
  cases h2
 have fin:∀ t id i k,t ∉ ds→(st.get t = .adr id i k∨st.get t = .own id i k)→∀ s∈ds,st.get s ≠ .adr id 0 0:=fun t id i k ht hg s hs hc=>?_
 ·exact ⟨fun s hs=>by obtain ⟨id,q1,q2,_⟩:=h1 s hs;exact ⟨id,q1,q2⟩,fun t id i k ht hg=>fin t id i k ht (.inl hg),fun t id i k ht hg=>fin t id i k ht (.inr hg)⟩
 obtain ⟨id',q1,_,q3⟩:=h1 s hs;rw [q1] at hc;cases hc;unfold St.get at hg;cases hl:look t st.s with
 | none=>rw [hl] at hg;rcases hg with hg|hg<;>cases hg
 | some v=>rw [hl] at hg;exact q3 _ (Qk hl) ht _ _ _ hg rfl
theorem Q5F {ds rs:List Nat} {J:Nat} {ops:Array Oper} (h:Q9k ds rs J ops=true) {i j:Nat} {x y:Oper} (hij:i<j) (hx:ops[i]? = some x) (hy:ops[j]? = some y) :
  ((Q3q ops.toList []).getD j 0).testBit i=true∨(Q3I ops x y=false∧(Q4O x y=true→(Q4e rs ops i=true∧j≤J)∨(Q3R ds ops=true∧Q4X ds ops i=true))):=by
 unfold Q9k at h;have h2:=h;simp only [List.all_eq_true,List.mem_range] at h2;have hj:j<ops.size:=by
  rcases zB j ops.size with h'|h'
  ·exact h'
  simp [Array.getElem?_eq_none h'] at hy
 have:=h2 j hj i hij;rw [hx,hy] at this;simp only [Bool.or_eq_true,Bool.and_eq_true,Bool.not_eq_true'] at this;rcases this with ⟨h3,h4⟩|h3
 ·refine .inr ⟨h3,fun hm=>?_⟩;rcases h4 with h4|h4|h4
  ·rw [hm] at h4;cases h4
  ·exact .inl ⟨h4.1,of_decide_eq_true h4.2⟩
  exact .inr ⟨h4.1,h4.2.1⟩
 exact .inl h3
theorem Q5M {ds:List Nat} {ops:Array Oper} {i:Nat} {o:Oper} (hi:ops[i]? = some o) (h:Q4X ds ops i=true):∃ ty t,(o.op = .load ty (.tmp t)∨∃ x,o.op = .indexAddr ty (.tmp t) x)∧Q4z ds ops 8 i t=true:=by
 unfold Q4X at h;split at h
 ·rename_i d ty t t2 p af g ho;rw [hi] at ho;cases ho;exact ⟨ty,t,.inl rfl,h⟩
 ·rename_i d ty t x t2 p af g ho;rw [hi] at ho;cases ho;exact ⟨ty,t,.inr ⟨x,rfl⟩,h⟩
 cases h
theorem stepAt_eq {ops:Array Oper} {l t r:Nat} (h:stepAt ops l t=some r):∃ o,ops[l]? = some o∧o.guard=none∧o.dst=some t∧Q2H ops l t=true∧((∃ ty k,o.op = .fieldAddr ty (.tmp r) k)∨o.op = .move (.tmp r)∨o.op = .nilCheck (.tmp r)∨∃ ty k,o.op = .indexAddr ty (.tmp r) k):=by
 unfold stepAt at h;split at h
 ·rename_i ho;split at h
  ·rename_i hq;simp only [Bool.and_eq_true,beq_iff_eq] at hq;cases h;exact ⟨_,ho,rfl,hq.1,hq.2,.inl ⟨_,_,rfl⟩⟩
  cases h
 ·rename_i ho;split at h
  ·rename_i hq;simp only [Bool.and_eq_true,beq_iff_eq] at hq;cases h;exact ⟨_,ho,rfl,hq.1,hq.2,.inr (.inl rfl)⟩
  cases h
 ·rename_i ho;split at h
  ·rename_i hq;simp only [Bool.and_eq_true,beq_iff_eq] at hq;cases h;exact ⟨_,ho,rfl,hq.1,hq.2,.inr (.inr (.inl rfl))⟩
  cases h
 ·rename_i ho;split at h
  ·rename_i hq;simp only [Bool.and_eq_true,beq_iff_eq] at hq;cases h;exact ⟨_,ho,rfl,hq.1,hq.2,.inr (.inr (.inr ⟨_,_,rfl⟩))⟩
  cases h
 cases h
theorem rootAt_wr {ds:List Nat} {ops:Array Oper} {i:Nat} {o:Oper} (hi:ops[i]? = some o) (h:Q4X ds ops i=true):wrM false o.op=false:=by
 obtain ⟨ty,t,ho|⟨x,ho⟩,_⟩:=Q5M hi h<;>(rw [ho];rfl)
section
variable {P:Program} [Kd P] {ds:List Nat} {ops:Array Oper} {S:Nat→St} {E:Nat→Option Eff} {C:Ctx} {R:Nat→Prop} {N:Nat} {w0:World}
theorem Q3A (T:Tr P false ops S E) {s a:Nat}:∀ b,a≤b→b≤ops.size→(∀ m,a≤m→m<b→(ops[m]?).bind (·.dst) ≠ some s)→(S b).get s=(S a).get s:=by
 intro b
 induction b with
 | zero =>
  intro h _ _;have:a=0:=by omega
  subst this;rfl
 | succ b ih =>
  intro h hb hk;rcases zB a (b+1) with h'|h'
  ·obtain ⟨_,hS,_⟩:=T.step (zA (show b<ops.size by omega));rw [hS,Q4C,if_neg]
   ·exact ih (by omega) (by omega) fun m h1 h2=>hk m h1 (by omega)
   have:=hk b (by omega) (by omega);rw [zA (show b<ops.size by omega)] at this;exact this
  have:a=b+1:=by omega
  subst this;rfl
theorem Q5m (T:Tr P false ops S E) {k:Nat} {o:Oper} (ho:ops[k]? = some o) (hg:o.guard=none):∃ e,E k=some e∧AOp P false o.op (S k).ev (S k).hp (S k).n e∧S (k+1)=(S k).app o.dst e:=by
 have:=T.run k o ho;cases hE:E k with
 | none =>
  rw [hE] at this;have h1:=this.1;simp only [Q2K,hg] at h1;cases h1
 | some e =>
  rw [hE] at this;exact ⟨e,rfl,this.2.1,this.2.2⟩
theorem alloc_at (T:Tr P false ops S E) {j s:Nat} (h:Q84 ops j s=true):j<ops.size∧Q2H ops j s=true∧(S (j+1)).get s = .adr (S j).n 0 0∧Ql ((S (j+1)).hp (S j).n)=true:=by
 unfold Q84 at h;split at h
 ·rename_i d e0 ty pos af ho;simp only [Bool.and_eq_true,beq_iff_eq] at h;have hjs:=(Array.getElem?_eq_some_iff.1 ho).1;obtain ⟨e,hE,hop,hS⟩:=Q5m T ho rfl;have he:∃ z:Nat × List (List AV),e = { v:=.adr (S j).n 0 0,new:=[((S j).n,.mix z.1 z.2)],cnt:=1 }:=by
   cases hop with
   | sem h0=>cases h0
   | blt h1 h2 =>
    simp only [opF,alloc] at h1;split at h1
    ·rename_i t _;simp only [qA,qH] at h1;exact ⟨(t.sz,[t.zero.map .val]),h1.2.symm⟩
    cases h1
   | call h1=>cases h1
   | mcall h1=>cases h1
   | icall h1=>cases h1
   | boxr h1=>cases h1
   | appM h1=>cases h1
   | fcall h1=>cases h1
   | fcallb h1=>cases h1
   | callb h1=>cases h1
   | mapo h1=>simp [mapF] at h1
   | mkz h1=>cases h1
   | cvs h1=>cases h1
   | sl3 h1=>cases h1
   | mkf h1=>cases h1
   | mkb h1=>cases h1
   | mki h1=>cases h1
   | mkis h1=>cases h1
   | tas h1=>cases h1
   | sto h1=>cases h1
   | stg h1=>cases h1
  obtain ⟨z,rfl⟩:=he;refine ⟨hjs,h.2,?_,?_⟩
  ·rw [hS,Q4C,if_pos h.1]
  have hf:=(hop.fine (T.all j (by omega))).1;show Ql (look (S j).n (S (j+1)).h)=true;rw [hS,Q2D _ _ hf];have hn:(S j).hp (S j).n=none:=by
   show look (S j).n (S j).h=none;cases hh:look (S j).n (S j).h with
   | none=>rfl
   | some x=>have:=T.all j (by omega) _ _ hh;omega
  have:happ ({ v:=.adr (S j).n 0 0,new:=[((S j).n,.mix z.1 z.2)],cnt:=1 }:Eff) (S j).hp (S j).n=none:=by
   simp [happ,look,hn]
  rw [this];simp [look,Ql]
 cases h
def Q3e (S:Nat→St) (ds:List Nat) (id:Nat):Prop:=(S 0).n≤id∨∃ s∈ds,(S 0).get s = .adr id 0 0
theorem soft_eff (T:Tr P false ops S E) (hD:SD ds (S 0)) (hall:Q3R ds ops=true):∀ k,k<ops.size→Q6w ds ops k=true→∃ id sz es,(eff E k).set=[(id,.mix sz es)]∧(eff E k).del=[]∧Q3e S ds id∧Ql ((S k).hp id)=true:=by
 intro k
 induction k using Nat.strongRecOn with
 | _ k ih =>
  intro hks hk;unfold Q6w at hk;split at hk
  ·rename_i d ty s x ty2 pos af ho;obtain ⟨b,id,hbk,hdst,b3,b4,b5⟩:∃ b id,b≤k∧(∀ m,b≤m→m<ops.size→(ops[m]?).bind (·.dst) ≠ some s)∧(S b).get s = .adr id 0 0∧Ql ((S b).hp id)=true∧Q3e S ds id:=by
    simp only [Bool.or_eq_true,Bool.and_eq_true] at hk;rcases hk with hk|⟨hk,hk'⟩
    ·obtain ⟨j,hj,hal⟩:=List.any_eq_true.1 hk;have hj:=List.mem_range.1 hj;obtain ⟨a1,a2,a3,a4⟩:=alloc_at T hal;exact ⟨j+1,(S j).n,by omega,fun m h1 h2=>Q3r a2 h2 (by omega),a3,a4,.inl (T.nle (Nat.zero_le j) (by omega))⟩
    have hs:s∈ds:=(by simpa using hk);obtain ⟨id,q1,q2⟩:=hD.mix s hs;exact ⟨0,id,Nat.zero_le _,fun m _ h=>Q3C hk' h,q1,q2,.inr ⟨s,hs,q1⟩⟩
   have key:∀ m,b≤m→m≤k→(S m).get s = .adr id 0 0∧Ql ((S m).hp id)=true:=by
    intro m
    induction m with
    | zero =>
     intro h _;have:b=0:=(by omega);subst this;exact ⟨b3,b4⟩
    | succ m ihm =>
     intro h1 h2;rcases zB b (m+1) with h|h
     ·obtain ⟨i1,i2⟩:=ihm (by omega) (by omega);have hg:=zA (show m<ops.size by omega);obtain ⟨hf,hS,hnw,_⟩:=T.step hg;refine ⟨?_,?_⟩
      ·rw [hS,Q4C,if_neg]
       ·exact i1
       have:=hdst m (by omega) (by omega);rw [hg] at this;exact this
      show Ql (look id (S (m+1)).h)=true;rw [hS,Q2D _ _ hf];have hh:Ql (happ (eff E m) (S m).hp id)=true:=by
       cases hw:wrM false (ops[m]).op with
       | false =>
        obtain ⟨n1,n2⟩:=hnw hw;rw [Q10 n1 n2];exact i2
       | true =>
        have hsf:Q6w ds ops m=true:=by
         have:=List.all_eq_true.1 hall m (List.mem_range.2 (by omega));rw [hg] at this;simpa [hw] using this
        obtain ⟨id',sz,es,e1,e2,_⟩:=ih m (by omega) (by omega) hsf;simp only [happ,e1,e2,look]
        by_cases hid:id'=id
        ·rw [if_pos hid];rfl
        rw [if_neg hid];simpa using i2
      cases hq:happ (eff E m) (S m).hp id with
      | none=>rw [hq] at hh;cases hh
      | some y=>rw [hq] at hh;exact hh
     have:b=m+1:=(by omega);subst this;exact ⟨b3,b4⟩
   obtain ⟨k1,k2⟩:=key k (by omega) (qC _);obtain ⟨e,hE,hop,hS⟩:=Q5m T ho rfl;have hev:(S k).ev (.tmp s) = .adr id 0 0:=k1;obtain ⟨sz,es,hmx⟩:∃ sz es,(S k).hp id=some (.mix sz es):=by
    cases hq:(S k).hp id with
    | none=>rw [hq] at k2;cases k2
    | some y=>cases y with
     | mix sz es=>exact ⟨sz,es,rfl⟩
     | row=>rw [hq] at k2;cases k2
     | mapE=>rw [hq] at k2;cases k2
     | ali=>rw [hq] at k2;cases k2
   have heff:eff E k=e:=(by simp [eff,hE]);rw [heff];cases hop with
   | sem h0=>cases h0
   | blt h1 h2 =>
    simp only [opF,hev,Q2Y] at h1;cases hty:tyi P ty with
    | none=>rw [hty] at h1;cases h1
    | some t =>
     rw [hty] at h1;simp only [hmx] at h1;split at h1
     ·simp only [qA,qH] at h1;rw [← h1.2];exact ⟨_,_,_,rfl,rfl,b5,by rw [hmx];rfl⟩
     cases h1
   | call h1=>cases h1
   | mcall h1=>cases h1
   | icall h1=>cases h1
   | boxr h1=>cases h1
   | appM h1=>cases h1
   | fcall h1=>cases h1
   | fcallb h1=>cases h1
   | callb h1=>cases h1
   | mapo h1=>simp [mapF] at h1
   | mkz h1=>cases h1
   | cvs h1=>cases h1
   | sl3 h1=>cases h1
   | mkf h1=>cases h1
   | mkb h1=>cases h1
   | mki h1=>cases h1
   | mkis h1=>cases h1
   | tas h1=>cases h1
   | sto h1 h2 h3 h4 h5 =>
    cases h1;rw [hev] at h4;cases h4;have:=h5.ent;rw [hmx] at this;cases this
   | stg h1 h2 h3 h4 _ h5 =>
    cases h1;rw [hev] at h4;cases h4;have:=h5.ent;rw [hmx] at this;cases this
  cases hk
theorem HS_same (T:Tr P false ops S E) (hD:SD ds (S 0)) (hall:Q3R ds ops=true) {i:Nat}:∀ m,i≤m→m≤ops.size→∀ id,HS S E ops.size m id=HS S E ops.size i id∨(Ql (HS S E ops.size i id)=true∧Ql (HS S E ops.size m id)=true∧Q3e S ds id):=by
 intro m
 induction m with
 | zero =>
  intro h _ id;have:i=0:=by omega
  subst this;exact .inl rfl
 | succ m ih =>
  intro h hm id;rcases zB i (m+1) with h'|h'
  ·have hi:=ih (by omega) (by omega) id;have hg:=zA (show m<ops.size by omega);rw [Q82 T (by omega)];cases hw:wrM false (ops[m]).op with
   | false =>
    obtain ⟨n1,n2⟩:=(T.step hg).2.2.1 hw;rw [Q10 n1 n2];exact hi
   | true =>
    have hsf:Q6w ds ops m=true:=by
     have:=List.all_eq_true.1 hall m (List.mem_range.2 (by omega));rw [hg] at this;simpa [hw] using this
    obtain ⟨id',sz,es,e1,e2,e3,e4⟩:=soft_eff T hD hall m (by omega) hsf;simp only [happ,e1,e2,look]
    by_cases hid:id'=id
    ·subst hid;rw [if_pos rfl];have hmm:Ql (HS S E ops.size m id')=true:=by
      simp only [HS];cases hq:look id' (S m).h with
      | none =>
       have:(S m).hp id'=none:=hq;rw [this] at e4;cases e4
      | some y =>
       have:(S m).hp id'=some y:=hq;rw [this] at e4;exact e4
     rcases hi with hi|⟨h1,h2,h3⟩
     ·exact .inr ⟨by rw [← hi];exact hmm,rfl,e3⟩
     exact .inr ⟨h1,rfl,h3⟩
    rw [if_neg hid];simpa using hi
  have:i=m+1:=by omega
  subst this;exact .inl rfl
theorem Q92 {h h':HP} (hh:∀ x,h' x=h x∨(Ql (h x)=true∧Ql (h' x)=true)):∀ d id,h' id=h id→cont h' d id=cont h d id:=by
 intro d
 induction d with
 | zero=>intro id _;rfl
 | succ d ih =>
  intro id he;simp only [cont,he];cases hq:h id with
  | none=>rfl
  | some y =>
   cases y with
   | mix=>rfl
   | row=>rfl
   | mapE=>rfl
   | ali c i k sz =>
    simp only;rcases hh c with h1|⟨h1,h2⟩
    ·rw [h1,ih c h1]
    rw [h1,h2];rfl
theorem takeC_ali (id i:Nat):∀ (cs:List AV) (k n:Nat),∀ p∈(QU id i k n cs).2,Ql (some p.2)=false:=by
 intro cs
 induction cs with
 | nil=>intro k n p hp;simp [QU] at hp
 | cons a r ih =>
  intro k n p hp;unfold QU at hp;split at hp
  ·rename_i h;cases h
  ·rename_i h;cases h;simp only [List.mem_cons] at hp;rcases hp with rfl|hp
   ·rfl
   exact ih _ _ p hp
  rename_i h;cases h;exact ih _ _ p hp
theorem loadv_new {ty:Option Tyi} {a:AV} {h:HP} {n:Nat} {c:Prop} {e:Eff} (hc:Q3h ty a h n=some (c,e)):∀ p∈e.new,Ql (some p.2)=false:=by
 unfold Q3h at hc;split at hc
 ·split at hc
  ·simp only [qA,qH] at hc;rw [← hc.2];simp
  ·split at hc
   ·simp only [qA,qH] at hc;rw [← hc.2];exact takeC_ali _ _ _ _ _
   cases hc
  cases hc
 ·simp only [qA,qH] at hc;rw [← hc.2];simp
 cases hc
inductive Pts:AV→Nat→Prop
 | adr {id i k}:Pts (.adr id i k) id
 | own {id i k}:Pts (.own id i k) id
theorem Q7d (T:Tr P false ops S E) (hS0:∀ t id,t ∉ ds→Pts ((S 0).get t) id→¬ Q3e S ds id):∀ (n i t:Nat),i≤ops.size→Q4z ds ops n i t=true→∀ id,Pts ((S i).get t) id→¬ Q3e S ds id:=by
 intro n
 induction n with
 | zero=>intro i t _ h;cases h
 | succ n ih =>
  intro i t his h id hg;unfold Q4z at h;simp only [Bool.or_eq_true,Bool.and_eq_true,List.any_eq_true,List.mem_range] at h;rcases h with ⟨h,h'⟩|⟨l,hl,h⟩
  ·rw [Q3A T i (Nat.zero_le _) (by omega) fun q _ hq=>Q3C h (by omega)] at hg;exact hS0 _ _ (by simpa using h') hg
  split at h
  ·rename_i r hr;obtain ⟨o,hol,hgd,h1,h2,hop'⟩:=stepAt_eq hr;obtain ⟨e',hE,hop,hS⟩:=Q5m T hol hgd;rw [Q3A T (a:=l+1) i (by omega) (by omega) fun q hq1 hq2=>Q3r h2 (by omega) (by omega),hS,Q4C,if_pos h1] at hg;have key:Pts ((S l).get r) id→¬ Q3e S ds id:=fun hx=>ih l r (by omega) h id hx;obtain ⟨d,op,ty,pos,af,gd⟩:=o;simp only at hop' hop;have fin:∀ c,opF P op (S l).ev (S l).hp (S l).n=some (c,e')→¬ Q3e S ds id:=by
    intro c q1;rcases hop' with ⟨ty1,k1,rfl⟩|rfl|rfl|⟨ty1,k1,rfl⟩
    ·have hx:(S l).ev (.tmp r)=(S l).get r:=rfl;simp only [opF,hx] at q1;unfold fieldAddr at q1;split at q1
     ·rename_i hf hx0;simp only [qA,qH] at q1;rw [← q1.2] at hg;cases hg;exact key (by rw [hx0];exact .adr)
     ·simp only [qA,qH] at q1;rw [← q1.2] at hg;cases hg
     cases q1
    ·simp only [opF,qA,qH] at q1;rw [← q1.2] at hg;exact key hg
    ·have hx:(S l).ev (.tmp r)=(S l).get r:=rfl;simp only [opF,hx] at q1;unfold nilCheck at q1;split at q1
     ·rename_i hx0;simp only [qA,qH] at q1;rw [← q1.2] at hg;cases hg;exact key (by rw [hx0];exact .adr)
     ·simp only [qA,qH] at q1;rw [← q1.2] at hg;cases hg
     ·simp only [qA,qH] at q1;rw [← q1.2] at hg;cases hg
     cases q1
    have hx:(S l).ev (.tmp r)=(S l).get r:=rfl;simp only [opF,hx] at q1;split at q1
    ·unfold Q1K at q1;split at q1
     ·rename_i hx0 _;split at q1
      ·split at q1
       ·simp only [qA,qH] at q1;rw [← q1.2] at hg;cases hg;exact key (by rw [hx0];exact .own)
       cases q1
      cases q1
     ·split at q1
      ·simp only [qA,qH] at q1;rw [← q1.2] at hg;cases hg
      cases q1
     cases q1
    cases q1
   rcases hop' with ⟨ty1,k1,rfl⟩|rfl|rfl|⟨ty1,k1,rfl⟩ <;>
   ·cases hop with
    | sem h0=>cases h0
    | blt q1 q2=>exact fin _ q1
    | call h1=>cases h1
    | mcall h1=>cases h1
    | icall h1=>cases h1
    | boxr h1=>cases h1
    | appM h1=>cases h1
    | fcall h1=>cases h1
    | fcallb h1=>cases h1
    | callb h1=>cases h1
    | mapo h1=>simp [mapF] at h1
    | mkz h1=>cases h1
    | cvs h1=>cases h1
    | sl3 h1=>cases h1
    | mkf h1=>cases h1
    | mkb h1=>cases h1
    | mki h1=>cases h1
    | mkis h1=>cases h1
    | tas h1=>cases h1
    | sto h1=>cases h1
    | stg h1=>cases h1
  cases h
theorem root_same (T:Tr P false ops S E) (hD:SD ds (S 0)) (hall:Q3R ds ops=true) (hS0:∀ t id,t ∉ ds→Pts ((S 0).get t) id→¬ Q3e S ds id) {i m:Nat} {oi:Oper} (hi:ops[i]? = some oi) (hr:Q4X ds ops i=true) (him:i≤m+1) (hm:m+1≤ops.size)
  {ev:Operand→AV} {e:Eff} (up:AOp P false oi.op ev (HS S E ops.size i) (S i).n e) (nw:∀ p∈e.new,HS S E ops.size i p.1=some p.2) (hev:∀ t,(.tmp t:Operand)∈oi.op.operands→ev (.tmp t)=(S i).get t) :
  AOp P false oi.op ev (HS S E ops.size (m+1)) (S i).n e∧∀ p∈e.new,HS S E ops.size (m+1) p.1=some p.2:=by
 obtain ⟨ty,t,ho,hsrc⟩:=Q5M hi hr;have his:=(Array.getElem?_eq_some_iff.1 hi).1;have hsame:=HS_same T hD hall (i:=i) (m+1) him hm;have hadr:∀ id a b,(S i).get t = .adr id a b→¬ Q3e S ds id:=fun id a b hg=>Q7d T hS0 8 i t (by omega) hsrc id (by rw [hg];exact .adr);have hidx:∀ ty' x c,Q1K ty' ((S i).get t) x (HS S E ops.size i)=some (c,e)→Q1K ty' ((S i).get t) x (HS S E ops.size (m+1))=some (c,e)∧e.new=[]:=by
  intro ty' x c hc;generalize hg:(S i).get t=v0 at hc ⊢;unfold Q1K at hc ⊢;split at hc
  ·rename_i tt id off n k j;have hlt:¬ Q3e S ds id:=Q7d T hS0 8 i t (by omega) hsrc id (by rw [hg];exact .own);have hid:HS S E ops.size (m+1) id=HS S E ops.size i id:=(hsame id).resolve_right fun h=>hlt h.2.2;have hcont:=Q92 (h:=HS S E ops.size i) (h':=HS S E ops.size (m+1)) (fun x=>(hsame x).imp_right fun h=>⟨h.1,h.2.1⟩) depth id hid;simp only [hcont];refine ⟨hc,?_⟩;split at hc
   ·split at hc
    ·simp only [qA,qH] at hc;rw [← hc.2]
    cases hc
   cases hc
  ·refine ⟨hc,?_⟩;split at hc
   ·simp only [qA,qH] at hc;rw [← hc.2]
   cases hc
  cases hc
 have hload:∀ c,Q3h (tyi P ty) ((S i).get t) (HS S E ops.size i) (S i).n=some (c,e)→Q3h (tyi P ty) ((S i).get t) (HS S E ops.size (m+1)) (S i).n=some (c,e)∧∀ p∈e.new,Ql (some p.2)=false:=by
  intro c hc;refine ⟨?_,loadv_new hc⟩;cases hg:(S i).get t with
  | adr id a b =>
   have hlt:=hadr id a b hg;have hid:HS S E ops.size (m+1) id=HS S E ops.size i id:=(hsame id).resolve_right fun h=>hlt h.2.2;have hcont:=Q92 (h:=HS S E ops.size i) (h':=HS S E ops.size (m+1)) (fun x=>(hsame x).imp_right fun h=>⟨h.1,h.2.1⟩) depth id hid;rw [hg] at hc;cases hty:tyi P ty with
   | none=>rw [hty] at hc;cases hc
   | some tt =>
    rw [hty,Q8p] at hc;rw [Q8p,hid];cases hq:HS S E ops.size i id with
    | none=>rw [hq] at hc;cases hc
    | some y =>
     rw [hq] at hc;cases y with
     | mix=>exact hc
     | row=>exact hc
     | mapE=>cases hc
     | ali=>simp only [Q9T] at hc ⊢;rw [hcont];exact hc
  | rptr cs =>
   rw [hg] at hc;cases hty:tyi P ty with
   | none=>rw [hty] at hc;cases hc
   | some tt=>rw [hty] at hc;exact hc
  | _=>rw [hg] at hc;cases hty:tyi P ty<;>(rw [hty] at hc;cases hc)
 rcases ho with ho|⟨x,ho⟩
 ·rw [ho] at up hev ⊢;have hevt:=hev t (by simp [Op.operands]);cases up with
  | sem h0=>cases h0
  | blt h1 h2 =>
   simp only [opF] at h1;rw [hevt] at h1;obtain ⟨q1,q2⟩:=hload _ h1;refine ⟨.blt (by simp only [opF];rw [hevt];exact q1) h2,fun p hp=>?_⟩;rcases hsame p.1 with h|⟨h,_⟩
   ·rw [h];exact nw p hp
   rw [nw p hp,q2 p hp] at h;cases h
  | call h1=>cases h1
  | mcall h1=>cases h1
  | icall h1=>cases h1
  | boxr h1=>cases h1
  | appM h1=>cases h1
  | fcall h1=>cases h1
  | fcallb h1=>cases h1
  | callb h1=>cases h1
  | mapo h1=>simp [mapF] at h1
  | mkz h1=>cases h1
  | cvs h1=>cases h1
  | sl3 h1=>cases h1
  | mkf h1=>cases h1
  | mkb h1=>cases h1
  | mki h1=>cases h1
  | mkis h1=>cases h1
  | tas h1=>cases h1
  | sto h1=>cases h1
  | stg h1=>cases h1
 rw [ho] at up hev ⊢;have hevt:=hev t (by simp [Op.operands]);cases up with
 | sem h0=>cases h0
 | blt h1 h2 =>
  simp only [opF] at h1;split at h1
  ·rename_i et het;rw [hevt] at h1;obtain ⟨q1,q2⟩:=hidx _ _ _ h1;refine ⟨.blt (by simp only [opF,het];rw [hevt];exact q1) h2,fun p hp=>?_⟩;rw [q2] at hp;cases hp
  cases h1
 | call h1=>cases h1
 | mcall h1=>cases h1
 | icall h1=>cases h1
 | boxr h1=>cases h1
 | appM h1=>cases h1
 | fcall h1=>cases h1
 | fcallb h1=>cases h1
 | callb h1=>cases h1
 | mapo h1=>simp [mapF] at h1
 | mkz h1=>cases h1
 | cvs h1=>cases h1
 | sl3 h1=>cases h1
 | mkf h1=>cases h1
 | mkb h1=>cases h1
 | mki h1=>cases h1
 | mkis h1=>cases h1
 | tas h1=>cases h1
 | sto h1=>cases h1
 | stg h1=>cases h1
def isApp:Op→Bool
 | .call ⟨.builtin .append,_,_⟩=>true
 | _=>false
theorem app_set {op:Op} {ev:Operand→AV} {h:HP} {n:Nat} {e:Eff} (hop:AOp P false op ev h n e) (ha:isApp op=true):e.set=[]:=by
 unfold isApp at ha;split at ha
 case h_2=>cases ha
 rename_i az ts;cases hop with
 | sem h0=>cases h0
 | blt he hc =>
  simp only [opF] at he;unfold bltF at he;split at he
  ·first|(rename_i hq _ _;cases hq;done)|(rename_i hq _;cases hq;done)|(rename_i hq;cases hq;done)
  ·split at he
   ·split at he
    ·unfold Q26 at he;split at he
     ·split at he
      ·split at he
       ·simp only [qA,qH] at he;obtain ⟨_,rfl⟩:=he;rfl
       cases he
      cases he
     cases he
    cases he
   cases he
  ·first|(rename_i hq _ _;cases hq;done)|(rename_i hq _;cases hq;done)|(rename_i hq;cases hq;done)
  ·first|(rename_i hq _ _;cases hq;done)|(rename_i hq _;cases hq;done)|(rename_i hq;cases hq;done)
  cases he
 | call h1 h2=>cases h1;cases h2
 | mcall h1=>cases h1
 | icall h1=>cases h1
 | boxr h1=>cases h1
 | appM h1 h2 h3 =>
  unfold Vc.appM at h3;split at h3
  ·split at h3
   ·simp only [qA,qH] at h3;obtain ⟨_,rfl⟩:=h3;rfl
   cases h3
  cases h3
 | fcall h1 h2=>cases h1;cases h2
 | fcallb h1 h2=>cases h1;cases h2
 | callb h1 h2=>cases h1;cases h2
 | mapo h1=>simp [mapF] at h1
 | mkz h1=>cases h1
 | cvs h1=>cases h1
 | sl3 h1=>cases h1
 | mkf h1=>cases h1
 | mkb h1=>cases h1
 | mki h1=>cases h1
 | mkis h1=>cases h1
 | tas h1=>cases h1
 | sto h1=>cases h1
 | stg h1=>cases h1
theorem wr_ex {h:HP}:∀ (d id:Nat) (es:List (List AV)) (s:List (Nat × Ent)),wr h d id es=some s→∃ p y,s=[p]∧h p.1=some y:=by
 intro d
 induction d with
 | zero=>intro id es s hw;simp [wr] at hw
 | succ d ih =>
  intro id es s hw;unfold wr at hw;cases he:h id with
  | none=>simp [he] at hw
  | some e =>
   cases e with
   | mix=>simp [he] at hw;exact ⟨_,_,hw.symm,he⟩
   | row=>simp [he] at hw;exact ⟨_,_,hw.symm,he⟩
   | mapE=>simp [he] at hw
   | ali c i k sz =>
    simp only [he] at hw;cases hc:cont h d c with
    | none=>simp [hc] at hw
    | some p=>rw [hc] at hw;exact ih _ _ _ hw
theorem store_set {ty:TypeId} {a:Nat} {x:Operand} {ev:Operand→AV} {h:HP} {n j i k:Nat} {e:Eff} (hop:AOp P false (.store ty (.tmp a) x) ev h n e) (ha:ev (.tmp a) = .adr j i k) :
  ∀ p∈e.set,(∃ y,h p.1=some y)∧(Ql (h j)=true→p.1=j∧Ql (some p.2)=true):=by
 cases hop with
 | sem h0=>cases h0
 | blt h1 h2 =>
  simp only [opF,ha,Q2Y] at h1;cases hty:tyi P ty with
  | none=>rw [hty] at h1;cases h1
  | some t =>
   rw [hty] at h1;have gen:∀ (c0:Prop) y,h j=some y→Ql (some y)=false→(match cont h depth j with
     | some (sz,es)=>match ev x with
      | .val v=>if t.sz=1∧Q6q v=true then
        match wr h depth j (es.set i ((es.getD i []).set k (.val v))) with
        | some s=>some (i<es.length∧k<sz,({ v:=.bot,set:=s }:Eff))
        | none=>none
       else none
      | _=>none
     | none=>none)=some (c0,e)→∀ p∈e.set,(∃ y,h p.1=some y)∧(Ql (h j)=true→p.1=j∧Ql (some p.2)=true):=by
    intro c0 y hy hm hq;split at hq
    ·split at hq
     ·split at hq
      ·split at hq
       ·rename_i s hs;simp only [qA,qH] at hq;obtain ⟨_,rfl⟩:=hq;obtain ⟨q,y',rfl,hq⟩:=wr_ex _ _ _ _ hs;intro p hp;simp only [List.mem_singleton] at hp;subst hp;exact ⟨⟨_,hq⟩,fun hm'=>by rw [hy,hm] at hm';cases hm'⟩
       cases hq
      cases hq
     cases hq
    cases hq
   cases hj:h j with
   | none=>simp [hj] at h1
   | some y =>
    cases y with
    | mix sz es =>
     simp only [hj] at h1;split at h1
     ·simp only [qA,qH] at h1;obtain ⟨_,rfl⟩:=h1;intro p hp;simp only [List.mem_singleton] at hp;subst hp;exact ⟨⟨_,hj⟩,fun _=>⟨rfl,rfl⟩⟩
     cases h1
    | row=>simp only [hj] at h1;rw [← hj];exact gen _ _ hj rfl h1
    | mapE=>simp only [hj] at h1;rw [← hj];exact gen _ _ hj rfl h1
    | ali=>simp only [hj] at h1;rw [← hj];exact gen _ _ hj rfl h1
 | call h1=>cases h1
 | mcall h1=>cases h1
 | icall h1=>cases h1
 | boxr h1=>cases h1
 | appM h1=>cases h1
 | fcall h1=>cases h1
 | fcallb h1=>cases h1
 | callb h1=>cases h1
 | mapo h1=>simp [mapF] at h1
 | mkz h1=>cases h1
 | cvs h1=>cases h1
 | sl3 h1=>cases h1
 | mkf h1=>cases h1
 | mkb h1=>cases h1
 | mki h1=>cases h1
 | mkis h1=>cases h1
 | tas h1=>cases h1
 | sto h1 h2 h3 h4 h5 =>
  cases h1;rw [ha] at h4;cases h4;intro p hp;simp only [List.mem_singleton] at hp;subst hp;have:=h5.ent;exact ⟨⟨_,this⟩,fun hm=>by rw [this] at hm;cases hm⟩
 | stg h1 h2 h3 h4 _ h5 =>
  cases h1;rw [ha] at h4;cases h4;intro p hp;simp only [List.mem_singleton] at hp;subst hp;have:=h5.ent;exact ⟨⟨_,this⟩,fun hm=>by rw [this] at hm;cases hm⟩
def Tgt (rs:List Nat) (st st':St) (j:Nat):Prop:=Ql (st.hp j)=true∧Ql (st'.hp j)=true∧∀ s∈rs,∀ id,st.get s = .adr id 0 0→j ≠ id
structure Kp (rs:List Nat) (J:Nat) (ops:Array Oper) (st st':St):Prop where
 var:∀ s∈rs,∃ id,st.get s = .adr id 0 0∧Ql (st.hp id)=true∧Ql (st'.hp id)=true
 wr:∀ k o,ops[k]? = some o→wrM false o.op=true→isApp o.op=true∨∃ ty a x,o.op = .store ty (.tmp a) x∧(∀ m,k≤m→m<ops.size→(ops[m]?).bind (·.dst) ≠ some a)∧∃ j i' k',st'.get a = .adr j i' k'∧(k≤J→Tgt rs st st' j)
theorem kp_set (T:Tr P false ops S E) {rs:List Nat} {J:Nat} (hK:Kp rs J ops (S 0) (S ops.size)) {m:Nat} (hm:m<ops.size):∀ p∈(eff E m).set,(∃ y,(S m).hp p.1=some y)∧(m≤J→∃ j,Tgt rs (S 0) (S ops.size) j∧(Ql ((S m).hp j)=true→p.1=j∧Ql (some p.2)=true)):=by
 have hg:=zA hm;obtain ⟨hf,hS,hnw,_⟩:=T.step hg;intro p hp;cases hw:wrM false (ops[m]).op with
 | false=>rw [(hnw hw).1] at hp;cases hp
 | true =>
  have hrun:=T.run m _ hg;cases hE:E m with
  | none=>simp [eff,hE] at hp
  | some e =>
   rw [hE] at hrun;have hop:=hrun.2.1;have heff:eff E m=e:=(by simp [eff,hE]);rw [heff] at hp;rcases hK.wr m _ hg hw with ha|⟨ty,a,x,ho,hd,j,i',k',hj,ht⟩
   ·rw [app_set hop ha] at hp;cases hp
   rw [ho] at hop;have hga:(S m).get a = .adr j i' k':=(by rw [← hj];exact (Q3A T ops.size (by omega) (qC _) fun q h1 h2=>hd q h1 h2).symm);have:=store_set hop (show (S m).ev (.tmp a) = .adr j i' k' from hga) p hp;exact ⟨this.1,fun hJ=>⟨j,ht hJ,this.2⟩⟩
theorem kp_gone (T:Tr P false ops S E) {rs:List Nat} {J:Nat} (hK:Kp rs J ops (S 0) (S ops.size)) {x m:Nat} (hx:x<(S m).n) (h0:(S m).hp x=none):∀ k,m≤k→k≤ops.size→(S k).hp x=none:=by
 intro k
 induction k with
 | zero =>
  intro h _;have:m=0:=by omega
  subst this;exact h0
 | succ k ih =>
  intro h hk;rcases zB m (k+1) with h'|h'
  ·have hn:=ih (by omega) (by omega);have hg:=zA (show k<ops.size by omega);obtain ⟨hf,hS,_⟩:=T.step hg;have hle:=T.nle (show m≤k by omega) (by omega);show look x (S (k+1)).h=none;rw [hS,Q2D _ _ hf];have h1:look x (eff E k).set=none:=by
    cases hq:look x (eff E k).set with
    | none=>rfl
    | some y =>
     obtain ⟨⟨z,hz⟩,_⟩:=kp_set T hK (show k<ops.size by omega) _ (Qk hq);rw [hn] at hz;cases hz
   have h2:look x (eff E k).new=none:=by
    cases hq:look x (eff E k).new with
    | none=>rfl
    | some y=>have:=(hf.new _ (Qk hq)).1;simp only at this;omega
   simp only [happ,h1,hn,h2];simp
  have:m=k+1:=by omega
  subst this;exact h0
theorem kp_all (T:Tr P false ops S E) {rs:List Nat} {J:Nat} (hK:Kp rs J ops (S 0) (S ops.size)):∀ m,m≤ops.size→m≤J+1→(∀ s∈rs,∀ id,(S 0).get s = .adr id 0 0→(S m).hp id=(S 0).hp id)∧∀ j,Tgt rs (S 0) (S ops.size) j→Ql ((S m).hp j)=true:=by
 intro m
 induction m with
 | zero=>intro _ _;exact ⟨fun _ _ _ _=>rfl,fun j hj=>hj.1⟩
 | succ m ih =>
  intro hm hmJ;obtain ⟨i1,i2⟩:=ih (by omega) (by omega);have hg:=zA (show m<ops.size by omega);obtain ⟨hf,hS,_⟩:=T.step hg;have hms:∀ x,Ql ((S 0).hp x)=true→x<(S 0).n:=by
   intro x hx;cases hq:(S 0).hp x with
   | none=>rw [hq] at hx;cases hx
   | some y=>exact T.all 0 (by omega) _ _ hq
  have hnew:∀ x,Ql ((S 0).hp x)=true→look x (eff E m).new=none:=by
   intro x hx0;have hlt':x<(S m).n:=qD (hms x hx0) (T.nle (Nat.zero_le _) (by omega));cases hq:look x (eff E m).new with
   | none=>rfl
   | some y=>have:=(hf.new _ (Qk hq)).1;simp only at this;omega
  have hdel:∀ x,Ql ((S 0).hp x)=true→Ql ((S ops.size).hp x)=true→look x (eff E m).set=none→x ∉ (eff E m).del:=by
   intro x hx0 hx hl hc;have hlt:x<(S (m+1)).n:=qD (hms x hx0) (T.nle (Nat.zero_le _) hm);have hn:(S (m+1)).hp x=none:=by
    show look x (S (m+1)).h=none;rw [hS,Q2D _ _ hf];simp only [happ,hl,if_pos hc,hnew x hx0]
   rw [kp_gone T hK hlt hn ops.size hm (qC _)] at hx;cases hx
  have step:∀ x,Ql ((S 0).hp x)=true→look x (eff E m).set=none→x ∉ (eff E m).del→(S (m+1)).hp x=(S m).hp x:=by
   intro x hx0 hl hd;show look x (S (m+1)).h=_;rw [hS,Q2D _ _ hf];simp only [happ,hl,if_neg hd,hnew x hx0];cases (S m).hp x<;>rfl
  refine ⟨fun s hs id hid=>?_,fun j hj=>?_⟩
  ·obtain ⟨id',q1,q2,q3⟩:=hK.var s hs;rw [hid] at q1;cases q1;have hl:look id (eff E m).set=none:=by
    cases hq:look id (eff E m).set with
    | none=>rfl
    | some y =>
     obtain ⟨_,hh0⟩:=kp_set T hK (show m<ops.size by omega) _ (Qk hq);obtain ⟨j,ht,hh⟩:=hh0 (by omega);exact absurd (hh (i2 j ht)).1.symm (ht.2.2 s hs id hid)
   rw [step id q2 hl (hdel id q2 q3 hl)];exact i1 s hs id hid
  cases hq:look j (eff E m).set with
  | none=>rw [step j hj.1 hq (hdel j hj.1 hj.2.1 hq)];exact i2 j hj
  | some y =>
   obtain ⟨_,hh0⟩:=kp_set T hK (show m<ops.size by omega) _ (Qk hq);obtain ⟨j',ht,hh⟩:=hh0 (by omega);have:=(hh (i2 j' ht)).2;show Ql (look j (S (m+1)).h)=true;rw [hS,Q2D _ _ hf];simp only [happ,hq];exact this
theorem kept_nil (ops:Array Oper) (i:Nat):Q4e [] ops i=false:=by
 have h:∀ l t,Q6k [] ops l t=false:=by
  intro l t;unfold Q6k;split<;>simp
 unfold Q4e;split
 ·simp [h]
 rfl
theorem Q5w {rs:List Nat} {i:Nat} {o:Oper} (hi:ops[i]? = some o) (h:Q4e rs ops i=true):∃ ty t,o.op = .load ty (.tmp t)∧((t∈rs∧Q7F ops t=true)∨∃ l,l<i∧Q6k rs ops l t=true):=by
 unfold Q4e at h;split at h
 ·rename_i d ty t t2 p af g ho;rw [hi] at ho;cases ho;simp only [Bool.or_eq_true,Bool.and_eq_true,List.any_eq_true,List.mem_range] at h;refine ⟨ty,t,rfl,?_⟩;rcases h with h|⟨l,hl,h⟩
  ·exact .inl ⟨by simpa using h.1,h.2⟩
  exact .inr ⟨l,hl,h⟩
 cases h
theorem kept_adr (T:Tr P false ops S E) {rs:List Nat} {J:Nat} (hK:Kp rs J ops (S 0) (S ops.size)) {i:Nat} (his:i<ops.size) {t:Nat} (h:(t∈rs∧Q7F ops t=true)∨∃ l,l<i∧Q6k rs ops l t=true):∃ s∈rs,∃ id a b,(S 0).get s = .adr id 0 0∧(S i).get t = .adr id a b:=by
 rcases h with ⟨ht,hd⟩|⟨l,hl,h⟩
 ·obtain ⟨id,q1,_⟩:=hK.var t ht;exact ⟨t,ht,id,0,0,q1,by rw [Q3A T i (Nat.zero_le _) (by omega) fun q _ hq=>Q3C hd (by omega)];exact q1⟩
 unfold Q6k at h;split at h
 ·rename_i d ty1 r off ty2 pos af hol;simp only [Bool.and_eq_true,beq_iff_eq] at h;obtain ⟨h1,h2,h3,h4⟩:=h;have h4:r∈rs:=by simpa using h4
  obtain ⟨id,q1,_⟩:=hK.var r h4;obtain ⟨e',hE,hop,hS⟩:=Q5m T hol rfl;have hr0:(S l).get r = .adr id 0 0:=by rw [Q3A T l (Nat.zero_le _) (by omega) fun q _ hq=>Q3C h3 (by omega)];exact q1
  have hg:(S i).get t=e'.v:=by rw [Q3A T (a:=l+1) i (by omega) (by omega) fun q hq1 hq2=>Q3r h2 (by omega) (by omega),hS,Q4C,if_pos h1]
  cases hop with
  | sem h0=>cases h0
  | blt p1 p2 =>
   have hx:(S l).ev (.tmp r) = .adr id 0 0:=hr0;simp only [opF,hx] at p1;unfold fieldAddr at p1;split at p1
   ·rename_i hf hx0;cases hx0;simp only [qA,qH] at p1;rw [← p1.2] at hg;exact ⟨r,h4,id,_,_,q1,hg⟩
   ·rename_i hx0;cases hx0
   cases p1
  | call h1=>cases h1
  | mcall h1=>cases h1
  | icall h1=>cases h1
  | boxr h1=>cases h1
  | appM h1=>cases h1
  | fcall h1=>cases h1
  | fcallb h1=>cases h1
  | callb h1=>cases h1
  | mapo h1=>simp [mapF] at h1
  | mkz h1=>cases h1
  | cvs h1=>cases h1
  | sl3 h1=>cases h1
  | mkf h1=>cases h1
  | mkb h1=>cases h1
  | mki h1=>cases h1
  | mkis h1=>cases h1
  | tas h1=>cases h1
  | sto h1=>cases h1
  | stg h1=>cases h1
 cases h
theorem kept_same (T:Tr P false ops S E) {rs:List Nat} {J:Nat} (hK:Kp rs J ops (S 0) (S ops.size)) {i m:Nat} {oi:Oper} (hi:ops[i]? = some oi) (hr:Q4e rs ops i=true) (him:i≤m+1) (hmJ:m≤J) (hm:m+1≤ops.size)
  {ev:Operand→AV} {e:Eff} (up:AOp P false oi.op ev (HS S E ops.size i) (S i).n e) (hev:∀ t,(.tmp t:Operand)∈oi.op.operands→ev (.tmp t)=(S i).get t) :
  AOp P false oi.op ev (HS S E ops.size (m+1)) (S i).n e∧∀ p∈e.new,HS S E ops.size (m+1) p.1=some p.2:=by
 obtain ⟨ty,t,ho,hsrc⟩:=Q5w hi hr;have his:=(Array.getElem?_eq_some_iff.1 hi).1;obtain ⟨s,hs,id,a,b,q1,q4⟩:=kept_adr T hK his hsrc;obtain ⟨id',q1',q2,q3⟩:=hK.var s hs;rw [q1] at q1';cases q1';rw [ho] at up hev ⊢;have hevt:ev (.tmp t) = .adr id a b:=by rw [hev t (by simp [Op.operands])];exact q4
 obtain ⟨sz,es,hmx⟩:∃ sz es,(S 0).hp id=some (.mix sz es):=by
  cases hq:(S 0).hp id with
  | none=>rw [hq] at q2;cases q2
  | some y=>cases y with
   | mix sz es=>exact ⟨sz,es,rfl⟩
   | row=>rw [hq] at q2;cases q2
   | mapE=>rw [hq] at q2;cases q2
   | ali=>rw [hq] at q2;cases q2
 have hH:∀ k,k≤ops.size→k≤J+1→HS S E ops.size k id=some (.mix sz es):=by
  intro k hk hkJ;have h1:look id (S k).h=some (.mix sz es):=by
   have:=(kp_all T hK k hk hkJ).1 s hs id q1;rw [hmx] at this;exact this
  simp only [HS,h1]
 cases up with
 | sem h0=>cases h0
 | blt h1 h2 =>
  simp only [opF] at h1;rw [hevt] at h1;cases hty:tyi P ty with
  | none=>rw [hty] at h1;cases h1
  | some tt =>
   rw [hty] at h1;simp only [Q3h,hH i (by omega) (by omega),qA,qH] at h1;obtain ⟨hc,he⟩:=h1;subst he;refine ⟨.blt (c:=a<es.length∧b+tt.sz≤sz) ?_ (by rw [hc];exact h2),fun p hp=>by cases hp⟩;simp only [opF];rw [hevt,hty];simp only [Q3h,hH (m+1) hm (by omega)]
 | call h1=>cases h1
 | mcall h1=>cases h1
 | icall h1=>cases h1
 | boxr h1=>cases h1
 | appM h1=>cases h1
 | fcall h1=>cases h1
 | fcallb h1=>cases h1
 | callb h1=>cases h1
 | mapo h1=>simp [mapF] at h1
 | mkz h1=>cases h1
 | cvs h1=>cases h1
 | sl3 h1=>cases h1
 | mkf h1=>cases h1
 | mkb h1=>cases h1
 | mki h1=>cases h1
 | mkis h1=>cases h1
 | tas h1=>cases h1
 | sto h1=>cases h1
 | stg h1=>cases h1
def Mov (P:Program) [Kd P] (ops:Array Oper) (S:Nat→St) (E:Nat→Option Eff) (i m:Nat):Prop:=∀ oi,ops[i]? = some oi→wrM false oi.op=false∧∀ (ev:Operand→AV) (e:Eff),i≤m+1→m+1≤ops.size →
 AOp P false oi.op ev (HS S E ops.size i) (S i).n e→(∀ p∈e.new,HS S E ops.size i p.1=some p.2)→(∀ t,(.tmp t:Operand)∈oi.op.operands→ev (.tmp t)=(S i).get t) →
 AOp P false oi.op ev (HS S E ops.size (m+1)) (S i).n e∧∀ p∈e.new,HS S E ops.size (m+1) p.1=some p.2
theorem mov_soft (T:Tr P false ops S E) (hD:SD ds (S 0)) (hall:Q3R ds ops=true) (hS0:∀ t id,t ∉ ds→Pts ((S 0).get t) id→¬ Q3e S ds id) {i m:Nat} (hr:Q4X ds ops i=true):Mov P ops S E i m :=
 fun oi hi=>⟨rootAt_wr hi hr,fun ev e him hm up nw hev=>root_same T hD hall hS0 hi hr him hm up nw hev⟩
theorem mov_kept (T:Tr P false ops S E) {rs:List Nat} {J:Nat} (hK:Kp rs J ops (S 0) (S ops.size)) {i m:Nat} (hmJ:m≤J) (hr:Q4e rs ops i=true):Mov P ops S E i m :=
 fun oi hi=>⟨by obtain ⟨ty,t,ho,_⟩:=Q5w hi hr;rw [ho];rfl,fun ev e him hm up nw hev=>kept_same T hK hi hr him hmJ hm up hev⟩
theorem hU_last (L:Nat→Bool):∀ n,(∃ k,k<n∧L k=true∧isW false ops k=true)→∃ m,m<n∧hU false ops S E L n=HS S E ops.size (m+1)∧(∀ k,m<k→k<n→L k=true→isW false ops k=false)∧L m=true∧isW false ops m=true:=by
 intro n
 induction n with
 | zero=>rintro ⟨k,hk,_⟩;omega
 | succ n ih =>
  rintro ⟨k,hk,h1,h2⟩
  by_cases hn:L n=true∧isW false ops n=true
  ·refine ⟨n,by omega,?_,(fun q h3 h4=>by omega),hn.1,hn.2⟩;simp only [hU];rw [if_pos (by simpa [isW] using hn)]
  have hkn:k<n:=by
   rcases zB k n with h|h
   ·exact h
   have:k=n:=(by omega);subst this;exact absurd ⟨h1,h2⟩ hn
  obtain ⟨m,m1,m2,m3,m4,m5⟩:=ih ⟨k,hkn,h1,h2⟩;refine ⟨m,by omega,?_,fun q h3 h4 h5=>?_,m4,m5⟩
  ·simp only [hU];rw [if_neg (by simpa [isW] using hn)];exact m2
  by_cases hq:q=n
  ·subst hq;cases hw:isW false ops q with
   | false=>rfl
   | true=>exact absurd ⟨h5,hw⟩ hn
  exact m3 q h3 (by omega) h5
theorem mid_stepS (T:Tr P false ops S E) (hN:∀ o∈ops.toList,∀ d,o.dst=some d→d<N) {L:Nat→Bool} {i:Nat} {oi:Oper} (hi:ops[i]? = some oi) (hL:L i=false)
  (hA:∀ k o,k<i→ops[k]? = some o→Q3T false ops o oi=true→L k=true∨(Mov P ops S E k i∧Q3I ops o oi=false)) (hB:∀ k o,i<k→ops[k]? = some o→L k=true→Q3I ops oi o=false∧(Q4O oi o=true→Mov P ops S E i k))
  {a:Act} {w:World} (M:Mid false C R N ops S E w0 L a w) {K:Act→World→Prop} (hK:∀ R' a' w',RX R R' C.w0.heap.size→Mid false C R' N ops S E w0 (upL L i) a' w'→K a' w'):wpOp P ops i K a w:=by
 classical
 have hin:i<ops.size:=(Array.getElem?_eq_some_iff.1 hi).1;obtain ⟨o,ρ,W,H,hx,hρ,hpin⟩:=M.ex;obtain ⟨hf,hS,hnw,hnt⟩:=T.step hi;have hd:(ops[i]?).bind (·.dst)=oi.dst:=by rw [hi];rfl
 have hslot:∀ t,t∈Q4k ops oi→envU ops S E L ops.size t=(S i).get t:=by
  intro t ht;rw [Q7g L t i ops.size (by omega) fun k hk1 hk2 hk3=>?_]
  ·refine Q8c T L t i (by omega) fun k hk1 hk2=>?_;have hk:k<ops.size:=(by omega);rw [zA hk] at hk2;have hk2:(ops[k]).dst=some t:=hk2;have hcs:Q3I ops ops[k] oi=true:=by
    simp only [Q3I,hk2,Bool.or_eq_true];left;left;simpa using ht
   rcases hA k _ hk1 (zA hk) (by rw [Q91,hcs];rfl) with h|h
   ·exact h
   rw [hcs] at h;cases h.2
  intro hdk
  by_cases hki:k=i
  ·subst hki;rw [hL] at hk3;cases hk3
  have hk:k<ops.size:=hk2;have h1:=hB k _ (by omega) (zA hk) hk3;rw [zA hk] at hdk;exact (Q6h h1.1).2 t hdk ht
 have hown:∀ t,envU ops S E (upL L i) ops.size t=if oi.dst=some t then (eff E i).v else envU ops S E L ops.size t:=by
  intro t;rw [Q95 hL t ops.size fun k h1 h2 h3=>?_,hd]
  ·by_cases hdt:oi.dst=some t
   ·rw [if_pos ⟨hin,hdt⟩,if_pos hdt]
   rw [if_neg (fun h=>hdt h.2),if_neg hdt]
  cases hdi:oi.dst with
  | none=>right;rw [hd,hdi]
  | some d =>
   left;rw [hd,hdi,zA h2];have h4:=hB k _ h1 (zA h2) h3;exact ((Q6h h4.1).1 d hdi).2
 have hdN:∀ x,oi.dst=some x→x<a.tmps.size:=fun x hx=>by
  rw [M.size];exact hN oi (by rw [← Array.getElem?_toList] at hi;exact List.mem_of_getElem? hi) x hx
 have fin:∀ v w' R' o' ρ',RX R R' C.w0.heap.size→WF C w' ⟨R',o',ρ'⟩→HRel w' ⟨R',o',ρ'⟩ (hU false ops S E (upL L i) ops.size)→(∀ id k,ρ id=some k→ρ' id=some k)→(∀ id k,ρ' id=some k→ρ id=some k∨((S i).n≤id∧id<(S i).n+(eff E i).cnt)) →
   XRel w' R' ρ' v (eff E i).v→(∀ b,R b→w'.heap[b]? = w.heap[b]?)→K (a.put oi.dst v) w':=by
  intro v w' R' o' ρ' hX W' H' h1 h2 hv h3;refine hK R' _ _ hX ⟨by rw [Q9r];exact M.size,by rw [← M.defers];cases oi.dst<;>rfl,⟨o',ρ',W',H',fun t=>?_,fun id k hk=>?_,fun id hid=>?_,hpin.2⟩⟩
  ·rw [put_get a oi.dst v t hdN,hown];split
   ·exact hv
   exact (hx t).mono (fun b hb=>⟨hX.1 b hb,h3 b hb⟩) h1
  ·rcases h2 id k hk with h4|h4
   ·rcases hρ id k h4 with h5|⟨j,hj,hLj,h5⟩
    ·exact .inl h5
    exact .inr ⟨j,hj,by simp only [upL];split<;>simp_all,h5⟩
   exact .inr ⟨i,hin,by simp [upL],h4.1,by rw [T.n hin];exact h4.2⟩
  rw [← hpin.1 id hid];cases hr:ρ id with
  | some k=>exact h1 id k hr
  | none =>
   cases hr':ρ' id with
   | none=>rfl
   | some k =>
    exfalso;rcases h2 id k hr' with h4|h4
    ·rw [hr] at h4;cases h4
    have:=T.nle (show 0≤i by omega) (by omega);have:=hpin.2;omega
 have hW:isW false ops i=true→(∀ k,k<i→isW false ops k=true→L k=true)∧∀ k,i<k→k<ops.size→L k=true→isW false ops k=false:=by
  intro hw;have hwi:wrM false oi.op=true:=by simpa [isW,hi] using hw
  have htw:∀ x:Op,wrM false x=true→touch x=true:=by
   intro x hx;cases x with
   | call cl =>
    obtain ⟨ce,args,ts⟩:=cl;cases ce with
    | builtin b=>cases b<;>simp_all [wrM,Q3n,roC,Q3K,Q1j,touch]
    | value=>rfl
    | invoke=>simp [wrM,Q3n,roC,Q3K,Q1j] at hx
   | _=>first|rfl|(simp [wrM,Q3n,roC,Q3K,Q1j] at hx;done)
  refine ⟨fun k hk hwk=>?_,fun k hk hk2 hLk=>?_⟩
  ·have hks:k<ops.size:=(by omega);have hg:=zA hks;have hwk':wrM false (ops[k]).op=true:=(by simpa [isW,hg] using hwk);rcases hA k _ hk hg (by simp only [Q3T,Bool.or_eq_true,Bool.and_eq_true];left;right;exact ⟨hwk',(tch0 _).trans (htw _ hwi)⟩) with h|h
   ·exact h
   have:=(h.1 _ hg).1;rw [hwk'] at this;cases this
  have hg:=zA hk2;have h1:=hB k _ hk hg hLk;cases hwk:isW false ops k with
  | false=>rfl
  | true =>
   have hwk':wrM false (ops[k]).op=true:=(by simpa [isW,hg] using hwk);have h2:=h1.2 (by simp only [Q4O,hwi,htw _ hwk',Bool.and_self,Bool.true_or]);have:=(h2 _ hi).1;rw [hwi] at this;cases this
 have hhU:=hU_upL T hin hL hW;have hguard:∀ b,Q2K ops oi (S i)=some b→Region.wanted oi (yielded ops a.tmps)=b:=by
  intro b hb;unfold Q2K at hb;unfold Region.wanted;split at hb
  ·rename_i hg;rw [hg];simpa using hb
  rename_i j want hg;rw [hg];split at hb
  ·rename_i t ht;split at hb
   ·rename_i bb hbb;have h1:=hx t;rw [hslot t (Q35 hg ht),hbb] at h1;have h2:=h1.val_eq.1;have h3:a.tmps[t]? = some (.bool bb):=by
     cases hh:a.tmps[t]? with
     | none=>simp [hh,undef] at h2
     | some x=>simp [hh] at h2;rw [h2]
    simp only [yielded,ht,Option.bind_some,h3];simp only [qA] at hb;rw [← hb];cases bb<;>cases want<;>rfl
   ·rename_i htt;have h1:=hx t;rw [hslot t (Q35 hg ht),htt] at h1;obtain ⟨cs,h2,h3,_⟩:=h1.tup_eq;have h4:cs = #[]:=(by simpa using h3);subst h4;simp only [qA] at hb;rw [← hb];have h5:a.tmps[t]? = none∨a.tmps[t]? = some (.tuple #[]):=by
     cases hh:a.tmps[t]? with
     | none=>exact .inl rfl
     | some x=>simp [hh] at h2;rw [h2];exact .inr rfl
    rcases h5 with h5|h5<;>simp [yielded,ht,h5]
   cases hb
  cases hb
 have hrun:=T.run i oi hi;unfold wpOp;rw [hi];simp only;cases hE:E i with
 | none =>
  rw [hE] at hrun;rw [hguard false hrun.1];simp only [Bool.false_eq_true,if_false];have heff:eff E i = { v:=.tup [] }:=by simp [eff,hE]
  refine fin undef w R o ρ .refl W ?_ (fun _ _ h=>h) (fun _ _ h=>.inl h) (by rw [heff];exact .tup rfl fun k hk=>by simp at hk) (fun _ _=>rfl);rw [hhU,heff];cases isW false ops i<;>simpa [Q10] using H
 | some e =>
  rw [hE] at hrun;obtain ⟨hwant,hop,_⟩:=hrun;have heff:eff E i=e:=by simp [eff,hE]
  rw [hguard true hwant];simp only [if_true]
  let ev:Operand→AV:=fun x=>if x∈oi.op.operands then (S i).ev x else .bot
  have hev:∀ x,XRel w R ρ (a.eval x) (ev x):=by
   intro x;simp only [ev];split
   ·rename_i hmem;cases x with
    | tmp t =>
     have:=hx t;rw [hslot t (Q7W hmem)] at this;exact this
    | const v =>
     simp only [St.ev,cst,Act.eval];split
     ·rename_i hsc;exact .r (.val (Q7M hsc))
     exact .bot
    | global=>exact .bot
    | func f=>exact .fn (by simp) (fun k hk=>by simp at hk)
   exact .bot
  have hop1:AOp P false oi.op ev (S i).hp (S i).n e:=hop.congr fun x hx=>by simp only [ev];rw [if_pos hx]
  have hop2:AOp P false oi.op ev (hU false ops S E L ops.size) (S i).n e∧(∀ p∈e.new,hU false ops S E L ops.size p.1=some p.2):=by
   cases ht:touch oi.op with
   | false =>
    have hc:=hop1.calm ht;exact ⟨hc.2 _,by rw [hc.1.2.2.1];simp⟩
   | true =>
    have hok:=T.all i (by omega);have up:AOp P false oi.op ev (HS S E ops.size i) (S i).n e:=by
     refine hop1.up (fun id x hid=>?_) fun id hid=>?_
     ·have hid':look id (S i).h=some x:=hid;simp only [HS,hid']
     simp only [HS,St.hp];cases hh:look id (S i).h with
     | some x=>rfl
     | none =>
      cases hl:look id (Q2P E i (ops.size - i)) with
      | none=>rfl
      | some x =>
       obtain ⟨p,hp,hpe⟩:=List.mem_map.1 (Q3o hl);have:=(Q5i T (ops.size - i) i (by omega) p hp).1;omega
    have nw:∀ p∈e.new,HS S E ops.size i p.1=some p.2:=by
     intro p hp;have hfe:e.fine (S i).n:=(by rw [← heff];exact hf);have hlt:=(hfe.new p hp).1;have hnone:look p.1 (S i).h=none:=by
      cases hh:look p.1 (S i).h with
      | none=>rfl
      | some x=>have:=hok _ _ hh;omega
     simp only [HS,hnone];have hlat:Q2P E i (ops.size - i)=(eff E i).new++Q2P E (i+1) (ops.size - (i+1)):=by
      rw [show ops.size - i=(ops.size - (i+1))+1 by omega];rfl
     rw [hlat,Q2q,heff,Q13 hfe.nodup hp]
    by_cases hlate:∃ k,i<k∧k<ops.size∧L k=true∧isW false ops k=true
    ·obtain ⟨k1,hk1,hk2,hk3,hk4⟩:=hlate;have hg1:=zA hk2;have hwk1:wrM false (ops[k1]).op=true:=(by simpa [isW,hg1] using hk4);obtain ⟨m,hm1,hm2,hm3,hm4,hm5⟩:=hU_last (S:=S) (E:=E) L ops.size ⟨k1,hk2,hk3,hk4⟩;have him:i≤m:=by
      rcases zB m i with h|h
      ·have:=hm3 k1 (by omega) hk2 hk3;rw [this] at hk4;cases hk4
      exact h
     rw [hm2];have hne:i ≠ m:=fun q=>by rw [q,hm4] at hL;cases hL
     have hgm:=zA hm1;have hwm:wrM false (ops[m]).op=true:=(by simpa [isW,hgm] using hm5);have hr:=(hB m _ (by omega) hgm hm4).2 (by simp only [Q4O,ht,hwm,Bool.and_self,Bool.or_true]);exact (hr _ hi).2 ev e (by omega) (by omega) up nw fun t ht=>by simp only [ev];rw [if_pos ht];rfl
    have e1:hU false ops S E L ops.size=HS S E ops.size i:=by
     rw [Q6J L i ops.size (by omega) fun k hk1 hk2 hk3=>?_]
     ·refine hU_at T L i (by omega) fun k hk hwk=>?_;have hks:k<ops.size:=(by omega);have hg:=zA hks;have hwk':wrM false (ops[k]).op=true:=(by simpa [isW,hg] using hwk);rcases hA k _ hk hg (by simp only [Q3T,Bool.or_eq_true,Bool.and_eq_true];left;right;exact ⟨hwk',(tch0 _).trans ht⟩) with h|h
      ·exact h
      have:=(h.1 _ hg).1;rw [hwk'] at this;cases this
     by_cases hki:k=i
     ·subst hki;rw [hL] at hk3;cases hk3
     cases hwk:isW false ops k with
     | false=>rfl
     | true=>exact absurd ⟨k,by omega,hk2,hk3,hwk⟩ hlate
    rw [e1];exact ⟨up,nw⟩
  have hfr:∀ id,(S i).n≤id→id<(S i).n+e.cnt→ρ id=none:=by
   intro id h1 h2;cases hh:ρ id with
   | none=>rfl
   | some k =>
    have hni:=T.n hin;rw [heff] at hni;rcases hρ id k hh with h3|⟨j,hj,hLj,h3,h4⟩
    ·have:=T.nle (show 0≤i by omega) (by omega);omega
    rcases Nat.lt_trichotomy j i with hji|hji|hji
    ·have:=T.nle (show j+1≤i by omega) (by omega);omega
    ·subst hji;rw [hL] at hLj;cases hLj
    have:=T.nle (show i+1≤j by omega) (by omega);omega
  have hlim:wrM false oi.op=true→∀ id k,ρ id=some k→id<(S i).n:=by
   intro hw id k hk;rcases hρ id k hk with h3|⟨j,hj,hLj,h3,h4⟩
   ·exact qD h3 (T.nle (by omega) (by omega))
   rcases Nat.lt_trichotomy j i with hji|hji|hji
   ·have:=T.nle (show j+1≤i by omega) (by omega);omega
   ·subst hji;rw [hL] at hLj;cases hLj
   have hg:=zA hj;have h5:touch (ops[j]).op=false:=by
    cases h:touch (ops[j]).op with
    | false=>rfl
    | true =>
     have h2:=(hB j _ hji hg hLj).2 (by simp only [Q4O,hw,h,Bool.and_self,Bool.true_or]);have:=(h2 _ hi).1;rw [hw] at this;cases this
   have h6:=(T.step hg).2.2.2 ((tch0 _).trans h5);have:=T.n hj;rw [h6.2.2.2] at this;omega
  have hstep:=hop2.1.step hlim hev W H hop2.2 hfr;refine ⟨hop2.1.tame hlim hev W H hop2.2 hfr,hstep K (fun _ _ _=>True) fun v w' R' o' ρ' hX W' H' h1 h2 hv h3=>?_⟩;have hv':XRel w' R' ρ' v (eff E i).v:=by rw [heff];exact hv
  refine fin v w' R' o' ρ' hX W' ?_ h1 (by rw [heff];exact h2) hv' h3;rw [hhU,heff];cases hw:isW false ops i with
  | true=>exact H'
  | false =>
   have hwf:wrM false oi.op=false:=(by simpa [isW,hi] using hw);have:=hnw hwf;rw [heff] at this;rw [Q10 this.1 this.2] at H';rw [cond_false,Q10 rfl rfl];exact H'
theorem Q8v (T:Tr P false ops S E) (hN:okN N ops=true) {rs:List Nat} (hD:SD ds (S 0)) {J:Nat} (hK:rs ≠ []→Kp rs J ops (S 0) (S ops.size)) (hreg:Q9k ds rs J ops=true) (hback:Q29 ops=true) (hm:P.follows .mixedOrders=true) {id:Nat} {Q:Exit→Act→World→Prop} {a:Act} {w:World} (h:Rel C R N a w (S 0))
  (hQ:∀ R' a' w',RX R R' C.w0.heap.size→Rel C R' N a' w' (S ops.size)→Q .normal a' w'):(Code.region id ops true).wpT P Q a w:=by
 have hS0:∀ t id,t ∉ ds→Pts ((S 0).get t) id→¬ Q3e S ds id:=by
  intro t id hn ht hs;generalize hg:(S 0).get t=v0 at ht;rcases hs with hs|⟨s,hs,hc⟩
  case inr=>cases ht with
   | adr=>exact hD.sep t id _ _ hn hg s hs hc
   | own=>exact hD.sepO t id _ _ hn hg s hs hc
  refine absurd hs (Nat.not_le.2 ?_);obtain ⟨_,_,_,o,ρ,_,_,hx,hρ,_⟩:=h;have:=hx t;rw [hg] at this;cases ht with
  | adr =>
   obtain ⟨b,bsz,cap,hb,_⟩:=this.adr_eq;exact hρ id _ hb
  | own =>
   rcases this.own_eq with ⟨s0,c0,hb,_⟩|⟨b,bsz,cap,cc,x0,hb,_⟩
   ·exact hρ id _ hb
   exact hρ id _ hb
 have mv:∀ i j,((Q4e rs ops i=true∧j≤J)∨(Q3R ds ops=true∧Q4X ds ops i=true))→Mov P ops S E i j:=fun i j hi=>hi.elim (fun h=>mov_kept T (hK (by rintro rfl;rw [kept_nil] at h;cases h.1)) h.2 h.1) fun h=>mov_soft T hD h.1 hS0 h.2;refine Q4w hm fun wr hrl=>?_;have key:∀ (fuel:Nat) (listed:Array Bool) (R':Nat→Prop) (a:Act) (w':World),RX R R' C.w0.heap.size→listed.size=ops.size→left (fun k=>listed.getD k false) ops.size≤fuel →
   (∀ j,listed.getD j false=true→∀ i,((Q3q ops.toList []).getD j 0).testBit i=true→listed.getD i false=true)→Mid false C R' N ops S E wr.drew (fun k=>listed.getD k false) a w'→wpAny P .any ops Q fuel listed a w':=by
  intro fuel
  induction fuel with
  | zero =>
   intro listed R' a w' hX hsz hleft hanc M;have hall:=Q7w _ (show left (fun k=>listed.getD k false) ops.size=0 by omega);refine ⟨?_,hQ _ _ _ hX (Q5D T M hall)⟩;cases hr:Region.ready .any ops listed with
   | nil=>rfl
   | cons x xs =>
    have hx:x∈Region.ready .any ops listed:=(by rw [hr];simp);obtain ⟨hf,o,ho,_⟩:=mem_ready.1 hx;have hxs:=(Array.getElem?_eq_some_iff.1 ho).1;have h1:listed.getD x false=true:=hall x hxs;have:listed.getD x true=listed.getD x false:=(by simp [show x<listed.size by omega]);rw [this,h1] at hf;cases hf
  | succ fuel ih =>
   intro listed R' a w' hX hsz hleft hanc M;refine ⟨fun hr=>?_,fun i hi w₁ hrl1=>?_⟩
   ·
    have hall:∀ k,k<ops.size→listed.getD k false=true:=by
     intro k
     induction k using Nat.strongRecOn with
     | _ k ihk =>
      intro hk;cases hl:listed.getD k false with
      | true=>rfl
      | false =>
       have:k∈Region.ready .any ops listed:=by
        refine mem_ready.2 ⟨?_,ops[k],zA hk,fun e he hb=>?_⟩
        ·have:listed.getD k true=listed.getD k false:=(by simp [show k<listed.size by omega]);rw [this,hl]
        have h1:=hback;unfold Q29 at h1;simp only [List.all_eq_true] at h1;have h2:=h1 (ops[k],k) (List.mk_mem_zipIdx_iff_getElem?.2 (by simp [hk])) e (by simpa using he);rw [hb] at h2;have hlt:e.on<k:=(by simpa using h2);exact ihk e.on hlt (by omega)
       rw [hr] at this;cases this
    exact hQ _ _ _ hX (Q5D T M hall)
   obtain ⟨hf,oi,hoi,hafter⟩:=mem_ready.1 hi;have hin:=(Array.getElem?_eq_some_iff.1 hoi).1;have hLi:listed.getD i false=false:=by
    have:listed.getD i true=listed.getD i false:=(by simp [show i<listed.size by omega]);rw [← this];exact hf
   have hanci:∀ k,((Q3q ops.toList []).getD i 0).testBit k=true→listed.getD k false=true:=by
    intro k hk;obtain ⟨o',ho',e,he,hb,hx⟩:=Q7C ops.toList [] i k (by simp) hk;have hoo:o'=oi:=by
     simp only [List.length_nil,Nat.sub_zero] at ho';rw [Array.getElem?_toList,hoi] at ho';simpa using ho'.symm
    subst hoo;have h1:=hafter e (by simpa using he) hb;rcases hx with hx|⟨_,hx⟩
    ·rw [← hx];exact h1
    exact hanc _ h1 _ hx
   refine mid_stepS T (Q6P hN) hoi hLi (fun k o hk ho hc=>?_) (fun k o hk ho hLk=>?_) (M.rly hrl1) fun R'' a' w'' hX' M'=>?_
   ·rcases Q5F hreg hk ho hoi with h|⟨h1,h2⟩
    ·exact .inl (hanci k h)
    rw [Q91,h1,Bool.false_or] at hc;exact .inr ⟨mv k i (h2 hc),h1⟩
   ·rcases Q5F hreg hk hoi ho with h|⟨h1,h2⟩
    ·have:=hanc k hLk i h;rw [hLi] at this;cases this
    exact ⟨h1,fun hc=>mv i k (h2 hc)⟩
   have hset:∀ k,(listed.setIfInBounds i true).getD k false=upL (fun k=>listed.getD k false) i k:=by
    intro k;simp only [upL]
    by_cases hk:k=i
    ·subst hk;simp [show k<listed.size by omega]
    rw [if_neg hk,getD_set_ne false (Ne.symm hk)]
   refine ih _ R'' a' w'' (hX.trans hX' (qC _)) (by simpa using hsz) ?_ ?_ (M'.congrL fun k=>(hset k).symm)
   ·have h1:=left_up (L:=fun k=>listed.getD k false) hLi ops.size;rw [if_pos hin] at h1;have h2:left (fun k=>(listed.setIfInBounds i true).getD k false) ops.size=left (upL (fun k=>listed.getD k false) i) ops.size:=by
     congr 1;funext k;exact hset k
    omega
   intro j hj k hk;rw [hset] at hj ⊢;simp only [upL] at hj ⊢
   by_cases hki:k=i
   ·rw [if_pos hki]
   rw [if_neg hki]
   by_cases hji:j=i
   ·subst hji;exact hanci k hk
   rw [if_neg hji] at hj;exact hanc j hj k hk
 refine key ops.size _ R a _ .refl (by simp) ?_ ?_ ?_
 ·have:∀ m,left (fun k=>(zE ops.size false).getD k false) m≤m:=by
   intro m
   induction m with
   | zero=>simp [left]
   | succ m ih=>simp only [left];split<;>omega
  exact this _
 ·intro j hj;exfalso
  by_cases hjs:j<ops.size
  ·simp [hjs] at hj
  simp [hjs] at hj
 refine Q5E T (h.rly hrl).drew fun k=>?_
 by_cases hk:k<ops.size
 ·simp [hk]
 simp [hk]
end
end
section
attribute [local simp] Qf QF Qs
def callX (P:Program) [Kd P] (mt:MT) (all:Array Oper) (f:Nat) (az:List AV) (dst:Option Nat) (os:List Oper) (st:St) (K:St→Prop):Prop :=
 Q88 P mt all f az dst os st K∨∃ keep bs res,PurK keep st.hp az bs∧FContract P keep f bs res∧Q2O P mt all os (st.app dst { v:=res }) K
def callB (P:Program) [Kd P] (mt:MT) (all:Array Oper) (f:Nat) (az:List AV) (dst:Option Nat) (os:List Oper) (st:St) (K:St→Prop):Prop :=
 (∃ bs res,PurL st.hp az bs∧Contract P f bs res∧Q2O P mt all os (st.app dst (unk st.n res)) K)∨∃ keep bs res,PurK keep st.hp az bs∧FContract P keep f bs res∧Q2O P mt all os (st.app dst { v:=res }) K
def Q78 (P:Program) [Kd P] (mt:MT) (all:Array Oper) (az:List AV) (dst:Option Nat) (os:List Oper) (st:St) (K:St→Prop):AV→Prop
 | .fn f caps=>callX P mt all f (az++caps) dst os st K
 | .bnd f rs=>callB P mt all f (rs++az) dst os st K
 | _=>False
def callI (P:Program) [Kd P] (mt:MT) (all:Array Oper) (F:Option Nat) (az:List AV) (dst:Option Nat) (os:List Oper) (st:St) (K:St→Prop):Prop:=False
def Q79 (P:Program) [Kd P] (mt:MT) (all:Array Oper) (name:String) (az:List AV) (dst:Option Nat) (os:List Oper) (st:St) (K:St→Prop):AV→Prop
 | .ifc t cs=>callI P mt all (mth P t name) (.agg cs :: az) dst os st K
 | .ifs t sz es=>callI P mt all (mth P t name) (.lst true sz es :: az) dst os st K
 | _=>False
def mkI (t:TypeId):Bool→Bool→AV→Option (Prop × Eff)
 | true,_,.agg cs=>some (True,{ v:=.ifc t cs })
 | _,true,.lst _ sz es=>some (True,{ v:=.ifs t sz es })
 | _,_,_=>none
def asB (t sz:Nat) (es:List (List AV)):Bool→Option (Prop × Eff)
 | true=>some (True,{ v:=.tup [.ifs t sz es,.val (.bool true)] })
 | false=>none
def asA (P:Program) (s:TypeId):Bool→AV→Option (Prop × Eff)
 | true,.ifs t sz es=>asB t sz es (tas P s t)
 | _,_=>none
def inZ (fz:List Nat):Option Nat→Bool
 | some d=>fz.contains d
 | none=>false
def Q9f (P:Program) (et:Option TypeId) (l c:AV) (n:Nat):Option (Prop × Eff) :=
 match et with
 | some e=>Q4V (some (((elm P e).bind (tyi P)).getD ⟨false,1,8,[]⟩)) (tyi P e) l c n
 | none=>none
noncomputable def opX (P:Program) (fz:List Nat) (dst:Option Nat) (op:Op) (ev:Operand→AV) (h:HP) (n:Nat):Option (Prop × Eff) :=
 match op with
 | .box t x=>bif inZ fz dst then boxr (ev x) else boxv (ev x) n
 | .call ⟨.builtin .append,⟨[s,x]⟩,⟨[t,u]⟩⟩=>match elm P t with
  | some e=>if t=u then (bif inZ fz dst then appM (tyi P e) (ev s) (ev x) h n else Q26 (tyi P e) (ev s) (ev x) h n) else none
  | none=>none
 | .call ⟨.builtin .len,⟨[x]⟩,⟨[t]⟩⟩=>bif inZ fz dst then lenm (mty P t) (Q37 h (ev x)) else match elm P t with
  | some _=>lenv (ev x)
  | none=>none
 | .makeSlice t l c=>bif inZ fz dst then Q9f P (elm P t) (ev l) (ev c) n else match elm P t with
  | some e=>Q4U (tyi P e) (ev l) (ev c) n
  | none=>none
 | .makeFunc (.func f) ⟨[]⟩ caps=>some (True,{ v:=.fn f (caps.toList.map ev) })
 | .makeInterface t x=>mkI t (sty P t) (slt P t) (ev x)
 | .typeAssert x _ s ok=>asA P s ok (ev x)
 | .makeFunc (.func f) ⟨r :: rs⟩ ⟨[]⟩=>some (True,{ v:=.bnd f ((r :: rs).map ev) })
 | .convert s d x=>bif inZ fz dst then convS (byS P s d) h (ev x) else Q64 (intk P s) (intk P d) (ev x)
 | .slice t x none (some y) (some z)=>match elm P t with
  | some e=>Q3c (tyi P e) h (ev x) (ev y) (ev z)
  | none=>none
 | .makeMap t none=>makv (mty P t) n
 | .lookup t x k ok=>Q57 (mty P t) (Q37 h (ev x)) (ev k) ok
 | .mapUpdate t x k y=>updv (mty P t) h (ev x) (ev k) (ev y)
 | op=>opF P op ev h n
theorem Q9p {P:Program} [Kd P] {mt:MT} {fz:List Nat} {dst:Option Nat} {op:Op} {ev:Operand→AV} {h:HP} {n:Nat} {c:Prop} {e:Eff} (hx:opX P fz dst op ev h n=some (c,e)) (hc:c):AOp P mt op ev h n e:=by
 unfold opX at hx;split at hx
 ·rename_i t x;cases hz:inZ fz dst with
  | true=>rw [hz] at hx;exact .boxr rfl hx
  | false=>rw [hz] at hx;exact .blt hx hc
 ·rename_i s x t u;split at hx
  ·rename_i e0 hel;split at hx
   ·rename_i htu;subst htu;cases hz:inZ fz dst with
    | true=>rw [hz] at hx;exact .appM rfl hel hx hc
    | false =>
     rw [hz] at hx;refine .blt (c:=c) ?_ hc;simp only [opF,bltF,hel,if_true];exact hx
   cases hx
  cases hx
 ·rename_i x t;cases hz:inZ fz dst with
  | true=>rw [hz] at hx;exact .mapo hx hc
  | false=>rw [hz] at hx;exact .blt hx hc
 ·rename_i t l cc;cases hz:inZ fz dst with
  | true =>
   rw [hz] at hx;simp only [cond_true] at hx;unfold Q9f at hx;split at hx
   ·rename_i et hel;exact .mkz rfl hel hx hc
   cases hx
  | false=>rw [hz] at hx;exact .blt hx hc
 ·simp only [qA,qH] at hx;obtain ⟨_,rfl⟩:=hx;exact .mkf rfl
 ·rename_i t x;unfold mkI at hx;split at hx
  ·rename_i hs hx2;simp only [qA,qH] at hx;obtain ⟨_,rfl⟩:=hx;exact .mki rfl hs hx2
  ·rename_i hs hx2;simp only [qA,qH] at hx;obtain ⟨_,rfl⟩:=hx;exact .mkis rfl hs hx2
  cases hx
 ·rename_i x xt s ok;unfold asA at hx;split at hx
  ·rename_i t sz es hx2;unfold asB at hx;split at hx
   ·rename_i hs;simp only [qA,qH] at hx;obtain ⟨_,rfl⟩:=hx;exact .tas rfl hs hx2
   cases hx
  cases hx
 ·simp only [qA,qH] at hx;obtain ⟨_,rfl⟩:=hx;exact .mkb rfl
 ·rename_i s d x;cases hz:inZ fz dst with
  | true =>
   rw [hz] at hx;obtain ⟨e2,id,ns,h1,h2,h3,rfl⟩:=convS_eq hx hc;exact .cvs rfl h1 h2 h3
  | false=>rw [hz] at hx;exact .blt hx hc
 ·split at hx
  ·rename_i et hel;exact .sl3 rfl hel hx hc
  cases hx
 ·exact .mapo hx hc
 ·exact .mapo hx hc
 ·exact .mapo hx hc
 exact .blt hx hc
def semA (P:Program) [Kd P] (mt:MT) (all:Array Oper) (op:Op) (dst:Option Nat) (os:List Oper) (st:St) (K:St→Prop):Prop :=
 (mt.on && wrM mt op)=true∧∃ e,SemOp P op st.ev st.hp st.n e∧Q2O P mt all os (st.app dst e) K
def stoZ (P:Program) [Kd P] (mt:MT) (all:Array Oper) (op:Op) (t:TypeId) (av xv:AV) (dst:Option Nat) (os:List Oper) (st:St) (K:St→Prop):Prop:=stoA P mt all t av xv dst os st K∨semA P mt all op dst os st K
def Q5b (P:Program) [Kd P] (mt:MT) (fz:List Nat) (all:Array Oper) (os:List Oper) (K R:St→Prop) (dst:Option Nat) (st:St) (op:Op):Prop :=
 match op with
 | .call ⟨.value x,args,_⟩=>Q78 P mt all (args.toList.map st.ev) dst os st K (st.ev x)
 | .call ⟨.invoke x name,args,_⟩=>Q79 P mt all name (args.toList.map st.ev) dst os st K (st.ev x)
 | .store t a x=>Q4I R (stoZ P mt all (.store t a x) t (st.ev a) (st.ev x) dst os st K) dst st (Q2Y (tyi P t) (st.ev a) (st.ev x) st.hp)
 | .call ⟨.builtin .append,args,ts⟩=>Q4I R (semA P mt all (.call ⟨.builtin .append,args,ts⟩) dst os st K) dst st (opX P fz dst (.call ⟨.builtin .append,args,ts⟩) st.ev st.hp st.n)
 | .lookup t x k ok=>Q4I R (semA P mt all (.lookup t x k ok) dst os st K) dst st (Q57 (mty P t) (Q37 st.hp (st.ev x)) (st.ev k) ok)
 | .mapUpdate t x k y=>Q4I R (semA P mt all (.mapUpdate t x k y) dst os st K) dst st (updv (mty P t) st.hp (st.ev x) (st.ev k) (st.ev y))
 | .call ⟨.builtin .clear,args,ts⟩=>semA P mt all (.call ⟨.builtin .clear,args,ts⟩) dst os st K
 | op=>Q68 R dst st (opX P fz dst op st.ev st.hp st.n)
def guardXW (P:Program) [Kd P] (mt:MT) (fz:List Nat) (all:Array Oper) (os:List Oper) (K R:St→Prop) (dst:Option Nat) (st:St) (op:Op) (t:Nat) (want:Bool):AV→Prop
 | .val (.bool b)=>(b=want→Q5b P mt fz all os K R dst (st.put t (.val (.bool want))) op)∧(b = !want→R ((st.put t (.val (.bool !want))).app dst { v:=.tup [] }))
 | .tup []=>R (st.app dst { v:=.tup [] })
 | _=>False
def Q9a (P:Program) [Kd P] (mt:MT) (fz:List Nat) (all:Array Oper) (os:List Oper) (K R:St→Prop) (dst:Option Nat) (st:St) (op:Op) (want:Bool):Option Nat→Prop
 | some t=>guardXW P mt fz all os K R dst st op t want (st.get t)
 | none=>False
def runX (P:Program) [Kd P] (mt:MT) (fz:List Nat) (all:Array Oper):List Oper→St→(St→Prop)→Prop
 | [],st,K=>K st
 | o :: os,st,K=>match o.guard with
  | none=>Q5b P mt fz all os K (fun st'=>runX P mt fz all os st' K) o.dst st o.op
  | some (j,want)=>Q9a P mt fz all os K (fun st'=>runX P mt fz all os st' K) o.dst st o.op want ((all[j]?).bind (·.dst))
theorem goX_one {P:Program} [Kd P] {mt:MT} {fz:List Nat} {all:Array Oper} {o:Oper} {os:List Oper} {st:St} {K R:St→Prop} (hw:Q2K all o st=some true)
  (ih:∀ st',R st'→Q2O P mt all os st' K) (h:Q5b P mt fz all os K R o.dst st o.op):Q2O P mt all (o :: os) st K:=by
 refine .inl ⟨hw,?_⟩;unfold Q5b at h;split at h
 ·rename_i x args ts ho;unfold Q78 at h;split at h
  ·rename_i f caps hx;rcases h with (⟨bs,res,h1,h2,h3⟩|⟨h0,args,ms,res,m,Pt,sets,dels,h1,h2,h3,h4,h5,h6⟩|⟨h0,e,h1,h2⟩)|⟨keep,bs,res,h1,h2,h3⟩
   ·exact ⟨_,.call ho rfl hx h1 h2,h3⟩
   ·exact ⟨_,.mcall (Q5o h0 ho hx) ho rfl hx h1 h2 h3 h4 h5,h6⟩
   ·exact ⟨_,.icall (Q5o h0 ho hx) ho rfl hx h1,h2⟩
   exact ⟨_,.fcall ho rfl hx h1 h2,h3⟩
  ·rename_i f rs hx;rcases h with ⟨bs,res,h1,h2,h3⟩|⟨keep,bs,res,h1,h2,h3⟩
   ·exact ⟨_,.callb ho rfl hx h1 h2,h3⟩
   exact ⟨_,.fcallb ho rfl hx h1 h2,h3⟩
  exact h.elim
 ·rename_i x name args ts ho;unfold Q79 at h;split at h
  ·rename_i t cs hx;exact h.elim
  ·rename_i t sz es hx;exact h.elim
  exact h.elim
 ·rename_i t a x ho;unfold Q4I at h;split at h
  ·rename_i c e he;exact ⟨e,.blt (by rw [ho];exact he) h.1,ih _ h.2⟩
  rcases h with (⟨ty,id,i,k,b,sz,es,ds,dels,h1,h2,h3,h4,h5⟩|⟨ty,id,i,az,bs,sz,es,ds,dels,h1,h2,h3,h3',h4,h5⟩)|⟨h0,e,h1,h2⟩
  ·exact ⟨_,.sto ho h1 h2 h3 h4,h5⟩
  ·exact ⟨_,.stg ho h1 h2 h3 h3' h4,h5⟩
  exact ⟨e,.sem (by rw [ho];exact h0) (by rw [ho];exact h1),h2⟩
 ·rename_i args ts ho;unfold Q4I at h;split at h
  ·rename_i c e he;exact ⟨e,Q9p (fz:=fz) (dst:=o.dst) (by rw [ho];exact he) h.1,ih _ h.2⟩
  obtain ⟨h0,e,h1,h2⟩:=h;exact ⟨e,.sem (by rw [ho];exact h0) (by rw [ho];exact h1),h2⟩
 ·rename_i t x k ok ho;unfold Q4I at h;split at h
  ·rename_i c e he;exact ⟨e,Q9p (fz:=fz) (dst:=o.dst) (by rw [ho];exact he) h.1,ih _ h.2⟩
  obtain ⟨h0,e,h1,h2⟩:=h;exact ⟨e,.sem (by rw [ho];exact h0) (by rw [ho];exact h1),h2⟩
 ·rename_i t x k y ho;unfold Q4I at h;split at h
  ·rename_i c e he;exact ⟨e,Q9p (fz:=fz) (dst:=o.dst) (by rw [ho];exact he) h.1,ih _ h.2⟩
  obtain ⟨h0,e,h1,h2⟩:=h;exact ⟨e,.sem (by rw [ho];exact h0) (by rw [ho];exact h1),h2⟩
 ·rename_i args ts ho;obtain ⟨h0,e,h1,h2⟩:=h;exact ⟨e,.sem (by rw [ho];exact h0) (by rw [ho];exact h1),h2⟩
 unfold Q68 at h;split at h
 ·rename_i c e he;exact ⟨e,Q9p he h.1,ih _ h.2⟩
 exact h.elim
theorem Q34 {P:Program} [Kd P] {mt:MT} {fz:List Nat} {all:Array Oper}:∀ (os:List Oper) (st:St) (K:St→Prop),runX P mt fz all os st K→Q2O P mt all os st K:=by
 intro os
 induction os with
 | nil=>intro st K h;exact h
 | cons o os ih =>
  intro st K h;unfold runX at h;split at h
  ·rename_i hg;exact goX_one (by simp [Q2K,hg]) (fun st'=>ih st' K) h
  rename_i j want hg;unfold Q9a at h;split at h
  ·rename_i t ht;unfold guardXW at h;split at h
   ·rename_i b hb;have hput:∀ b',b=b'→st.put t (.val (.bool b'))=st:=(by rintro _ rfl;exact St.put_get hb (by simp));obtain ⟨h1,h2⟩:=h
    by_cases hbw:b=want
    ·have h1:=h1 hbw;rw [hput _ hbw] at h1;exact goX_one (by simp only [Q2K,hg,ht,hb,hbw,beq_self_eq_true]) (fun st'=>ih st' K) h1
    have hb':b = !want:=(by cases b<;>cases want<;>simp_all);have h2:=h2 hb';rw [hput _ hb'] at h2;refine .inr ⟨?_,ih _ _ h2⟩;have:(b == want)=false:=(by simpa using hbw);simp only [Q2K,hg,ht,hb,this]
   ·rename_i htt;refine .inr ⟨?_,ih _ _ h⟩;simp only [Q2K,hg,ht,htt]
   exact h.elim
  exact h.elim
section
variable {P:Program} [Kd P] {mt:MT} {fz:List Nat} {all:Array Oper} {f:Nat} {az bs:List AV} {res:AV} {dst:Option Nat} {os:List Oper} {st:St} {K:St→Prop}
theorem Q2m (hc:Contract P f bs res) (hp:PurL st.hp az bs) (h:runX P mt fz all os (st.app dst (unk st.n res)) K):callX P mt all f az dst os st K:=.inl (.inl ⟨bs,res,hp,hc,Q34 _ _ _ h⟩)
theorem Q7a (keep:Bool) (hc:FContract P keep f bs res) (hp:PurK keep st.hp az bs) (h:runX P mt fz all os (st.app dst { v:=res }) K):callX P mt all f az dst os st K:=.inr ⟨keep,bs,res,hp,hc,Q34 _ _ _ h⟩
theorem callX_in {e:Eff} (hc:ICon P f az st.hp st.n e) (h:runX P mt fz all os (st.app dst e) K) (hm:mt.may f=true:=by rfl):callX P mt all f az dst os st K:=.inl (.inr (.inr ⟨hm,e,hc,Q34 _ _ _ h⟩))
theorem Qak {op:Op} {t:TypeId} {ty:Tyi} {xv b:AV} {id i k sz:Nat} {es:List (List AV)} {ds:List Nat} (dels:List Nat) (h1:tyi P t=some ty) (h2:ty.sz=1)
  (h3:Sto st.hp st.n id i k xv b sz es ds dels) (h:runX P mt fz all os (st.app dst { v:=.bot,set:=[(id,.row sz (es.set i ((es.getD i []).set k b)))],del:=ds++dels }) K):stoZ P mt all op t (.adr id i k) xv dst os st K :=
 .inl <| .inl ⟨ty,id,i,k,b,sz,es,ds,dels,h1,h2,rfl,h3,Q34 _ _ _ h⟩
theorem PurK.ofL {h:HP} (hp:PurL h az bs):PurK false h az bs:=hp
theorem PurK.ofN {h:HP} (hp:PurL (fun _=>none) az bs):PurK true h az bs:=hp
end
theorem Q1R {P:Program} [Kd P] {F:Fx} {AQ:Exit→St→Prop} {st:St} {id:Nat} {ops:Array Oper} {d:Bool} (fz:List Nat) (hm:P.follows .mixedOrders=true) (hok:(okN F.N ops && (!d || (Q4j false ops && Q29 ops)))=true)
  (h:∀ K:St→Prop,(∀ st',AQ .normal st'→K st')→runX P false fz ops ops.toList st K):Wp P F (.region id ops d) AQ st :=
 Q4t hm hok fun K hK=>Q34 _ _ _ (h K hK)
theorem w_runXM {P:Program} [Kd P] {F:Fx} {AQ:Exit→St→Prop} {st:St} {id:Nat} {ops:Array Oper} {d:Bool} (fz:List Nat) (hm:P.follows .mixedOrders=true) (hok:(okN F.N ops && (!d || (Q4j true ops && Q29 ops)))=true)
  (h:∀ K:St→Prop,(∀ st',AQ .normal st'→K st')→runX P true fz ops ops.toList st K):Wp P F (.region id ops d) AQ st :=
 Q4t hm hok fun K hK=>Q34 _ _ _ (h K hK)
theorem w_runXR {P:Program} [Kd P] {F:Fx} {AQ:Exit→St→Prop} {st:St} {id:Nat} {ops:Array Oper} {d:Bool} (lk:Bool) (fz ro:List Nat) (hm:P.follows .mixedOrders=true) (hok:(okN F.N ops && (!d || (Q4j ⟨true,ro,lk,[]⟩ ops && Q29 ops)))=true)
  (h:∀ K:St→Prop,(∀ st',AQ .normal st'→K st')→runX P ⟨true,ro,lk,[]⟩ fz ops ops.toList st K):Wp P F (.region id ops d) AQ st :=
 Q4t hm hok fun K hK=>Q34 _ _ _ (h K hK)
theorem w_runXD {P:Program} [Kd P] {F:Fx} {AQ:Exit→St→Prop} {st:St} {id:Nat} {ops:Array Oper} (fz ds:List Nat) (hm:P.follows .mixedOrders=true) (hok:(okN F.N ops && (Q9k ds [] 0 ops && Q29 ops))=true)
  (hd:sdB ds st=true) (h:∀ K:St→Prop,(∀ st',AQ .normal st'→K st')→runX P false fz ops ops.toList st K):Wp P F (.region id ops true) AQ st:=by
 intro a w hr;obtain ⟨R',hX,hr⟩:=hr;obtain ⟨S,E,h0,hend,htr⟩:=Q5v ops _ _ _ (Q34 _ _ _ (h (AQ .normal) fun _ h=>h));subst h0;have T:Tr P false ops S E:=⟨hr.ok,(fun _ _ t ht=>by cases ht),fun k o ho=>htr k o (by simpa using ho)⟩;simp only [Bool.and_eq_true] at hok;have hend':AQ .normal (S ops.size):=by simpa using hend
 exact Q8v (ds:=ds) (rs:=[]) (J:=0) T hok.1 (sd_ok hd) (fun h=>absurd rfl h) hok.2.1 hok.2.2 hm hr fun R'' a' w' hX' h'=>⟨_,⟨R'',hX.trans hX' (qC _),h'⟩,hend'⟩
def rE (P:Program) [Kd P] (mt:MT) (fz:List Nat) (all:Array Oper) (os:List Oper) (dst:Option Nat) (st:St) (K:St→Prop) (x:Option (Prop × Eff)):Prop:=Q68 (fun st'=>runX P mt fz all os st' K) dst st x
def rS (P:Program) [Kd P] (mt:MT) (fz:List Nat) (all:Array Oper) (os:List Oper) (dst:Option Nat) (st:St) (K:St→Prop) (op:Op) (t:TypeId) (av xv:AV) (x:Option (Prop × Eff)):Prop:=Q4I (fun st'=>runX P mt fz all os st' K) (stoZ P mt all op t av xv dst os st K) dst st x
def rL (P:Program) [Kd P] (mt:MT) (fz:List Nat) (all:Array Oper) (os:List Oper) (dst:Option Nat) (st:St) (K:St→Prop) (op:Op) (x:Option (Prop × Eff)):Prop:=Q4I (fun st'=>runX P mt fz all os st' K) (semA P mt all op dst os st K) dst st x
def rO (P:Program) [Kd P] (mt:MT) (fz:List Nat) (all:Array Oper) (os:List Oper) (dst:Option Nat) (st:St) (K:St→Prop) (op:Op):Prop:=Q5b P mt fz all os K (fun st'=>runX P mt fz all os st' K) dst st op
section
variable {P:Program} [Kd P] {mt:MT} {fz:List Nat} {all:Array Oper} {os:List Oper} {dst:Option Nat} {st:St} {K:St→Prop} {op:Op} {ty:TypeId} {pos:String} {af:Array Edge}
@[simp] theorem rE_some {c:Prop} {e:Eff}:rE P mt fz all os dst st K (some (c,e))=(c∧runX P mt fz all os (st.app dst e) K):=rfl
@[simp] theorem callIX_ifc {name:String} {t:Nat} {cs az:List AV}:Q79 P mt all name az dst os st K (.ifc t cs)=callI P mt all (mth P t name) (.agg cs :: az) dst os st K:=rfl
@[simp] theorem callIX_ifs {name:String} {t sz:Nat} {es:List (List AV)} {az:List AV}:Q79 P mt all name az dst os st K (.ifs t sz es)=callI P mt all (mth P t name) (.lst true sz es :: az) dst os st K:=rfl
@[simp] theorem mkI_agg {t:TypeId} {b:Bool} {cs:List AV}:mkI t true b (.agg cs)=some (True,{ v:=.ifc t cs }):=rfl
@[simp] theorem asA_ifs {s t sz:Nat} {es:List (List AV)}:asA P s true (.ifs t sz es)=asB t sz es (tas P s t):=rfl
@[simp] theorem asB_true {t sz:Nat} {es:List (List AV)}:asB t sz es true=some (True,{ v:=.tup [.ifs t sz es,.val (.bool true)] }):=rfl
@[simp] theorem callEX_bnd {f:Nat} {rs az:List AV}:Q78 P mt all az dst os st K (.bnd f rs)=callB P mt all f (rs++az) dst os st K:=rfl
@[simp] theorem callEX_fn {f:Nat} {caps az:List AV}:Q78 P mt all az dst os st K (.fn f caps)=callX P mt all f (az++caps) dst os st K:=rfl
@[simp] theorem rO_call {x:Operand} {args:Array Operand} {ts:Array TypeId}:rO P mt fz all os dst st K (.call ⟨.value x,args,ts⟩)=Q78 P mt all (args.toList.map st.ev) dst os st K (st.ev x):=rfl
@[simp] theorem rO_move {x}:rO P mt fz all os dst st K (.move x)=runX P mt fz all os (st.app dst { v:=st.ev x }) K:=by simp [rO,Q5b,Q68,opX,opF]
@[simp] theorem rO_assign {x}:rO P mt fz all os dst st K (.assign x)=runX P mt fz all os (st.app dst { v:=st.ev x }) K:=by simp [rO,Q5b,Q68,opX,opF]
@[simp] theorem rO_pick {c a b}:rO P mt fz all os dst st K (.pick c a b)=rE P mt fz all os dst st K (pick (st.ev c) (st.ev a) (st.ev b)):=rfl
@[simp] theorem rO_alloc {e}:rO P mt fz all os dst st K (.alloc e)=rE P mt fz all os dst st K (Vc.alloc (tyi P e) st.n):=rfl
@[simp] theorem rO_box {t x}:rO P mt fz all os dst st K (.box t x)=rE P mt fz all os dst st K (bif inZ fz dst then boxr (st.ev x) else boxv (st.ev x) st.n):=rfl
@[simp] theorem rO_build {t parts}:rO P mt fz all os dst st K (.build t parts)=rE P mt fz all os dst st K (build (tyi P t) (Q4W P t) (parts.toList.map fun p=>(p.1,st.ev p.2))):=rfl
@[simp] theorem rO_buildSlice {t len parts}:rO P mt fz all os dst st K (.buildSlice t len parts)=rE P mt fz all os dst st K (elmE (fun e=>buildSlice (tyi P e) len (parts.toList.map fun p=>(p.1,st.ev p.2)) st.n) (elm P t)):=by
 simp only [rO,rE,Q5b,opX,opF];cases elm P t<;>rfl
@[simp] theorem rO_load {t a}:rO P mt fz all os dst st K (.load t a)=rE P mt fz all os dst st K (Q3h (tyi P t) (st.ev a) st.hp st.n):=rfl
@[simp] theorem rO_store {t a x}:rO P mt fz all os dst st K (.store t a x)=rS P mt fz all os dst st K (.store t a x) t (st.ev a) (st.ev x) (Q2Y (tyi P t) (st.ev a) (st.ev x) st.hp):=rfl
@[simp] theorem rS_some {op:Op} {t:TypeId} {av xv:AV} {c:Prop} {e:Eff}:rS P mt fz all os dst st K op t av xv (some (c,e))=(c∧runX P mt fz all os (st.app dst e) K):=rfl
@[simp] theorem rS_none {op:Op} {t:TypeId} {av xv:AV}:rS P mt fz all os dst st K op t av xv none=stoZ P mt all op t av xv dst os st K:=rfl
@[simp] theorem rO_nilCheck {x}:rO P mt fz all os dst st K (.nilCheck x)=rE P mt fz all os dst st K (nilCheck (st.ev x)):=rfl
@[simp] theorem rO_binOp {o xt x y yt}:rO P mt fz all os dst st K (.binOp o xt x y yt)=rE P mt fz all os dst st K (Q47 (eqT P xt) o (st.ev x) (st.ev y)):=rfl
@[simp] theorem rO_unOp {o t x}:rO P mt fz all os dst st K (.unOp o t x)=rE P mt fz all os dst st K (unop o (st.ev x)):=rfl
@[simp] theorem rO_convert {s d x}:rO P mt fz all os dst st K (.convert s d x)=rE P mt fz all os dst st K (bif inZ fz dst then convS (byS P s d) st.hp (st.ev x) else Q64 (intk P s) (intk P d) (st.ev x)):=rfl
@[simp] theorem rO_makeSlice {t l c}:rO P mt fz all os dst st K (.makeSlice t l c)=rE P mt fz all os dst st K (bif inZ fz dst then Q9f P (elm P t) (st.ev l) (st.ev c) st.n else elmE (fun e=>Q4U (tyi P e) (st.ev l) (st.ev c) st.n) (elm P t)):=by
 simp only [rO,rE,Q5b,opX,opF];cases elm P t<;>rfl
@[simp] theorem makeSX_some {e:TypeId} {l c:AV} {n:Nat}:Q9f P (some e) l c n=Q4V (some (((elm P e).bind (tyi P)).getD ⟨false,1,8,[]⟩)) (tyi P e) l c n:=rfl
attribute [simp] Q4V zc
@[simp] theorem rO_fieldAddr {t x k}:rO P mt fz all os dst st K (.fieldAddr t x k)=rE P mt fz all os dst st K (fieldAddr (fld P t k) (st.ev x)):=rfl
@[simp] theorem rO_field {t x k}:rO P mt fz all os dst st K (.field t x k)=rE P mt fz all os dst st K (Q5u (fld P t k) (st.ev x)):=rfl
@[simp] theorem rO_indexAddr {t x i}:rO P mt fz all os dst st K (.indexAddr t x i)=rE P mt fz all os dst st K (elmE (fun e=>Q1K (tyi P e) (st.ev x) (st.ev i) st.hp) (elm P t)):=by
 simp only [rO,rE,Q5b,opX,opF];cases elm P t<;>rfl
@[simp] theorem rO_extract {x k}:rO P mt fz all os dst st K (.extract x k)=rE P mt fz all os dst st K (Q33 (st.ev x) k):=rfl
@[simp] theorem rO_len {x t}:rO P mt fz all os dst st K (.call ⟨.builtin .len,#[x],#[t]⟩)=rE P mt fz all os dst st K (bif inZ fz dst then lenm (mty P t) (Q37 st.hp (st.ev x)) else elmE (fun _=>lenv (st.ev x)) (elm P t)):=by
 simp only [rO,rE,Q5b,opX];cases inZ fz dst<;>cases elm P t<;>rfl
@[simp] theorem rO_append {x y t u}:rO P mt fz all os dst st K (.call ⟨.builtin .append,#[x,y],#[t,u]⟩)=rL P mt fz all os dst st K (.call ⟨.builtin .append,#[x,y],#[t,u]⟩) (elmE (fun e=>if t=u then (bif inZ fz dst then appM (tyi P e) (st.ev x) (st.ev y) st.hp st.n else Q26 (tyi P e) (st.ev x) (st.ev y) st.hp st.n) else none) (elm P t)):=by
 simp only [rO,rL,Q5b,opX];cases elm P t<;>rfl
@[simp] theorem rO_min {xs ts}:rO P mt fz all os dst st K (.call ⟨.builtin .min,xs,ts⟩)=rE P mt fz all os dst st K (Q3M (fun a b=>if b<a then b else a) (xs.toList.map st.ev)):=rfl
@[simp] theorem rO_max {xs ts}:rO P mt fz all os dst st K (.call ⟨.builtin .max,xs,ts⟩)=rE P mt fz all os dst st K (Q3M (fun a b=>if b > a then b else a) (xs.toList.map st.ev)):=rfl
@[simp] theorem QaE {t x}:rO P mt fz all os dst st K (.makeInterface t x)=rE P mt fz all os dst st K (mkI t (sty P t) (slt P t) (st.ev x)):=rfl
@[simp] theorem rO_typeAssert {x xt s ok}:rO P mt fz all os dst st K (.typeAssert x xt s ok)=rE P mt fz all os dst st K (asA P s ok (st.ev x)):=rfl
@[simp] theorem rO_invoke {x:Operand} {name:String} {args:Array Operand} {ts:Array TypeId}:rO P mt fz all os dst st K (.call ⟨.invoke x name,args,ts⟩)=Q79 P mt all name (args.toList.map st.ev) dst os st K (st.ev x):=rfl
@[simp] theorem rO_makeFuncB {f r}:rO P mt fz all os dst st K (.makeFunc (.func f) #[r] #[])=rE P mt fz all os dst st K (some (True,{ v:=.bnd f [st.ev r] })):=rfl
@[simp] theorem rO_makeFunc {f caps}:rO P mt fz all os dst st K (.makeFunc (.func f) #[] caps)=rE P mt fz all os dst st K (some (True,{ v:=.fn f (caps.toList.map st.ev) })):=rfl
@[simp] theorem rO_makeMap {t}:rO P mt fz all os dst st K (.makeMap t none)=rE P mt fz all os dst st K (makv (mty P t) st.n):=rfl
@[simp] theorem rL_some {op:Op} {c:Prop} {e:Eff}:rL P mt fz all os dst st K op (some (c,e))=(c∧runX P mt fz all os (st.app dst e) K):=rfl
@[simp] theorem rL_none {op:Op}:rL P mt fz all os dst st K op none=semA P mt all op dst os st K:=rfl
theorem Qa5 {op:Op} {e:Eff} (hs:SemOp P op st.ev st.hp st.n e) (h:runX P mt fz all os (st.app dst e) K) (hm:(mt.on && wrM mt op)=true:=by rfl):semA P mt all op dst os st K:=⟨hm,e,hs,Q34 _ _ _ h⟩
@[simp] theorem rO_clear {args:Array Operand} {ts:Array TypeId}:rO P mt fz all os dst st K (.call ⟨.builtin .clear,args,ts⟩)=semA P mt all (.call ⟨.builtin .clear,args,ts⟩) dst os st K:=rfl
@[simp] theorem MK.plain_ext {x:XP}:(MK.ext x).plain=false:=rfl
@[simp] theorem rO_lookup {t x k ok}:rO P mt fz all os dst st K (.lookup t x k ok)=rL P mt fz all os dst st K (.lookup t x k ok) (Q57 (mty P t) (Q37 st.hp (st.ev x)) (st.ev k) ok):=rfl
@[simp] theorem rO_mapUpdate {t x k y}:rO P mt fz all os dst st K (.mapUpdate t x k y)=rL P mt fz all os dst st K (.mapUpdate t x k y) (updv (mty P t) st.hp (st.ev x) (st.ev k) (st.ev y)):=rfl
@[simp] theorem runX_nil:runX P mt fz all [] st K=K st:=rfl
@[simp] theorem runX_go:runX P mt fz all (⟨dst,op,ty,pos,af,none⟩ :: os) st K=rO P mt fz all os dst st K op:=rfl
end
section
variable {h:HP} {n:Nat} {sz off m id:Nat} {es:List (List AV)} {kd:MK} {me:List (Value × Value)} {z:Value} {t:Tyi}
def srcME (sz off m:Nat):Option Ent→Option (Prop × List (List AV))
 | some (.mix sz' es)=>if sz'=sz then some (off+m≤es.length,(es.drop off).take m) else none
 | _=>none
def baseME (sz id m:Nat):Option Ent→Option (Prop × List (List AV) × List Nat)
 | some (.mix sz' es)=>if sz'=sz then some (m=es.length,es,[id]) else none
 | _=>none
def mcontE:Option Ent→Option (MK × List (Value × Value))
 | some (.mapE kd es)=>if kd.plain=true then some (kd,es) else none
 | _=>none
noncomputable def updE (kd:MK) (id:Nat) (kv v:Value):Option Ent→Option (Prop × Eff)
 | some (.mapE kd' es)=>if kd'=kd∧kd.is kv=true then some (es.length<1099511627776,{ v:=.bot,set:=[(id,.mapE kd (mset kv v es))] }) else none
 | _=>none
theorem srcM_nil:srcM h sz (.val (.slice none 0 0))=some (True,[]):=rfl
theorem srcM_lst {u:Bool} {sz':Nat}:srcM h sz (.lst u sz' es)=if sz'=sz then some (True,es) else none:=rfl
theorem srcM_E:srcM h sz (.own id off m)=srcME sz off m (h id):=rfl
@[simp] theorem srcME_mix {sz':Nat}:srcME sz off m (some (.mix sz' es))=if sz'=sz then some (off+m≤es.length,(es.drop off).take m) else none:=rfl
theorem baseM_nil:Q63 h sz (.val (.slice none 0 0))=some (True,[],[]):=rfl
theorem baseM_E:Q63 h sz (.own id 0 m)=baseME sz id m (h id):=rfl
@[simp] theorem baseME_mix {sz':Nat}:baseME sz id m (some (.mix sz' es))=if sz'=sz then some (m=es.length,es,[id]) else none:=rfl
def appME (t:Tyi) (n:Nat):Option (Prop × List (List AV) × List Nat)→Option (Prop × List (List AV))→Option (Prop × Eff)
 | some (c1,es,i),some (c2,news)=>some ((0<news.length∨i ≠ [])∧n ∉ i∧c1∧c2∧(es.length+news.length) * t.bytes≤140737488355328∧es.length+news.length≤140737488355328∧0<t.sz,
    { v:=.own n 0 (es.length+news.length),del:=i,new:=[(n,.mix t.sz (es++news))],cnt:=1 })
 | _,_=>none
theorem appM_E {s x:AV}:appM (some t) s x h n=appME t n (Q63 h t.sz s) (srcM h t.sz x):=by
 simp only [appM,appME];cases Q63 h t.sz s with
 | none=>rfl
 | some p=>cases srcM h t.sz x<;>rfl
@[simp] theorem appME_some {c1 c2:Prop} {i:List Nat} {news:List (List AV)}:appME t n (some (c1,es,i)) (some (c2,news))=some ((0<news.length∨i ≠ [])∧n ∉ i∧c1∧c2∧(es.length+news.length) * t.bytes≤140737488355328∧es.length+news.length≤140737488355328∧0<t.sz,
    { v:=.own n 0 (es.length+news.length),del:=i,new:=[(n,.mix t.sz (es++news))],cnt:=1 }):=rfl
theorem mcont_mp:Q37 h (.mp id)=mcontE (h id):=rfl
theorem Q9Y:Q37 h (.cmap kd me)=some (kd,me):=rfl
@[simp] theorem mcontE_map:mcontE (some (.mapE kd me))=if kd.plain=true then some (kd,me) else none:=rfl
theorem Q9V {kd':MK} {kv:Value} {ok:Bool}:Q57 (some (kd,z)) (some (kd',me)) (.val kv) ok=if kd'=kd∧kd.is kv=true then
   some (True,{ v:=bif ok then .tup [.val ((Q1r kv me).getD z),.val (.bool (Q1r kv me).isSome)] else .val ((Q1r kv me).getD z) }) else none:=rfl
theorem lookv_agg {kd':MK} {az:List AV} {ok:Bool}:Q57 (some (kd,z)) (some (kd',me)) (.agg az) ok=(Q2 az).elim none fun l=>if kd'=kd∧kd.is (.agg (l.map (Value.int .i64)).toArray)=true then
   some (True,{ v:=bif ok then .tup [.val ((Q1r (.agg (l.map (Value.int .i64)).toArray) me).getD z),.val (.bool (Q1r (.agg (l.map (Value.int .i64)).toArray) me).isSome)] else .val ((Q1r (.agg (l.map (Value.int .i64)).toArray) me).getD z) }) else none:=by
 simp only [Q57,keyV];cases Q2 az<;>rfl
theorem updv_agg {az:List AV} {v:Value}:updv (some (kd,z)) h (.mp id) (.agg az) (.val v)=(Q2 az).elim none fun l=>updE kd id (.agg (l.map (Value.int .i64)).toArray) v (h id):=by
 simp only [updv,keyV];cases Q2 az<;>rfl
theorem updv_mp {kv v:Value}:updv (some (kd,z)) h (.mp id) (.val kv) (.val v)=updE kd id kv v (h id):=rfl
@[simp] theorem updE_map {kd':MK} {kv v:Value}:updE kd id kv v (some (.mapE kd' me))=if kd'=kd∧kd.is kv=true then some (me.length<1099511627776,{ v:=.bot,set:=[(id,.mapE kd (mset kv v me))] }) else none:=rfl
theorem makv_some:makv (some (kd,z)) n=some (True,{ v:=.mp n,new:=[(n,.mapE kd [])],cnt:=1 }):=rfl
theorem lenm_some {p:MK × Value} {kd':MK}:lenm (some p) (some (kd',me))=some (True,{ v:=.val (.int .i64 me.length) }):=rfl
end
theorem boxr_if {x:AV}:boxr x=if x.cells.all AV.ro && x.shr then some (True,{ v:=.rptr x.cells }) else none:=rfl
attribute [simp] srcM_nil srcM_lst srcM_E baseM_nil baseM_E appM_E mcont_mp Q9Y Q9V updv_mp lookv_agg updv_agg makv_some lenm_some boxr_if inZ AV.ro AV.shr MK.is
attribute [simp] rl
def Em {α β:Type} (ek:α→Value) (ev:β→Value) (xs:List (α × β)):List (Value × Value):=xs.map fun p=>(ek p.1,ev p.2)
def Q2z {α β:Type} [DecidableEq α] (k:α):List (α × β)→Option β
 | []=>none
 | (a,v) :: r=>if a=k then some v else Q2z k r
def tset {α β:Type} [DecidableEq α] (k:α) (v:β):List (α × β)→List (α × β)
 | []=>[(k,v)]
 | (a,x) :: r=>if a=k then (a,v) :: r else (a,x) :: tset k v r
theorem Q9h {α β:Type} [DecidableEq α] {ek:α→Value} {ev:β→Value} (hi:∀ a b,ek a=ek b→a=b) (k:α):∀ xs:List (α × β),Q1r (ek k) (Em ek ev xs)=(Q2z k xs).map ev:=by
 intro xs
 induction xs with
 | nil=>rfl
 | cons p r ih =>
  obtain ⟨a,v⟩:=p;simp only [Em,qN,Q1r,Q2z]
  by_cases h:a=k
  ·subst h;simp
  rw [if_neg (fun h'=>h (hi _ _ h')),if_neg h];exact ih
theorem mset_Em {α β:Type} [DecidableEq α] {ek:α→Value} {ev:β→Value} (hi:∀ a b,ek a=ek b→a=b) (k:α) (v:β):∀ xs:List (α × β),mset (ek k) (ev v) (Em ek ev xs)=Em ek ev (tset k v xs):=by
 intro xs
 induction xs with
 | nil=>rfl
 | cons p r ih =>
  obtain ⟨a,x⟩:=p;simp only [Em,qN,mset,tset]
  by_cases h:a=k
  ·subst h;simp
  rw [if_neg (fun h'=>h (hi _ _ h')),if_neg h];simp only [qN];have:mset (ek k) (ev v) (r.map fun p=>(ek p.1,ev p.2))=(tset k v r).map fun p=>(ek p.1,ev p.2):=ih;rw [this]
def vI (x:Int):Value:=.int .i64 x
def vS (x:ByteArray):Value:=.string x
def Msi (xs:List (ByteArray × Int)):List (Value × Value):=Em vS vI xs
theorem vS_inj (a b:ByteArray) (h:vS a=vS b):a=b:=by cases h;rfl
@[simp] theorem Msi_nil:Msi []=[]:=rfl
@[simp] theorem Msi_length (xs:List (ByteArray × Int)):(Msi xs).length=xs.length:=by simp [Msi,Em]
@[simp] theorem find_Msi (k:ByteArray) (xs:List (ByteArray × Int)):(Q1r (.string k) (Msi xs)).getD (.int .i64 0) = .int .i64 ((Q2z k xs).getD 0):=by
 have:=Q9h (ev:=vI) vS_inj k xs;show ((Q1r (vS k) (Em vS vI xs)).getD (vI 0))=_;rw [this];cases Q2z k xs<;>rfl
@[simp] theorem some_Msi (k:ByteArray) (xs:List (ByteArray × Int)):(Q1r (.string k) (Msi xs)).isSome=(Q2z k xs).isSome:=by
 have:=Q9h (ev:=vI) vS_inj k xs;show (Q1r (vS k) (Em vS vI xs)).isSome=_;rw [this];cases Q2z k xs<;>rfl
@[simp] theorem set_Msi (k:ByteArray) (v:Int) (xs:List (ByteArray × Int)):mset (.string k) (.int .i64 v) (Msi xs)=Msi (tset k v xs):=mset_Em (ev:=vI) vS_inj k v xs
@[simp] theorem set_Msi0 (k:ByteArray) (v:Int):mset (.string k) (.int .i64 v) []=Msi [(k,v)]:=rfl
structure RetF (keep:Bool) (ts:List Nat) (st:St) (rs:List AV):Prop where
 len:rs.length=ts.length
 pur:∀ k,k<ts.length→PurTo st.hp (st.get (ts.getD k 0)) (rs.getD k .bot)
 own:keep=false→∀ k,k<ts.length→(match st.get (ts.getD k 0) with|.val _=>True|.mp _=>True|_=>False)
def retFQ (keep:Bool) (ts:List Nat) (rs:List AV):Exit→St→Prop
 | .normal,st=>RetF keep ts st rs
 | .ret,st=>RetF keep ts st rs
 | _,_=>False
theorem Q3k {P:Program} [Kd P] (keep:Bool) {f:Nat} {fn:Func} {c:Code} {args:List AV} {ts:List Nat} {rs:List AV} {res:AV} (hf:P.funcs[f]? = some fn) (hb:fn.body=some c) (hrt:resT fn.results=some ts) (hrs:res=Q1Q rs)
  (hname : (fn.name == "runtime.NumGoroutine") = false) (hN : args.length ≤ fn.ntmps) (h : ∀ F : Fx, F.N = fn.ntmps → F.pins = 0 → Wp P F c (retFQ keep ts rs) ⟨Q3H 0 args, [], 0⟩) : FContract P keep f args res := by
 subst hrs;refine ⟨⟨fn,hf,hname,by rw [hb];rfl⟩,fun w R vals hR hsz hx=>?_⟩;refine Q2n hf hb ?_
 let C:Ctx:=⟨w,fun _=>False,fun _=>none,0⟩
 have hrel:Rel C R fn.ntmps { tmps:=vals++zE (fn.ntmps - vals.size) undef,defers:=[] } w ⟨Q3H 0 args,[],0⟩:=by
  refine ⟨by simp;omega,rfl,(fun id x h=>by cases h),fun _=>none,noρ,⟨fun b hb=>⟨hR b hb,rfl⟩,(fun b L hb=>by cases hb),rfl,⟨rfl,qC _⟩,rfl,qC _,fun b _ _=>rfl⟩,⟨(fun id sz es bk _ hb=>by cases hb),(fun id sz es bk _ hb=>by cases hb),(fun id c i k sz bk _ hb=>by cases hb),(fun id kd es bk _ hb=>by cases hb)⟩,fun t=>?_,(fun id k hk=>by cases hk),(fun id hid=>by cases hid),qC _⟩;simp only [St.get,Q2R]
  by_cases ht:t<args.length
  ·rw [if_pos (by omega)];simp only [Nat.sub_zero,qB];have:=hx t ht;have h2:(vals++zE (fn.ntmps - vals.size) undef).getD t undef=vals.getD t undef:=by
    simp [qY,show t<vals.size by omega]
   rw [h2];exact this
  rw [if_neg (by omega)];exact .bot
 refine Q4v (fun e a w' hq=>?_) (h ⟨C,R,fn.ntmps,0,rfl⟩ rfl rfl _ w (.of hrel));obtain ⟨st,⟨R',hX,hr⟩,hq⟩:=hq;have fin:RetF keep ts st rs→a.defers=[]∧∃ v,(results fn a.tmps).run P w' = .ok v w'∧∃ v' R1,Ending.returned v = .returned v'∧Blw w.heap.size w w'∧(∀ b,R1 b→b<w'.heap.size∧((keep=true∧R b)∨w.heap.size≤b))∧XRel w' R1 noρ v' (Q1Q rs):=by
  intro hA;obtain ⟨_,hdef,_,o,ρ,W,H,hxx,_⟩:=hr
  let R1:Nat→Prop:=if keep then RAll ⟨R',o,ρ⟩ else fun b=>∃ L,o b=some L
  have hown:∀ b L,o b=some L→b<w'.heap.size∧w.heap.size≤b:=fun b L hb=>by
   obtain ⟨q1,q2⟩:=W.o b L hb;exact ⟨q1,q2.resolve_right id⟩
  have hR1:∀ b,R1 b→b<w'.heap.size∧((keep=true∧R b)∨w.heap.size≤b):=fun b hb=>by
   cases keep with
   | true =>
    rcases (show RAll ⟨R',o,ρ⟩ b from hb) with hb|⟨L,hb⟩
    ·exact ⟨(W.R b hb).1,(hX.2 b hb).imp (fun h=>⟨rfl,h⟩) id⟩
    exact ⟨(hown b L hb).1,.inr (hown b L hb).2⟩
   | false =>
    obtain ⟨L,hb⟩:=hb;exact ⟨(hown b L hb).1,.inr (hown b L hb).2⟩
  have hcell:∀ k,k<ts.length→XRel w' R1 noρ (a.tmps.getD (ts.getD k 0) undef) (rs.getD k .bot):=by
   intro k hk;have h1:=hA.pur k hk;have h2:=hxx (ts.getD k 0);cases hkp:keep with
   | true=>subst hkp;exact (Q5J H h1 h2).1
   | false =>
    subst hkp;have h3:=hA.own rfl k hk;generalize st.get (ts.getD k 0)=av at h1 h2 h3;generalize rs.getD k .bot=rv at h1 ⊢;generalize a.tmps.getD (ts.getD k 0) undef=vv at h2 ⊢;cases av with
    | val v =>
     cases h1 with
     | val=>obtain ⟨rfl,hs⟩:=h2.val_eq;exact .r (.val hs)
     | nil=>obtain ⟨rfl,hs⟩:=h2.val_eq;exact .r (.nil (by decide))
    | mp id =>
     cases h1 with
     | mp he hk =>
      obtain ⟨b,rfl,hb⟩:=h2.mp_eq;obtain ⟨b',q1,q2,q3,q4⟩:=(H.map _ _ _ _ he hb).plain hk;simp only [Bk.mk.injEq,qA,and_true] at q1;subst q1;exact .r (.cmap ⟨_,q2⟩ q3 q4)
    | _=>exact h3.elim
  refine ⟨hdef,_,Q3Z hrt _,_,R1,rfl,⟨W.os,W.tape,W.output,W.size,fun b hb=>W.keep b hb id⟩,hR1,?_⟩;have hl:=hA.len
  match ts,rs,hl,hcell with
  | [],[],_,_=>exact .tup rfl fun k hk=>by simp at hk
  | [t],[r],_,hcell=>exact hcell 0 (by simp)
  | t :: u :: ts,r :: s :: rs,hl,hcell =>
   simp only [qN,Q2y,Q1Q];refine .tup (by simp at hl;simp;omega) fun k hk=>?_;have hk':k<(t :: u :: ts).length:=(by simp at hl hk;simp;omega);have:=hcell k hk';have h1:((a.tmps.getD t undef :: a.tmps.getD u undef :: ts.map fun t=>a.tmps.getD t undef).toArray).getD k undef=a.tmps.getD ((t :: u :: ts).getD k 0) undef:=by
    have e1:(a.tmps.getD t undef :: a.tmps.getD u undef :: ts.map fun t=>a.tmps.getD t undef)=(t :: u :: ts).map fun t=>a.tmps.getD t undef:=rfl;rw [e1];have hk2:k<(List.map (fun t=>a.tmps.getD t undef) (t :: u :: ts)).toArray.size:=(by simpa using hk');rw [Array.getD_eq_getD_getElem?,zA hk2,qB];simp only [List.getElem_toArray,List.getElem_map];rw [qG,qI hk',qB]
   rw [h1];exact this
 cases e with
 | normal=>exact fin hq
 | ret=>exact fin hq
 | _=>exact hq.elim
theorem RetF.nil {keep:Bool} {st:St}:RetF keep [] st []:=⟨rfl,fun k hk=>by simp at hk,fun _ k hk=>by simp at hk⟩
theorem RetF.cons {keep:Bool} {t:Nat} {ts:List Nat} {st:St} {r:AV} {rs:List AV} (hp:PurTo st.hp (st.get t) r) (ho:keep=false→(match st.get t with|.val _=>True|.mp _=>True|_=>False)) (h:RetF keep ts st rs):RetF keep (t :: ts) st (r :: rs):=by
 refine ⟨by simp [h.len],fun k hk=>?_,fun hkp k hk=>?_⟩
 ·cases k with
  | zero=>exact hp
  | succ k=>simpa using h.pur k (by simpa using hk)
 cases k with
 | zero=>exact ho hkp
 | succ k=>simpa using h.own hkp k (by simpa using hk)
end
section
attribute [local simp] Qf QF Qs
structure IRetG (P:Program) (rvs:List ResultVar) (H:List (Nat × Ent)) (n:Nat) (e:Eff) (st:St):Prop where
 res:∃ az,RGet P st rvs az∧Q1Q az=e.v
 n:st.n=n+e.cnt
 h:st.h=Q4Z e.set (Q4c e.del H)++e.new
theorem fineI {e:Eff} {n:Nat} (h:(∀ p∈e.new,n≤p.1∧p.1<n+e.cnt)∧(e.new.map Prod.fst).Nodup∧(∀ x∈e.del,x<n)∧(e.set.map Prod.fst).Nodup∧∀ p∈e.set,p.1<n):e.fine n:=⟨h.1,h.2.1,h.2.2.1,h.2.2.2⟩
def roRows (sz:Nat) (es:List (List AV)):Prop:=∀ e∈es,e.length=sz∧∀ c∈e,AV.ro c=true
theorem RetF.two {t:Nat} {ts:List Nat} {st:St} {r:AV} {rs:List AV} (hp:PurTo st.hp (st.get t) r) (h:RetF true ts st rs):RetF true (t :: ts) st (r :: rs):=.cons hp (fun h=>by cases h) h
def ownB:AV→Bool
 | .val _=>true
 | .mp _=>true
 | _=>false
theorem RetF.one {t:Nat} {ts:List Nat} {st:St} {r:AV} {rs:List AV} (ho:ownB (st.get t)=true) (hp:PurTo st.hp (st.get t) r) (h:RetF false ts st rs):RetF false (t :: ts) st (r :: rs):=by
 refine .cons hp (fun _=>?_) h
 revert ho
 cases st.get t<;>simp [ownB]
end
end Go.Vc
