/- A part of the proof. -/
import Derived.Test.YtghefemofbipnaaGreatX12
import Derived.IntWalk
import Derived.Laws.BytesString
import Derived.Scope
set_option maxRecDepth 100000
set_option maxHeartbeats 4000000
set_option linter.unusedSimpArgs false
set_option linter.unusedVariables false
set_option linter.unusedSectionVars false
set_option linter.unnecessarySimpa false

open Option.some renaming injEq→qA
open List renaming getD_eq_getElem?_getD→qG
open Prod.mk renaming injEq→qH
open Nat renaming le_refl→qC
open Option renaming getD_some→qB
open Nat renaming lt_of_lt_of_le→qD
open List renaming getElem?_eq_getElem→qJ
open Nat renaming le_trans→qK
open List renaming map_cons→qQ
open Array renaming getElem?_append→qY
namespace Go.Vc
open Go
inductive Good:AV→Prop
 | val {v}:sc v→Good (.val v)
 | lst {u sz es}:es.length≤maxLen→(∀ i,i<es.length→(es.getD i []).length=sz)→(∀ i k,i<es.length→k<sz→Good ((es.getD i []).getD k .bot))→Good (.lst u sz es)
 | rptr {cs}:(∀ k,k<cs.length→Good (cs.getD k .bot))→Good (.rptr cs)
 | agg {cs}:(∀ k,k<cs.length→Good (cs.getD k .bot))→Good (.agg cs)
 | other {a}:(match a with|.val _|.lst _ _ _|.rptr _|.agg _=>False|_=>True)→Good a
theorem RRel.good {w:World} {R:Nat→Prop} {v:Value} {a:AV} (h:RRel w R v a):Good a:=by
 induction h with
 | val h=>exact .val h
 | nil=>exact .lst (by simp) (fun i hi=>by simp at hi) (fun i k hi=>by simp at hi)
 | lst us _ _ h1 h2 h3 _ _ _ ih=>exact .lst (by omega) h3 ih
 | rptr us _ _ _ _ _ ih=>exact .rptr ih
 | fn=>exact .other trivial
 | bnd=>exact .other trivial
 | ifc=>exact .other trivial
 | ifs=>exact .other trivial
 | cmap=>exact .other trivial
 | bot=>exact .other trivial
theorem XRel.good {w:World} {R:Nat→Prop} {ρ:Nat→Option Bk} {v:Value} {a:AV} (h:XRel w R ρ v a):Good a:=by
 induction h with
 | r h=>exact h.good
 | agg _ _ _ ih=>exact .agg ih
 | _=>exact .other trivial
section
variable {P:Program} [Kd P] {F:Fx} {AQ:Exit→St→Prop} {st:St} {c:Code}
theorem Q4j (t:Nat) (h:Good (st.get t)→Wp P F c AQ st):Wp P F c AQ st:=by
 intro a w hr;have:Good (st.get t):=by
  obtain ⟨_,_,_,_,_,o,ρ,_,_,hx,_⟩:=hr;exact (hx t).good
 exact h this a w hr
theorem w_sr {id:Nat} {ops:Array Oper} {d:Bool} {y:Code} (hm:P.follows .mixedOrders=true) (hok:(okN F.N ops && (!d || (Q4a false ops && Q2H ops)))=true)
  (h:∀ K:St→Prop,(∀ st',Wp P F y AQ st'→K st')→QT P false ops ops.toList st K):Wp P F (.seq (.region id ops d) y) AQ st :=
 Q3 (w_run hm hok fun K hK=>h K fun st' h'=>hK st' h')
theorem Q4l {id:Nat} {ops:Array Oper} {d:Bool} {y:Code} (hm:P.follows .mixedOrders=true) (hok:(okN F.N ops && (!d || (Q4a true ops && Q2H ops)))=true)
  (h:∀ K:St→Prop,(∀ st',Wp P F y AQ st'→K st')→QT P true ops ops.toList st K):Wp P F (.seq (.region id ops d) y) AQ st :=
 Q3 (w_runM hm hok fun K hK=>h K fun st' h'=>hK st' h')
end
def Is (xs:List Int):List (List AV):=xs.map fun x=>[.val (.int .i64 x)]
@[simp] theorem Is_length (xs:List Int):(Is xs).length=xs.length:=by simp [Is]
@[simp] theorem Is_nil:Is []=[]:=rfl
theorem Is_get (xs:List Int) (i:Nat) (h:i<xs.length):(Is xs).getD i []=[.val (.int .i64 (xs.getD i 0))]:=by
 simp [Is,qG,h]
theorem Is_append (xs ys:List Int):Is (xs++ys)=Is xs++Is ys:=by simp [Is]
def B64 (x:Int):Prop:=-9223372036854775808≤x∧x≤9223372036854775807
theorem Good.is {u:Bool} {xs:List Int} (h:Good (.lst u 1 (Is xs))):xs.length≤9223372036854775807∧∀ x∈xs,B64 x:=by
 cases h with
 | lst h1 h2 h3 =>
  refine ⟨by rw [Is_length] at h1;exact qK h1 (by decide),fun x hx=>?_⟩;obtain ⟨i,hi,rfl⟩:=List.getElem_of_mem hx;have:=h3 i 0 (by simpa using hi) (by omega);rw [Is_get _ _ hi] at this;simp only [List.getD_cons_zero] at this;cases this with
  | val h =>
   simp only [sc] at h;have e1:IntKind.i64.min = -9223372036854775808:=(by decide);have e2:IntKind.i64.max=9223372036854775807:=(by decide);simpa [qG,hi,B64,e1,e2] using h
  | other h=>exact h.elim
 | other h=>exact h.elim
@[simp] theorem i64_min:IntKind.i64.min = -9223372036854775808:=by decide
theorem QF {x:Int} (h:B64 x):IntKind.i64.wrap x=x:=IntWalk.i64_in x h
theorem Qt (xs:List Int) (i:Nat) (h:i<xs.length):(Is xs)[i]? = some [.val (.int .i64 xs[i])]:=by simp [Is,h]
attribute [local simp] Qt
theorem Ql (xs:List Int) (i:Nat) (h:i<(Is xs).length):(Is xs)[i]=[.val (.int .i64 (xs[i]'(by simpa using h)))]:=by simp [Is]
attribute [local simp] Ql
@[simp] theorem Is_set (xs:List Int) (i:Nat) (x:Int):(Is xs).set i [.val (.int .i64 x)]=Is (xs.set i x):=by simp [Is,List.map_set]
@[simp] theorem Is_rep (n:Nat) (x:Int):List.replicate n [.val (.int .i64 x)]=Is (List.replicate n x):=by simp [Is]
theorem Qc {t:Nat} {v v':Value} {st:St} (h:st.get t = .val v) (e:v=v'):RetA [t] st [.val v']:=by
 subst e;refine ⟨?_,[.val v],[],?_,.nil,UpL.refl _⟩
 ·simp only [qQ,List.map_nil,h];exact .one rfl rfl .nil
 simp only [qQ,List.map_nil,h,List.flatMap_cons,List.flatMap_nil,AV.cells,List.append_nil];rfl
theorem Q3J {t id n sz:Nat} {es fs:List (List AV)} {st:St} (h:st.get t = .own id 0 n) (he:look id st.h=some (.row sz es)) (hn:es.length=n) (e:es=fs):RetA [t] st [.lst true sz fs]:=by
 subst e;refine ⟨?_,[.lst true sz es],[id],?_,by simp,UpL.refl _⟩
 ·simp only [qQ,List.map_nil,h];exact .one rfl rfl .nil
 have he':st.hp id=some (.row sz es):=he;simp only [qQ,List.map_nil,h,List.flatMap_cons,List.flatMap_nil,AV.cells,List.append_nil];simp [Q1Y,layC,layD,Go.Vc.depth,he',hn]
theorem Qh {i n:Nat} (h:i<n) (hn:n≤9223372036854775807):IntKind.i64.wrap ((i:Int)+1)=((i+1:Nat):Int):=by
 rw [QF ⟨by omega,by omega⟩];rfl
def contE (h:HP) (d:Nat):Option Ent→Option (Nat × List (List AV))
 | some (.mix sz es)=>some (sz,es)
 | some (.row sz es)=>some (sz,es)
 | some (.ali c i k sz)=>if Qw (h c) then none else match cont h d c with
   | some (_,es)=>match (es.getD i []).getD k .bot with
    | .lst true sz' es'=>if sz'=sz then some (sz,es') else none
    | _=>none
   | none=>none
 | some (.mapE _ _)=>none
 | none=>none
theorem cont_E {h:HP} {d id:Nat}:cont h (d+1) id=contE h d (h id):=by
 simp only [cont];cases h id with
 | none=>rfl
 | some e=>cases e<;>rfl
def wrE (h:HP) (d id:Nat) (es:List (List AV)):Option Ent→Option (List (Nat × Ent))
 | some (.mix sz _)=>some [(id,.mix sz es)]
 | some (.row sz _)=>some [(id,.row sz es)]
 | some (.ali c i k sz)=>match cont h d c with
   | some (_,fs)=>wr h d c (fs.set i ((fs.getD i []).set k (.lst true sz es)))
   | none=>none
 | some (.mapE _ _)=>none
 | none=>none
theorem wr_E {h:HP} {d id:Nat} {es:List (List AV)}:wr h (d+1) id es=wrE h d id es (h id):=by
 simp only [wr];cases h id with
 | none=>rfl
 | some e=>cases e<;>rfl
def Q88 (t:Tyi) (id i k n:Nat):Option (Nat × List (List AV))→Option (Prop × Eff)
 | some (sz,es)=>some (i<es.length∧k+t.sz≤sz,{ v:=bif t.agg then .agg (Q12 id i k n (((es.getD i []).drop k).take t.sz)).1 else (Q12 id i k n (((es.getD i []).drop k).take t.sz)).1.getD 0 .bot,new:=(Q12 id i k n (((es.getD i []).drop k).take t.sz)).2,cnt:=t.sz })
 | none=>none
def loadE (t:Tyi) (id i k n:Nat) (h:HP):Option Ent→Option (Prop × Eff)
 | some (.mix sz es)=>some (i<es.length∧k+t.sz≤sz,{ v:=bif t.agg then .agg (((es.getD i []).drop k).take t.sz) else (es.getD i []).getD k .bot })
 | some (.row sz es)=>Q88 t id i k n (some (sz,es))
 | some (.ali _ _ _ _)=>Q88 t id i k n (cont h depth id)
 | some (.mapE _ _)=>none
 | none=>none
theorem loadv_E {t:Tyi} {id i k n:Nat} {h:HP}:Q4U (some t) (.adr id i k) h n=loadE t id i k n h (h id):=by
 simp only [Q4U,loadE];cases he:h id with
 | none=>rfl
 | some e =>
  cases e with
  | mix=>rfl
  | row sz es =>
   have:cont h depth id=some (sz,es):=(by simp [cont,depth,he]);simp only [this,Q88]
  | ali=>simp only [Q88];cases cont h depth id<;>rfl
  | mapE kd es =>
   have:cont h depth id=none:=(by simp [cont,depth,he]);simp only [this]
def Q4L (t:Tyi) (id i k:Nat) (x:AV) (h:HP):Option (Nat × List (List AV))→Option (Prop × Eff)
 | some (sz,es)=>match x with
  | .val v=>if t.sz=1∧Q7v v=true then
    match wr h depth id (es.set i ((es.getD i []).set k (.val v))) with
    | some s=>some (i<es.length∧k<sz,{ v:=.bot,set:=s })
    | none=>none
   else none
  | _=>none
 | none=>none
def Q7D (t:Tyi) (id i k:Nat) (x:AV) (h:HP):Option Ent→Option (Prop × Eff)
 | some (.mix sz es)=>if x.cells.length=t.sz && Q4W x then
    some (i<es.length∧k+t.sz≤sz,{ v:=.bot,set:=[(id,.mix sz (es.set i (Q1v (es.getD i []) k x.cells)))] })
   else none
 | some (.row _ _)=>Q4L t id i k x h (cont h depth id)
 | some (.ali _ _ _ _)=>Q4L t id i k x h (cont h depth id)
 | some (.mapE _ _)=>none
 | none=>none
theorem storev_E {t:Tyi} {id i k:Nat} {x:AV} {h:HP}:Q3j (some t) (.adr id i k) x h=Q7D t id i k x h (h id):=by
 simp only [Q3j,Q7D];cases he:h id with
 | none=>rfl
 | some e =>
  cases e with
  | mapE kd es =>
   have:cont h depth id=none:=(by simp [cont,depth,he]);simp only [this]
  | _=>first|rfl|(simp only [Q4L];cases cont h depth id<;>rfl)
def layE (h:HP) (d:Nat) (id n:Nat):Option Ent→Option (AV × List Nat)
 | some (.row sz es)=>if es.length=n then some (.lst true sz es,[id]) else none
 | some (.mix sz es)=>if es.length=n then match Q1K (layD h d) es with
   | some (q,ds)=>some (.lst true sz q,id :: ds)
   | none=>none
   else none
 | some (.ali _ _ _ _)=>none
 | some (.mapE _ _)=>none
 | none=>none
theorem layD_val {h:HP} {d:Nat} {v:Value}:layD h (d+1) (.val v)=some (.val v,[]):=rfl
theorem layD_E {h:HP} {d id n:Nat}:layD h (d+1) (.own id 0 n)=layE h d id n (h id):=by
 simp only [layD,layE];cases he:h id with
 | none=>rfl
 | some e=>cases e<;>rfl
def idxC (t:Tyi) (id off n:Nat) (j:Int):Option (Nat × List (List AV))→Option (Prop × Eff)
 | some (sz,_)=>if sz=t.sz then some (0≤j∧j<n,{ v:=.adr id (off+j.toNat) 0 }) else none
 | none=>none
theorem Q85 {t:Tyi} {id off n:Nat} {k:IntKind} {j:Int} {h:HP}:Q2y (some t) (.own id off n) (.val (.int k j)) h=idxC t id off n j (cont h depth id):=by
 simp only [Q2y,idxC];cases cont h depth id<;>rfl
theorem Q84 {t:Tyi} {u:Bool} {sz:Nat} {es:List (List AV)} {k:IntKind} {j:Int} {h:HP} :
  Q2y (some t) (.lst u sz es) (.val (.int k j)) h=if sz=t.sz then some (0≤j∧j<es.length,{ v:=.rptr (es.getD j.toNat []) }) else none:=rfl
def srcE (h:HP) (sz id off n:Nat):Option Ent→Option (Prop × List (List AV) × List Nat)
 | some (.mix sz' es)=>if sz'=sz then match Q44 h ((es.drop off).take n) with
   | some (q,d)=>some (off+n≤es.length,q,d)
   | none=>none
   else none
 | some (.row sz' es)=>if sz'=sz then some (off+n≤es.length∧∀ e∈es,∀ c∈e,isVal c=true,(es.drop off).take n,[]) else none
 | some (.ali _ _ _ _)=>match cont h depth id with
   | some (sz',es)=>if sz'=sz then some (off+n≤es.length∧∀ e∈es,∀ c∈e,isVal c=true,(es.drop off).take n,[]) else none
   | none=>none
 | some (.mapE _ _)=>none
 | none=>none
theorem src_nil {h:HP} {sz:Nat}:src h sz (.val (.slice none 0 0))=some (True,[],[]):=rfl
theorem src_lst {h:HP} {sz:Nat} {u:Bool} {sz':Nat} {es:List (List AV)}:src h sz (.lst u sz' es)=if sz'=sz then some (∀ e∈es,∀ c∈e,isVal c=true,es,[]) else none:=rfl
theorem src_E {h:HP} {sz id off n:Nat}:src h sz (.own id off n)=srcE h sz id off n (h id):=by
 simp only [src,srcE];cases he:h id with
 | none=>rfl
 | some e =>
  cases e with
  | mix=>rfl
  | row sz' es =>
   have:cont h depth id=some (sz',es):=(by simp [cont,depth,he]);simp only [this]
  | mapE kd es =>
   have:cont h depth id=none:=(by simp [cont,depth,he]);simp only [this]
  | ali=>rfl
def baseE (h:HP) (sz id m:Nat):Option Ent→Option (Prop × List (List AV) × List Nat × List Nat)
 | some (.row sz' es)=>if sz'=sz then some (m≤es.length,es.take m,[id],[]) else none
 | some (.mix sz' es)=>if sz'=sz then match Q44 h (es.take m) with
   | some (q,d)=>some (m≤es.length,q,[id],d)
   | none=>none
   else none
 | some (.ali _ _ _ _)=>none
 | some (.mapE _ _)=>none
 | none=>none
theorem base_nil {h:HP} {sz:Nat}:base h sz (.val (.slice none 0 0))=some (True,[],[],[]):=rfl
theorem base_E {h:HP} {sz id m:Nat}:base h sz (.own id 0 m)=baseE h sz id m (h id):=by
 simp only [base,baseE];cases he:h id with
 | none=>rfl
 | some e=>cases e<;>rfl
def appE (t:Tyi) (n:Nat):Option (Prop × List (List AV) × List Nat × List Nat)→Option (Prop × List (List AV) × List Nat)→Option (Prop × Eff)
 | some (c1,es,i,d1),some (c2,news,d2) =>
   if (n :: (i++(d1++d2))).Nodup then
    some (c1∧c2∧(es.length+news.length) * t.bytes≤140737488355328∧es.length+news.length≤140737488355328∧0<t.sz,
     { v:=.own n 0 (es.length+news.length),del:=i++(d1++d2),new:=[(n,.row t.sz (es++news))],cnt:=1 }) else none
 | _,_=>none
theorem appendv_E {t:Tyi} {s x:AV} {h:HP} {n:Nat}:Q2P (some t) s x h n=appE t n (base h t.sz s) (src h t.sz x):=by
 simp only [Q2P,appE];cases base h t.sz s with
 | none=>rfl
 | some p=>cases src h t.sz x<;>rfl
def slcC (t:Tyi) (id off n:Nat) (lo hi:Int):Option (Nat × List (List AV))→Option (Prop × Eff)
 | some (sz,_)=>if sz=t.sz then some (0≤lo∧lo≤hi∧hi≤n,{ v:=.own id (off+lo.toNat) (hi - lo).toNat }) else none
 | none=>none
theorem Q8m {t:Tyi} {h:HP} {id off n:Nat} {lo hi:Int}:Q1L t h (.own id off n) lo hi=slcC t id off n lo hi (cont h depth id):=by
 simp only [Q1L,slcC];cases cont h depth id<;>rfl
theorem Q8l {t:Tyi} {h:HP} {u:Bool} {sz:Nat} {es:List (List AV)} {lo hi:Int} :
  Q1L t h (.lst u sz es) lo hi=if sz=t.sz then some (0≤lo∧lo≤hi∧hi≤es.length,{ v:=.lst u sz ((es.drop lo.toNat).take (hi - lo).toNat) }) else none:=rfl
@[simp] theorem hp_mk {s:List (Nat × AV)} {h:List (Nat × Ent)} {n id:Nat}:St.hp ⟨s,h,n⟩ id=look id h:=rfl
section
variable {h:HP} {d id n k i c j l off m sz:Nat} {es:List (List AV)} {t:Tyi} {x:AV} {q:Int}
@[simp] theorem contE_mix:contE h d (some (.mix sz es))=some (sz,es):=rfl
@[simp] theorem contE_row:contE h d (some (.row sz es))=some (sz,es):=rfl
@[simp] theorem wrE_mix:wrE h d id es (some (.mix sz es))=some [(id,.mix sz es)]:=rfl
@[simp] theorem wrE_row {fs:List (List AV)}:wrE h d id es (some (.row sz fs))=some [(id,.row sz es)]:=rfl
@[simp] theorem loadC_some:Q88 t id i k n (some (sz,es))=some (i<es.length∧k+t.sz≤sz,{ v:=bif t.agg then .agg (Q12 id i k n (((es.getD i []).drop k).take t.sz)).1 else (Q12 id i k n (((es.getD i []).drop k).take t.sz)).1.getD 0 .bot,new:=(Q12 id i k n (((es.getD i []).drop k).take t.sz)).2,cnt:=t.sz }):=rfl
@[simp] theorem loadE_mix:loadE t id i k n h (some (.mix sz es))=some (i<es.length∧k+t.sz≤sz,{ v:=bif t.agg then .agg (((es.getD i []).drop k).take t.sz) else (es.getD i []).getD k .bot }):=rfl
@[simp] theorem loadE_row:loadE t id i k n h (some (.row sz es))=Q88 t id i k n (some (sz,es)):=rfl
@[simp] theorem loadE_ali:loadE t id i k n h (some (.ali c j l sz))=Q88 t id i k n (cont h depth id):=rfl
@[simp] theorem loadv_rptr {cs:List AV}:Q4U (some t) (.rptr cs) h n=some (t.sz≤cs.length,{ v:=bif t.agg then .agg (cs.take t.sz) else cs.getD 0 .bot }):=rfl
@[simp] theorem storeC_some {v:Value}:Q4L t id i k (.val v) h (some (sz,es))=if t.sz=1∧Q7v v=true then (wr h depth id (es.set i ((es.getD i []).set k (.val v)))).map (fun s=>(i<es.length∧k<sz,{ v:=.bot,set:=s })) else none:=by
 simp only [Q4L];split
 ·cases wr h depth id (es.set i ((es.getD i []).set k (.val v)))<;>rfl
 rfl
@[simp] theorem storeC_own {a b c:Nat}:Q4L t id i k (.own a b c) h (some (sz,es))=none:=rfl
@[simp] theorem storeE_mix:Q7D t id i k x h (some (.mix sz es))=if x.cells.length=t.sz && Q4W x then
    some (i<es.length∧k+t.sz≤sz,{ v:=.bot,set:=[(id,.mix sz (es.set i (Q1v (es.getD i []) k x.cells)))] }) else none:=rfl
@[simp] theorem storeE_row:Q7D t id i k x h (some (.row sz es))=Q4L t id i k x h (cont h depth id):=rfl
@[simp] theorem storeE_ali:Q7D t id i k x h (some (.ali c j l sz))=Q4L t id i k x h (cont h depth id):=rfl
@[simp] theorem layE_row:layE h d id n (some (.row sz es))=if es.length=n then some (.lst true sz es,[id]) else none:=rfl
@[simp] theorem layE_mix:layE h d id n (some (.mix sz es))=if es.length=n then (Q1K (layD h d) es).map (fun p=>(.lst true sz p.1,id :: p.2)) else none:=by
 simp only [layE];split
 ·cases Q1K (layD h d) es<;>rfl
 rfl
@[simp] theorem idxC_some:idxC t id off n q (some (sz,es))=if sz=t.sz then some (0≤q∧q<n,{ v:=.adr id (off+q.toNat) 0 }) else none:=rfl
@[simp] theorem srcE_mix {z:Nat}:srcE h sz id off n (some (.mix z es))=if z=sz then (Q44 h ((es.drop off).take n)).map (fun p=>(off+n≤es.length,p.1,p.2)) else none:=by
 simp only [srcE];split
 ·cases Q44 h ((es.drop off).take n)<;>rfl
 rfl
@[simp] theorem srcE_row {z:Nat}:srcE h sz id off n (some (.row z es))=if z=sz then some (off+n≤es.length∧∀ e∈es,∀ c∈e,isVal c=true,(es.drop off).take n,[]) else none:=rfl
@[simp] theorem baseE_row {z:Nat}:baseE h sz id m (some (.row z es))=if z=sz then some (m≤es.length,es.take m,[id],[]) else none:=rfl
@[simp] theorem baseE_mix {z:Nat}:baseE h sz id m (some (.mix z es))=if z=sz then (Q44 h (es.take m)).map (fun p=>(m≤es.length,p.1,[id],p.2)) else none:=by
 simp only [baseE];split
 ·cases Q44 h (es.take m)<;>rfl
 rfl
@[simp] theorem appE_some {c1 c2:Prop} {is d1 d2:List Nat} {news:List (List AV)}:appE t n (some (c1,es,is,d1)) (some (c2,news,d2))=if (n :: (is++(d1++d2))).Nodup then
    some (c1∧c2∧(es.length+news.length) * t.bytes≤140737488355328∧es.length+news.length≤140737488355328∧0<t.sz,
     { v:=.own n 0 (es.length+news.length),del:=is++(d1++d2),new:=[(n,.row t.sz (es++news))],cnt:=1 }) else none:=rfl
@[simp] theorem slcC_some {lo hi:Int}:slcC t id off n lo hi (some (sz,es))=if sz=t.sz then some (0≤lo∧lo≤hi∧hi≤n,{ v:=.own id (off+lo.toNat) (hi - lo).toNat }) else none:=rfl
end
def runE (P:Program) [Kd P] (mt:MT) (all:Array Oper) (os:List Oper) (dst:Option Nat) (st:St) (K:St→Prop) (x:Option (Prop × Eff)):Prop:=Q5Z (fun st'=>QT P mt all os st' K) dst st x
def runS (P:Program) [Kd P] (mt:MT) (all:Array Oper) (os:List Oper) (dst:Option Nat) (st:St) (K:St→Prop) (t:TypeId) (av xv:AV) (x:Option (Prop × Eff)):Prop:=Q4v (fun st'=>QT P mt all os st' K) (stoA P mt all t av xv dst os st K) dst st x
def runO (P:Program) [Kd P] (mt:MT) (all:Array Oper) (os:List Oper) (dst:Option Nat) (st:St) (K:St→Prop) (op:Op):Prop:=Q4Y P mt all os K (fun st'=>QT P mt all os st' K) dst st op
def Q4C (P:Program) [Kd P] (mt:MT) (all:Array Oper) (os:List Oper) (dst:Option Nat) (st:St) (K:St→Prop) (op:Op) (t:Nat) (want:Bool) (x:AV):Prop:=guardW P mt all os K (fun st'=>QT P mt all os st' K) dst st op t want x
def guardT (P:Program) [Kd P] (mt:MT) (all:Array Oper) (os:List Oper) (dst:Option Nat) (st:St) (K:St→Prop) (op:Op) (want:Bool) (x:Option Nat):Prop:=Q82 P mt all os K (fun st'=>QT P mt all os st' K) dst st op want x
section
variable {P:Program} [Kd P] {mt:MT} {all:Array Oper} {os:List Oper} {dst:Option Nat} {st:St} {K:St→Prop} {op:Op} {ty:TypeId} {pos:String} {af:Array Edge}
@[simp] theorem runE_some {c:Prop} {e:Eff}:runE P mt all os dst st K (some (c,e))=(c∧QT P mt all os (st.app dst e) K):=rfl
@[simp] theorem callE_fn {f:Nat} {caps az:List AV}:callE P mt all az dst os st K (.fn f caps)=Q7Q P mt all f (az++caps) dst os st K:=rfl
@[simp] theorem runO_call {x:Operand} {args:Array Operand} {ts:Array TypeId}:runO P mt all os dst st K (.call ⟨.value x,args,ts⟩)=callE P mt all (args.toList.map st.ev) dst os st K (st.ev x):=rfl
@[simp] theorem runO_move {x}:runO P mt all os dst st K (.move x)=QT P mt all os (st.app dst { v:=st.ev x }) K:=by simp [runO,Q4Y,Q5Z,opF]
@[simp] theorem runO_assign {x}:runO P mt all os dst st K (.assign x)=QT P mt all os (st.app dst { v:=st.ev x }) K:=by simp [runO,Q4Y,Q5Z,opF]
@[simp] theorem runO_pick {c a b}:runO P mt all os dst st K (.pick c a b)=runE P mt all os dst st K (pick (st.ev c) (st.ev a) (st.ev b)):=rfl
@[simp] theorem runO_alloc {e}:runO P mt all os dst st K (.alloc e)=runE P mt all os dst st K (Vc.alloc (tyi P e) st.n):=rfl
@[simp] theorem runO_box {t x}:runO P mt all os dst st K (.box t x)=runE P mt all os dst st K (boxv (st.ev x) st.n):=rfl
@[simp] theorem runO_build {t parts}:runO P mt all os dst st K (.build t parts)=runE P mt all os dst st K (build (tyi P t) (Q4I P t) (parts.toList.map fun p=>(p.1,st.ev p.2))):=rfl
def elmE (g:TypeId→Option (Prop × Eff)):Option TypeId→Option (Prop × Eff)
 | some e=>g e
 | none=>none
@[simp] theorem elmE_some {g:TypeId→Option (Prop × Eff)} {e:TypeId}:elmE g (some e)=g e:=rfl
@[simp] theorem runO_buildSlice {t len parts}:runO P mt all os dst st K (.buildSlice t len parts)=runE P mt all os dst st K (elmE (fun e=>buildSlice (tyi P e) len (parts.toList.map fun p=>(p.1,st.ev p.2)) st.n) (elm P t)):=by
 simp only [runO,runE,Q4Y,opF];cases elm P t<;>rfl
@[simp] theorem runO_load {t a}:runO P mt all os dst st K (.load t a)=runE P mt all os dst st K (Q4U (tyi P t) (st.ev a) st.hp st.n):=rfl
@[simp] theorem runO_store {t a x}:runO P mt all os dst st K (.store t a x)=runS P mt all os dst st K t (st.ev a) (st.ev x) (Q3j (tyi P t) (st.ev a) (st.ev x) st.hp):=rfl
@[simp] theorem runS_some {t:TypeId} {av xv:AV} {c:Prop} {e:Eff}:runS P mt all os dst st K t av xv (some (c,e))=(c∧QT P mt all os (st.app dst e) K):=rfl
@[simp] theorem runS_none {t:TypeId} {av xv:AV}:runS P mt all os dst st K t av xv none=stoA P mt all t av xv dst os st K:=rfl
@[simp] theorem runO_nilCheck {x}:runO P mt all os dst st K (.nilCheck x)=runE P mt all os dst st K (nilCheck (st.ev x)):=rfl
@[simp] theorem runO_binOp {o xt x y yt}:runO P mt all os dst st K (.binOp o xt x y yt)=runE P mt all os dst st K (Q3X (eqT P xt) o (st.ev x) (st.ev y)):=rfl
@[simp] theorem runO_unOp {o t x}:runO P mt all os dst st K (.unOp o t x)=runE P mt all os dst st K (unop o (st.ev x)):=rfl
@[simp] theorem runO_convert {s d x}:runO P mt all os dst st K (.convert s d x)=runE P mt all os dst st K (Q5S (intk P s) (intk P d) (st.ev x)):=rfl
@[simp] theorem runO_makeSlice {t l c}:runO P mt all os dst st K (.makeSlice t l c)=runE P mt all os dst st K (elmE (fun e=>Q4G (tyi P e) (st.ev l) (st.ev c) st.n) (elm P t)):=by
 simp only [runO,runE,Q4Y,opF];cases elm P t<;>rfl
@[simp] theorem runO_fieldAddr {t x k}:runO P mt all os dst st K (.fieldAddr t x k)=runE P mt all os dst st K (fieldAddr (fld P t k) (st.ev x)):=rfl
@[simp] theorem runO_field {t x k}:runO P mt all os dst st K (.field t x k)=runE P mt all os dst st K (Q5f (fld P t k) (st.ev x)):=rfl
@[simp] theorem runO_indexAddr {t x i}:runO P mt all os dst st K (.indexAddr t x i)=runE P mt all os dst st K (elmE (fun e=>Q2y (tyi P e) (st.ev x) (st.ev i) st.hp) (elm P t)):=by
 simp only [runO,runE,Q4Y,opF];cases elm P t<;>rfl
@[simp] theorem runO_extract {x k}:runO P mt all os dst st K (.extract x k)=runE P mt all os dst st K (Q2T (st.ev x) k):=rfl
@[simp] theorem runO_len {x t ts} (h:ts = #[t]):runO P mt all os dst st K (.call ⟨.builtin .len,#[x],ts⟩)=runE P mt all os dst st K (elmE (fun _=>lenv (st.ev x)) (elm P t)):=by
 subst h;simp only [runO,runE,Q4Y,opF,bltF];cases elm P t<;>rfl
@[simp] theorem runO_append {x y t u}:runO P mt all os dst st K (.call ⟨.builtin .append,#[x,y],#[t,u]⟩)=runE P mt all os dst st K (elmE (fun e=>if t=u then Q2P (tyi P e) (st.ev x) (st.ev y) st.hp st.n else none) (elm P t)):=by
 simp only [runO,runE,Q4Y,opF,bltF];cases elm P t<;>rfl
@[simp] theorem runO_min {xs ts}:runO P mt all os dst st K (.call ⟨.builtin .min,xs,ts⟩)=runE P mt all os dst st K (Q3A (fun a b=>if b<a then b else a) (xs.toList.map st.ev)):=rfl
@[simp] theorem runO_max {xs ts}:runO P mt all os dst st K (.call ⟨.builtin .max,xs,ts⟩)=runE P mt all os dst st K (Q3A (fun a b=>if b > a then b else a) (xs.toList.map st.ev)):=rfl
@[simp] theorem runOps_nil:QT P mt all [] st K=K st:=rfl
@[simp] theorem runOps_go:QT P mt all (⟨dst,op,ty,pos,af,none⟩ :: os) st K=runO P mt all os dst st K op:=rfl
@[simp] theorem runOps_guard {j:Nat} {want:Bool}:QT P mt all (⟨dst,op,ty,pos,af,some (j,want)⟩ :: os) st K=guardT P mt all os dst st K op want ((all[j]?).bind (·.dst)):=rfl
@[simp] theorem guardT_some {want:Bool} {t:Nat}:guardT P mt all os dst st K op want (some t)=Q4C P mt all os dst st K op t want (st.get t):=rfl
theorem Qd {want:Bool} {t:Nat} {b:Bool}:Q4C P mt all os dst st K op t want (.val (.bool b))=((b=want→runO P mt all os dst (st.put t (.val (.bool want))) K op)∧(b = !want→QT P mt all os ((st.put t (.val (.bool !want))).app dst { v:=.tup [] }) K)):=rfl
attribute [local simp] Qd
@[simp high] theorem guardE_tup {t:Nat} {want:Bool}:Q4C P mt all os dst st K op t want (.tup [])=QT P mt all os (st.app dst { v:=.tup [] }) K:=rfl
@[simp high] theorem guardE_tt {t:Nat}:Q4C P mt all os dst st K op t true (.val (.bool true))=runO P mt all os dst (st.put t (.val (.bool true))) K op:=by simp [Qd]
@[simp high] theorem guardE_ff {t:Nat}:Q4C P mt all os dst st K op t false (.val (.bool false))=runO P mt all os dst (st.put t (.val (.bool false))) K op:=by simp [Qd]
@[simp high] theorem guardE_tf {t:Nat}:Q4C P mt all os dst st K op t true (.val (.bool false))=QT P mt all os ((st.put t (.val (.bool false))).app dst { v:=.tup [] }) K:=by simp [Qd]
@[simp high] theorem guardE_ft {t:Nat}:Q4C P mt all os dst st K op t false (.val (.bool true))=QT P mt all os ((st.put t (.val (.bool true))).app dst { v:=.tup [] }) K:=by simp [Qd]
end
attribute [simp] cont_E wr_E loadv_E storev_E layD_val layD_E Q85 Q84 src_nil src_lst src_E base_nil base_E appendv_E Q8m Q8l
attribute [simp] rl rlL rlLL rlE Q7v St.ev cst scB St.app putS Q4K Q42 Q3i St.get look lenv Q3X Q9j unop pick St.put setH delH fieldAddr Q5f nilCheck depth Qw Q3S Q5b roundA Q4G Q5S Q2T slen Q6k Q3A Q9u build Q5V Q1v Q76 rep Q4B buildSlice Q1Y Q1K layC alloc boxv Q12 AV.cells isVal Q4W
section
attribute [local simp] Qd Qt Ql
def Q4t:Nat→List Mu→List (Nat × Ent)
 | _,[]=>[]
 | j,u :: r=>(j,.row u.sz u.es) :: Q4t (j+1) r
theorem Q9z:∀ (ms:List Mu) (j id:Nat),look id (Q4t j ms)=if j≤id∧id<j+ms.length then some (.row (ms.getD (id - j) .none).sz (ms.getD (id - j) .none).es) else none:=by
 intro ms
 induction ms with
 | nil=>intro j id;simp only [Q4t,look];rw [if_neg (by simp)]
 | cons u r ih =>
  intro j id;simp only [Q4t,look]
  by_cases h:j=id
  ·subst h;simp
  rw [if_neg h,ih]
  by_cases h2:j+1≤id∧id<j+1+r.length
  ·rw [if_pos h2,if_pos (by simp;omega)];have:id - j=(id - (j+1))+1:=(by omega);rw [this,List.getD_cons_succ]
  rw [if_neg h2,if_neg (by simp;omega)]
def Q9I (ts:List Nat) (st:St) (res:AV):Prop :=
 match ts,res with
 | [t],.val v=>st.get t = .val v
 | [],.tup []=>True
 | _,_=>False
structure MRet (ts:List Nat) (res:AV) (ms:List Mu) (st:St):Prop where
 res:Q9I ts st res
 ent:∀ j,j<ms.length→look j st.h=some (.row (ms.getD j .none).sz (ms.getD j .none).fs)
def mretQ (ts:List Nat) (res:AV) (ms:List Mu):Exit→St→Prop
 | .normal,st=>MRet ts res ms st
 | .ret,st=>MRet ts res ms st
 | _,_=>False
theorem Q1h {P:Program} [Kd P] {f:Nat} {fn:Func} {c:Code} {args:List AV} {ms:List Mu} {ts:List Nat} {res:AV} {rv:Value} (hf:P.funcs[f]? = some fn) (hb:fn.body=some c) (hrt:resT fn.results=some ts) (hrv:resV res=some rv)
  (hname : (fn.name == "runtime.NumGoroutine") = false) (hN : args.length ≤ fn.ntmps) (hlen : ∀ j, j < ms.length → (ms.getD j .none).fs.length = (ms.getD j .none).es.length)
  (h:∀ F:Fx,F.N=fn.ntmps→F.pins=ms.length→Wp P F c (mretQ ts res ms) ⟨Q3i 0 args,Q4t 0 ms,ms.length⟩):MContract P f args ms res:=by
 refine ⟨⟨fn,hf,hname,by rw [hb];rfl⟩,hlen,rv,hrv,fun w R o ρ vals hp=>?_⟩;refine Q2c hf hb ?_
 let C:Ctx:=⟨w,fun b=>∃ L,o b=some L,ρ,ms.length⟩
 have hment:∀ id e,look id (Q4t 0 ms)=some e→id<ms.length∧e = .row (ms.getD id .none).sz (ms.getD id .none).es:=by
  intro id e he;rw [Q9z] at he;split at he
  ·rename_i h1;simp only [Nat.sub_zero,qA] at he;exact ⟨by omega,he.symm⟩
  cases he
 have hsz:=hp.size;have hrel:Rel C R fn.ntmps { tmps:=vals++Array.replicate (fn.ntmps - vals.size) undef,defers:=[] } w ⟨Q3i 0 args,Q4t 0 ms,ms.length⟩:=by
  refine ⟨by simp;omega,rfl,fun id x h=>(hment id x h).1,o,ρ,⟨hp.hR,fun b L hb=>⟨hp.ho b L hb,.inr ⟨L,hb⟩⟩,rfl,⟨rfl,qC _⟩,rfl,qC _,fun b _ _=>rfl⟩,
   ⟨fun id sz es bk he hb=>?_,fun id sz es bk he hb=>?_,fun id c i k sz bk he hb=>?_,fun id kd es bk he hb=>?_⟩,fun t=>?_,fun id k hk=>hp.lim id k hk,fun id _=>rfl,qC _⟩
  ·have:=(hment id _ he).2;cases this
  ·obtain ⟨h1,h2⟩:=hment id _ he;cases h2;obtain ⟨v,h3,h4⟩:=hp.ent id bk h1 hb;exact ⟨v,h4,h3⟩
  ·have:=(hment id _ he).2;cases this
  ·have:=(hment id _ he).2;cases this
  simp only [St.get,Q2G]
  by_cases ht:t<args.length
  ·rw [if_pos (by omega)];simp only [Nat.sub_zero,qB];have:=hp.args t ht;have h2:(vals++Array.replicate (fn.ntmps - vals.size) undef).getD t undef=vals.getD t undef:=by
    simp [qY,show t<vals.size by omega]
   rw [h2];exact this
  rw [if_neg (by omega)];exact .bot
 refine Q4m (fun e a w' hq=>?_) (h ⟨C,R,fn.ntmps,ms.length,rfl⟩ rfl rfl _ w (.of hrel));obtain ⟨st,⟨R',hX,hr⟩,hq⟩:=hq;have fin:MRet ts res ms st→a.defers=[]∧∃ v,(results fn a.tmps).run P w' = .ok v w'∧(Ending.returned v = .returned rv∧MPost w w' R o ρ ms):=by
  intro hA;obtain ⟨_,hdef,_,o',ρ',W,H,hx,_,hpin⟩:=hr;refine ⟨hdef,_,Q3M hrt _,?_,W.os,W.tape,W.output,W.size,fun b hb hob=>W.keep b hb (by rintro ⟨L,hL⟩;rw [hob] at hL;cases hL),o',fun b L hb=>W.o b L hb,fun j bk hj hbk=>?_⟩
  ·have h1:=hA.res;unfold Q9I at h1;split at h1
   ·rename_i t v;have h2:=hx t;rw [h1] at h2;simp only [resV] at hrv;split at hrv
    ·cases hrv;simp only [qQ,List.map_nil,Q2h];rw [h2.val_eq.1]
    cases hrv
   ·simp only [resV,qA] at hrv;subst hrv;rfl
   exact h1.elim
  obtain ⟨v,h1,h2⟩:=H.row j _ _ bk (hA.ent j hj) ((hpin.1 j hj).trans hbk);exact ⟨v,h2,h1.anyR⟩
 cases e with
 | normal=>exact fin hq
 | ret=>exact fin hq
 | _=>exact hq.elim
def Q5W:Ent→Bool
 | .ali _ _ _ _=>true
 | _=>false
theorem MCall.cell {st:St} {id r i k sz szr:Nat} {es fs:List (List AV)} {esr:List (List AV)} {dels:List Nat} (h1:look id st.h=some (.ali r i k sz)) (h2:look r st.h=some (.row szr esr)) (hi:i<esr.length) (hk:k<szr) (hks:k<(esr.getD i []).length)
  (hc:(esr.getD i []).getD k .bot = .lst true sz es) (hd:∀ x∈dels,x<st.n) (ha:∀ p∈st.h,Q5W p.2=true→p.1∈dels) :
  MCall st.hp st.n [⟨sz,es,fs⟩] [id] (fun _=>[r,i,k]) [(r,.row szr (esr.set i ((esr.getD i []).set k (.lst true sz fs))))] dels:=by
 have h0:∀ j,j < [(⟨sz,es,fs⟩:Mu)].length→j=0:=fun j hj=>by simpa using hj
 have hset:=fun j l=>Q4b esr i k (.lst true sz fs) j l hi hks;refine ⟨rfl,fun j hj=>?_,fun i' j hi' hj hij=>?_,by simp,fun r' e he=>?_,fun j r' M hj hP=>?_,hd,fun id' c i' k' s' hid he=>.inl ?_⟩
 ·have:=h0 j hj;subst this;exact .cell h1 h2 hi hk hc
 ·have:=h0 j hj;have:=h0 i' hi';omega
 ·simp only [look] at he;split at he
  ·rename_i hr;subst hr;simp only [qA] at he;subst he;refine ⟨szr,esr,_,h2,rfl,⟨fun j hj hP=>by simp at hP,by simp,fun _ j hj=>by rw [Q6O],fun i2 k2 j hj hP hi2 hk2=>?_,fun i2 k2 hi2 hk2 hm=>?_⟩⟩
   ·have:=h0 j hj;subst this;simp only [List.cons.injEq,and_true,true_and] at hP;rw [hset];rw [if_pos ⟨hP.1.symm,hP.2.symm⟩];rfl
   rw [hset];rw [if_neg]
   rintro ⟨rfl,rfl⟩
   exact (hm 0 (by simp)).2 rfl
  cases he
 ·simp only [List.cons.injEq] at hP;simp [look,hP.1]
 exact ha (id',_) (Qe he) rfl
def Q3K:List Nat→List Mu→List (Nat × Ent)
 | id :: m,u :: ms=>(id,.row u.sz u.fs) :: Q3K m ms
 | _,_=>[]
theorem Q4u:∀ (m:List Nat) (ms:List Mu),m.length=ms.length→(Q3K m ms).map Prod.fst=m:=by
 intro m
 induction m with
 | nil=>intro ms _;cases ms<;>rfl
 | cons id m ih =>
  intro ms h;cases ms with
  | nil=>simp at h
  | cons u ms=>simp [Q3K,ih ms (by simpa using h)]
theorem Q9J:∀ (m:List Nat) (ms:List Mu) (r:Nat) (e:Ent),m.length=ms.length→look r (Q3K m ms)=some e→∃ j,j<ms.length∧m.getD j 0=r∧e = .row (ms.getD j .none).sz (ms.getD j .none).fs:=by
 intro m
 induction m with
 | nil=>intro ms r e _ h;cases ms<;>cases h
 | cons id m ih =>
  intro ms r e hl h;cases ms with
  | nil=>simp at hl
  | cons u ms =>
   simp only [Q3K,look] at h;split at h
   ·rename_i hr;cases h;exact ⟨0,by simp,by simpa using hr,rfl⟩
   obtain ⟨j,h1,h2,h3⟩:=ih ms r e (by simpa using hl) h;exact ⟨j+1,by simpa using h1,by simpa using h2,by simpa using h3⟩
theorem Q8P {m:List Nat} (hn:m.Nodup) {i j:Nat} (hi:i<m.length) (hj:j<m.length) (h:m.getD i 0=m.getD j 0):i=j:=by
 rw [qG,qG,qJ hi,qJ hj] at h;exact (List.getElem_inj hn).1 (by simpa using h)
theorem MCall.roots {st:St} {ms:List Mu} {m:List Nat} {dels:List Nat} (hl:m.length=ms.length) (hn:m.Nodup) (hr:∀ j,j<ms.length→look (m.getD j 0) st.h=some (.row (ms.getD j .none).sz (ms.getD j .none).es))
  (hlen:∀ j,j<ms.length→(ms.getD j .none).fs.length=(ms.getD j .none).es.length) (hd:∀ x∈dels,x<st.n) (ha:∀ p∈st.h,Q5W p.2=true→p.1∈dels) :
  MCall st.hp st.n ms m (fun j=>[m.getD j 0]) (Q3K m ms) dels:=by
 refine ⟨hl,fun j hj=>.root (hr j hj),fun i j hi hj hij hp=>?_,by rw [Q4u m ms hl];exact hn,fun r e he=>?_,fun j r M hj hP=>?_,hd,fun id' c i' k' s' hid he=>.inl ?_⟩
 ·have h1:m.getD i 0=m.getD j 0:=by simpa using hp
  exact hij (Q8P hn (by omega) (by omega) h1)
 ·obtain ⟨j,h1,h2,h3⟩:=Q9J m ms r e hl he;refine ⟨_,(ms.getD j .none).es,(ms.getD j .none).fs,by rw [← h2];exact hr j h1,h3,⟨fun j' hj' hP=>?_,hlen j h1,fun hne=>?_,fun i k j' hj' hP=>?_,fun i k hi hk hm=>?_⟩⟩
  ·have h4:m.getD j' 0=m.getD j 0:=(by rw [h2];simpa using hP);rw [Q8P hn (by omega) (by omega) h4]
  ·exact absurd (by rw [h2]) (hne j h1)
  ·simp at hP
  exact absurd (by rw [h2]) (hm j h1).1
 ·simp only [List.cons.injEq] at hP;have hk:r∈(Q3K m ms).map Prod.fst:=by
   rw [Q4u m ms hl,← hP.1,qG,qJ (by omega)];simp
  cases hlk:look r (Q3K m ms) with
  | some x=>rfl
  | none =>
   exfalso;obtain ⟨q,hq,hqe⟩:=List.mem_map.1 hk;obtain ⟨a,b⟩:=q;simp only at hqe;subst hqe;rw [QR (by rw [Q4u m ms hl];exact hn) hq] at hlk;cases hlk
 exact ha (id',_) (Qe he) rfl
theorem Q1E {P:Program} [Kd P] {all:Array Oper} {f:Nat} {id n:Nat} {v:Value} {u:Mu} {res:AV} {dst:Option Nat} {os:List Oper} {st:St} {K:St→Prop} (hc:MContract P f [.own 0 0 n,.val v] [u] res)
  (hr:look id st.h=some (.row u.sz u.es)) (ha:∀ p∈st.h,Q5W p.2=false) (h:QT P true all os (st.app dst { v:=res,set:=[(id,.row u.sz u.fs)] }) K):Q7Q P true all f [.own id 0 n,.val v] dst os st K:=by
 have h0:∀ j,j < [u].length→j=0:=fun j hj=>by simpa using hj
 refine Q5c (m:=[id]) hc (MCall.roots (dels:=[]) rfl (by simp) (fun j hj=>by have:=h0 j hj;subst this;exact hr) hc.len (by simp) (fun p hp hi=>by rw [ha p hp] at hi;cases hi)) rfl (fun q hq=>?_) (fun j hj=>⟨0,by simp,?_⟩) h
 ·match q,hq with
  | 0,_=>exact .own (j:=0) (by simp)
  | 1,_=>exact .val
 have:=h0 j hj;subst this;rfl
theorem stoA_row {P:Program} [Kd P] {mt:MT} {all:Array Oper} {t:TypeId} {ty:Tyi} {xv b:AV} {id i k sz:Nat} {es:List (List AV)} {ds:List Nat} {dst:Option Nat} {os:List Oper} {st:St} {K:St→Prop} (dels:List Nat) (h1:tyi P t=some ty) (h2:ty.sz=1)
  (he:look id st.h=some (.row sz es)) (hl:layC st.hp xv=some (b,ds)) (hi:i<es.length) (hk:k<sz) (hn:(id :: ds).Nodup) (hlt:∀ y∈ds++dels,y<st.n) (ha:∀ p∈st.h,Q5W p.2=true→p.1∈dels)
  (h:QT P mt all os (st.app dst { v:=.bot,set:=[(id,.row sz (es.set i ((es.getD i []).set k b)))],del:=ds++dels }) K):stoA P mt all t (.adr id i k) xv dst os st K :=
 Q9X dels h1 h2 ⟨he,hl,hi,hk,hn,hlt,fun id' _ _ _ _ _ h3=>.inl (ha (id',_) (Qe h3) rfl)⟩ h
attribute [simp] Q5W Q4t Q9I
end
section
attribute [local simp] Qd Qt Ql
theorem PurTo.aggL {h:HP} {xs ys:List AV} (hp:PurL h xs ys):PurTo h (.agg xs) (.agg ys):=.agg hp.1 hp.2
inductive MArgL (m:List Nat):List AV→List AV→Prop
 | nil:MArgL m [] []
 | cons {a b xs ys}:MArg m a b→MArgL m xs ys→MArgL m (a :: xs) (b :: ys)
theorem MArgL.get {m:List Nat} {xs ys:List AV} (h:MArgL m xs ys):xs.length=ys.length∧∀ k,k<ys.length→MArg m (xs.getD k .bot) (ys.getD k .bot):=by
 induction h with
 | nil=>exact ⟨rfl,fun k hk=>by simp at hk⟩
 | cons h _ ih =>
  refine ⟨by simp [ih.1],fun k hk=>?_⟩;cases k with
  | zero=>simpa using h
  | succ k=>simpa using ih.2 k (by simpa using hk)
theorem MArg.aggL {m:List Nat} {xs ys:List AV} (h:MArgL m xs ys):MArg m (.agg xs) (.agg ys):=.agg h.get.1 fun k hk=>h.get.2 k (by have:=h.get.1;omega)
inductive Roots (h:List (Nat × Ent)):List Nat→List Mu→Prop
 | nil:Roots h [] []
 | cons {id u m ms}:look id h=some (.row u.sz u.es)→Roots h m ms→Roots h (id :: m) (u :: ms)
theorem Roots.get {h:List (Nat × Ent)} {m:List Nat} {ms:List Mu} (hr:Roots h m ms):m.length=ms.length∧∀ j,j<ms.length→look (m.getD j 0) h=some (.row (ms.getD j .none).sz (ms.getD j .none).es):=by
 induction hr with
 | nil=>exact ⟨rfl,fun j hj=>by simp at hj⟩
 | cons h _ ih =>
  refine ⟨by simp [ih.1],fun k hk=>?_⟩;cases k with
  | zero=>simpa using h
  | succ k=>simpa using ih.2 k (by simpa using hk)
def occC (id:Nat):AV→Bool
 | .own i _ _=>Nat.beq i id
 | _=>false
def occB (id:Nat):AV→Bool
 | .own i _ _=>Nat.beq i id
 | .agg cs=>cs.any (occC id)
 | _=>false
theorem occC_own {id:Nat} {a:AV} (h:occC id a=true):∃ off n,a = .own id off n:=by
 unfold occC at h;split at h
 ·cases Nat.eq_of_beq_eq_true h;exact ⟨_,_,rfl⟩
 cases h
theorem occB_occ {id:Nat} {a:AV} (h:occB id a=true):Occ id a:=by
 unfold occB at h;split at h
 ·exact Nat.eq_of_beq_eq_true h
 ·rename_i cs;obtain ⟨x,hx,hc⟩:=List.any_eq_true.1 h;obtain ⟨l,hl,rfl⟩:=List.getElem_of_mem hx;obtain ⟨off,n,he⟩:=occC_own hc;exact ⟨l,hl,off,n,by simp [qG,hl,he]⟩
 cases h
theorem Q1O {P:Program} [Kd P] {all:Array Oper} {f:Nat} {az args:List AV} {m:List Nat} {ms:List Mu} {res:AV} {dst:Option Nat} {os:List Oper} {st:St} {K:St→Prop} (hc:MContract P f args ms res)
  (hn:m.Nodup) (hr:Roots st.h m ms) (ha:MArgL m az args) (ho:(m.all fun id=>az.any (occB id))=true) (hali:∀ p∈st.h,Q5W p.2=false)
  (h:QT P true all os (st.app dst { v:=res,set:=Q3K m ms }) K):Q7Q P true all f az dst os st K:=by
 refine Q5c (m:=m) hc (MCall.roots (dels:=[]) hr.get.1 hn hr.get.2 hc.len (by simp) (fun p hp hi=>by rw [hali p hp] at hi;cases hi)) ha.get.1 ha.get.2 (fun j hj=>?_) h;have hj':j<m.length:=by rw [hr.get.1];exact hj
 have:=List.all_eq_true.1 ho _ (List.getElem_mem hj');obtain ⟨a,ha1,ha2⟩:=List.any_eq_true.1 this;obtain ⟨k,hk,rfl⟩:=List.getElem_of_mem ha1;refine ⟨k,by rw [← ha.get.1];exact hk,?_⟩;have:=occB_occ ha2;simpa [qG,hj',hk] using this
inductive Ents (h:List (Nat × Ent)):Nat→List Mu→Prop
 | nil {j}:Ents h j []
 | cons {j u ms}:look j h=some (.row u.sz u.fs)→Ents h (j+1) ms→Ents h j (u :: ms)
theorem Ents.get {h:List (Nat × Ent)} {j:Nat} {ms:List Mu} (he:Ents h j ms):∀ i,i<ms.length→look (j+i) h=some (.row (ms.getD i .none).sz (ms.getD i .none).fs):=by
 induction he with
 | nil=>intro i hi;simp at hi
 | cons h _ ih =>
  intro i hi;cases i with
  | zero=>simpa using h
  | succ i=>have:=ih i (by simpa using hi);simpa [Nat.add_comm,Nat.add_left_comm] using this
theorem mret {ts:List Nat} {res:AV} {ms:List Mu} {st:St} (h1:Q9I ts st res) (h2:Ents st.h 0 ms):MRet ts res ms st:=⟨h1,fun j hj=>by simpa using h2.get j hj⟩
end
section
attribute [local simp] Qd Qt Ql
structure IRet (ts:List Nat) (H:List (Nat × Ent)) (n:Nat) (e:Eff) (st:St):Prop where
 res:Q14 (ts.map st.get)=e.v
 n:st.n=n+e.cnt
 h:st.h=Q4K e.set (Q42 e.del H)++e.new
def iretQ (ts:List Nat) (H:List (Nat × Ent)) (n:Nat) (e:Eff):Exit→St→Prop
 | .normal,st=>IRet ts H n e st
 | .ret,st=>IRet ts H n e st
 | _,_=>False
theorem res_rel {w:World} {R:Nat→Prop} {ρ:Nat→Option Bk} {tmps:Array Value} {st:St} (hx:∀ t,XRel w R ρ (tmps.getD t undef) (st.get t)) (ts:List Nat) :
  XRel w R ρ (Q2h (ts.map fun t=>tmps.getD t undef)) (Q14 (ts.map st.get)):=by
 match ts with
 | []=>exact .tup rfl fun k hk=>by simp at hk
 | [t]=>exact hx t
 | t :: u :: r =>
  simp only [qQ,Q2h,Q14];refine .tup (by simp) fun k hk=>?_;have hk':k<(t :: u :: r).length:=by simpa using hk
  have h1:((tmps.getD t undef :: tmps.getD u undef :: r.map fun t=>tmps.getD t undef).toArray).getD k undef=tmps.getD ((t :: u :: r)[k]) undef:=by
   have:(tmps.getD t undef :: tmps.getD u undef :: r.map fun t=>tmps.getD t undef)=(t :: u :: r).map fun t=>tmps.getD t undef:=rfl;rw [this];have hk2:k<(List.map (fun t=>tmps.getD t undef) (t :: u :: r)).toArray.size:=(by simpa using hk');rw [Array.getD_eq_getD_getElem?,Array.getElem?_eq_getElem hk2,qB];simp only [List.getElem_toArray,List.getElem_map]
  have h2:(st.get t :: st.get u :: r.map st.get).getD k .bot=st.get ((t :: u :: r)[k]):=by
   have:(st.get t :: st.get u :: r.map st.get)=(t :: u :: r).map st.get:=rfl;rw [this,qG,List.getElem?_map,qJ hk',Option.map_some,qB]
  rw [h1,h2];exact hx _
theorem Q69 {P:Program} [Kd P] {f:Nat} {fn:Func} {c:Code} {az:List AV} {ts:List Nat} {H:List (Nat × Ent)} {n:Nat} {e:Eff} (hf:P.funcs[f]? = some fn) (hb:fn.body=some c) (hrt:resT fn.results=some ts)
  (hname : (fn.name == "runtime.NumGoroutine") = false) (hN : az.length ≤ fn.ntmps) (hH : ∀ p ∈ H, p.1 < n) (hfine : e.fine n) (hnew : ∀ id, n ≤ id → id < n + e.cnt → id ∈ e.new.map Prod.fst)
  (h:∀ F:Fx,F.N=fn.ntmps→F.pins=n→Wp P F c (iretQ ts H n e) ⟨Q3i 0 az,H,n⟩):ICon P f az (fun id=>look id H) n e:=by
 refine ⟨⟨fn,hf,hname,by rw [hb];rfl⟩,fun _=>hfine,fun C w g h' vals hag hne hlim W HH hsz hargs=>?_⟩;refine Q2c hf hb ?_
 let C':Ctx:=⟨w,fun b=>∃ L,g.o b=some L,g.ρ,n⟩
 have hrel:Rel C' g.R fn.ntmps { tmps:=vals++Array.replicate (fn.ntmps - vals.size) undef,defers:=[] } w ⟨Q3i 0 az,H,n⟩:=by
  refine ⟨by simp;omega,rfl,fun id x hx=>hH (id,x) (Qe hx),g.o,g.ρ,⟨W.R,fun b L hb=>⟨(W.o b L hb).1,.inr ⟨L,hb⟩⟩,rfl,⟨rfl,qC _⟩,rfl,qC _,fun b _ _=>rfl⟩,
   HH.grow fun id k hk=>(hag id (hlim id k hk)).symm,fun t=>?_,hlim,fun id _=>rfl,qC _⟩
  simp only [St.get,Q2G]
  by_cases ht:t<az.length
  ·rw [if_pos (by omega)];simp only [Nat.sub_zero,qB];have h2:(vals++Array.replicate (fn.ntmps - vals.size) undef).getD t undef=vals.getD t undef:=by
    simp [qY,show t<vals.size by omega]
   rw [h2];exact hargs t ht
  rw [if_neg (by omega)];exact .bot
 refine Q4m (fun ex a w' hq=>?_) (h ⟨C',g.R,fn.ntmps,n,rfl⟩ rfl rfl _ w (.of hrel));obtain ⟨st,⟨R',hX,hr⟩,hq⟩:=hq;have fin:IRet ts H n e st→a.defers=[]∧∃ v,(results fn a.tmps).run P w' = .ok v w'∧∃ v' R' o' ρ',Ending.returned v = .returned v'∧RX g.R R' C.w0.heap.size∧WF C w' ⟨R',o',ρ'⟩∧HRel w' ⟨R',o',ρ'⟩ (happ e h')∧(∀ id k,g.ρ id=some k→ρ' id=some k) ∧
   (∀ id k,ρ' id=some k→g.ρ id=some k∨(n≤id∧id<n+e.cnt))∧XRel w' R' ρ' v' e.v∧(∀ b,g.R b→w'.heap[b]? = w.heap[b]?):=by
  intro hA;obtain ⟨_,hdef,_,o',ρ',W',HH',hx,hlt',hpin⟩:=hr;obtain ⟨a1,a2,a3⟩:=hA;have hρ1:∀ id,id<n→ρ' id=g.ρ id:=hpin.1;have hcC:∀ b,b<C.w0.heap.size→¬ C.wrb b→g.o b=none:=by
   intro b hb hw;cases ho:g.o b with
   | none=>rfl
   | some L =>
    rcases (W.o b L ho).2 with h|h
    ·omega
    exact absurd h hw
  have hkeep:∀ b,b<w.heap.size→g.o b=none→w'.heap[b]? = w.heap[b]?:=fun b hb ho=>W'.keep b hb (by rintro ⟨L,hL⟩;rw [ho] at hL;cases hL);refine ⟨hdef,_,Q3M hrt _,_,R',o',ρ',rfl,⟨hX.1,fun b hb=>(hX.2 b hb).imp id (qK W.size)⟩,⟨W'.R,fun b L hb=>⟨(W'.o b L hb).1,?_⟩,W'.os.trans W.os,tpt W'.tape W.tape,W'.output.trans W.output,qK W.size W'.size,fun b hb hw=>?_⟩,
   HH'.grow fun id k hk=>?_,fun id k hk=>(hρ1 id (hlim id k hk)).trans hk,fun id k hk=>?_,?_,fun b hb=>hkeep b (W.R b hb).1 (W.R b hb).2⟩
  ·rcases (W'.o b L hb).2 with h|⟨L',h⟩
   ·exact .inl (qK W.size h)
   exact (W.o b L' h).2
  ·exact (hkeep b (qD hb W.size) (hcC b hb hw)).trans (W.keep b hb hw)
  ·have hid:id<n+e.cnt:=(by rw [← a2];exact hlt' id k hk);have hl:look id st.h=match happ e (fun id=>look id H) id with|some x=>some x|none=>look id e.new:=by
    have:=Q6C (st:=⟨[],H,n⟩) none hfine id;simp only [St.app] at this;rw [a3];exact this
   show happ e h' id=look id st.h;rw [hl]
   by_cases hlt:id<n
   ·have hn:look id e.new=none:=by
     cases hq:look id e.new with
     | none=>rfl
     | some x=>have:=(hfine.new _ (Qe hq)).1;simp only at this;omega
    have he:happ e h' id=happ e (fun id=>look id H) id:=by
     simp only [happ,hag id hlt]
    rw [he,hn];cases happ e (fun id=>look id H) id<;>rfl
   obtain ⟨p,hp,hpe⟩:=List.mem_map.1 (hnew id (by omega) hid);have h1:happ e (fun id=>look id H) id=none:=by
    simp only [happ];have h2:look id e.set=none:=by
     cases hq:look id e.set with
     | none=>rfl
     | some x=>have:=hfine.sets.2 _ (Qe hq);simp only at this;omega
    have h3:look id H=none:=by
     cases hq:look id H with
     | none=>rfl
     | some x=>have:=hH _ (Qe hq);simp only at this;omega
    rw [h2,h3];simp
   have h2:happ e h' id=h' id:=by
    simp only [happ];have h2:look id e.set=none:=by
     cases hq:look id e.set with
     | none=>rfl
     | some x=>have:=hfine.sets.2 _ (Qe hq);simp only at this;omega
    rw [h2,if_neg];intro hd;have:=hfine.del id hd;omega
   rw [h1,h2];obtain ⟨i,x⟩:=p;simp only at hpe;subst hpe;rw [hne _ hp,QR hfine.nodup hp]
  ·by_cases hlt:id<n
   ·exact .inl ((hρ1 id hlt).symm.trans hk)
   exact .inr ⟨by omega,by rw [← a2];exact hlt' id k hk⟩
  rw [← a1];exact res_rel hx ts
 cases ex with
 | normal=>exact fin hq
 | ret=>exact fin hq
 | _=>exact hq.elim
end
section
attribute [local simp] Qd Qt Ql
inductive RGet (P:Program) (st:St):List ResultVar→List AV→Prop
 | nil:RGet P st [] []
 | tmp {t r az}:RGet P st r az→RGet P st (.tmp t :: r) (st.get t :: az)
 | cell {a t ty id i k sz es r az}:tyi P t=some ty→ty.agg=true→st.get a = .adr id i k→look id st.h=some (.mix sz es)→i<es.length→k+ty.sz≤sz→RGet P st r az →
   RGet P st (.cell a t :: r) (.agg (((es.getD i []).drop k).take ty.sz) :: az)
 | cell1 {a t ty id i k sz es r az}:tyi P t=some ty→ty.agg=false→0<ty.sz→st.get a = .adr id i k→look id st.h=some (.mix sz es)→i<es.length→k+ty.sz≤sz→RGet P st r az →
   RGet P st (.cell a t :: r) ((es.getD i []).getD k .bot :: az)
def resM (tmps:Array Value):ResultVar→Sem Value
 | .tmp t=>pure (tmps.getD t undef)
 | .cell a t=>do loadVar t (← asAddr (tmps.getD a undef))
theorem rget_run {P:Program} [Kd P] {R:Nat→Prop} {w:World} {st:St} {o:Nat→Option (List Nat)} {ρ:Nat→Option Bk} (H:HRel w ⟨R,o,ρ⟩ st.hp) {tmps:Array Value} (hx:∀ t,XRel w R ρ (tmps.getD t undef) (st.get t))
  {rvs:List ResultVar} {az:List AV} (hg:RGet P st rvs az):∃ vs:List Value,(rvs.mapM (resM tmps)).run P w = .ok vs w∧vs.length=az.length∧∀ k,k<az.length→XRel w R ρ (vs.getD k undef) (az.getD k .bot):=by
 induction hg with
 | nil=>exact ⟨[],by simp,rfl,fun k hk=>by simp at hk⟩
 | @tmp t r az _ ih =>
  obtain ⟨vs,h1,h2,h3⟩:=ih;refine ⟨tmps.getD t undef :: vs,by simp [List.mapM_cons,resM,h1],by simp [h2],fun k hk=>?_⟩;cases k with
  | zero=>exact hx t
  | succ k=>exact h3 k (by simpa using hk)
 | @cell a t ty id i k sz es r az hty hag ha hl hi hk _ ih =>
  obtain ⟨vs,h1,h2,h3⟩:=ih;have hxa:=hx a;rw [ha] at hxa;obtain ⟨b,bsz,cap,hbk,hv⟩:=hxa.adr_eq;obtain ⟨b',cur,el,us,cpm,hbk',ho',hh,hsz',hcp,hml,hlen,hcur,hone,hxr⟩:=(H.mix id sz es _ hl hbk).ex (by simp);simp only [Bk.mk.injEq,qA] at hbk';obtain ⟨rfl,rfl,_⟩:=hbk';have hrun:=Q3L (P:=P) (w:=w) hty (b:=b) (x:=i * bsz+k) (us:=fun j=>us i (k+j)) (fun j hj=>by
   rw [Q15 hh,Nat.add_assoc];exact hcur i (k+j) hi (by omega))
  rw [hag] at hrun;simp only [cond_true] at hrun;have hlen2:(((es.getD i []).drop k).take ty.sz).length=ty.sz:=by rw [List.length_take,List.length_drop,hlen i hi];omega
  have hX:XRel w R ρ (.agg ((List.range ty.sz).map fun j=>us i (k+j)).toArray) (.agg (((es.getD i []).drop k).take ty.sz)):=by
   refine .agg (by rw [hlen2];simp) ?_ ?_
   ·intro j hj;rw [hlen2] at hj;rw [Q1c _ _ _ hj];exact hone _ _ hi (by omega)
   intro j hj;rw [hlen2] at hj;rw [Q1c _ _ _ hj];have:=hxr i (k+j) hi (by omega);simpa [qG,List.getElem?_take,List.getElem?_drop,hj] using this
  have hv2:tmps.getD a undef = .pointer (some ⟨b,i * bsz+k,none⟩):=hv;refine ⟨.agg ((List.range ty.sz).map fun j=>us i (k+j)).toArray :: vs,?_,by simp [h2],fun j hj=>?_⟩
  ·rw [List.mapM_cons];simp [resM,hv2,asAddr,hrun,h1]
  cases j with
  | zero=>exact hX
  | succ j=>exact h3 j (by simpa using hj)
 | @cell1 a t ty id i k sz es r az hty hag h0 ha hl hi hk _ ih =>
  obtain ⟨vs,h1,h2,h3⟩:=ih;have hxa:=hx a;rw [ha] at hxa;obtain ⟨b,bsz,cap,hbk,hv⟩:=hxa.adr_eq;obtain ⟨b',cur,el,us,cpm,hbk',ho',hh,hsz',hcp,hml,hlen,hcur,hone,hxr⟩:=(H.mix id sz es _ hl hbk).ex (by simp);simp only [Bk.mk.injEq,qA] at hbk';obtain ⟨rfl,rfl,_⟩:=hbk';have hrun:=Q3L (P:=P) (w:=w) hty (b:=b) (x:=i * bsz+k) (us:=fun j=>us i (k+j)) (fun j hj=>by
   rw [Q15 hh,Nat.add_assoc];exact hcur i (k+j) hi (by omega))
  rw [hag] at hrun;simp only [cond_false,Nat.add_zero] at hrun;have hv2:tmps.getD a undef = .pointer (some ⟨b,i * bsz+k,none⟩):=hv;refine ⟨us i k :: vs,?_,by simp [h2],fun j hj=>?_⟩
  ·rw [List.mapM_cons];simp [resM,hv2,asAddr,hrun,h1]
  cases j with
  | zero=>exact hxr i k hi (by omega)
  | succ j=>exact h3 j (by simpa using hj)
theorem Q7y {P:Program} [Kd P] {w:World} {fn:Func} {rvs:List ResultVar} {tmps:Array Value} {vs:List Value} (hr:fn.results=rvs.toArray) (h:(rvs.mapM (resM tmps)).run P w = .ok vs w):(results fn tmps).run P w = .ok (Q2h vs) w:=by
 have e:results fn tmps=(do let vs ← fn.results.mapM (resM tmps);pure (if h:vs.size=1 then vs[0] else .tuple vs)):=by
  unfold results
  congr 1
 rw [e,hr,List.mapM_toArray];simp only [map_eq_pure_bind];simp [h];rcases vs with _|⟨v,_|⟨u,r⟩⟩
 ·simp [Q2h]
 ·simp [Q2h]
 simp [Q2h]
structure RetG (P:Program) (rvs:List ResultVar) (st:St) (rs:List AV):Prop where
 ex:∃ az,RGet P st rvs az∧RetV az st rs
def retGQ (P:Program) (rvs:List ResultVar) (rs:List AV):Exit→St→Prop
 | .normal,st=>RetG P rvs st rs
 | .ret,st=>RetG P rvs st rs
 | _,_=>False
theorem Q4S {P:Program} [Kd P] {f:Nat} {fn:Func} {c:Code} {args:List AV} {rvs:List ResultVar} {rs:List AV} {res:AV} (hf:P.funcs[f]? = some fn) (hb:fn.body=some c) (hrt:fn.results=rvs.toArray) (hrs:res=Q14 rs)
  (hname : (fn.name == "runtime.NumGoroutine") = false) (hN : args.length ≤ fn.ntmps) (h : ∀ F : Fx, F.N = fn.ntmps → F.pins = 0 → (∀ b, ¬ F.C.wrb b) → Wp P F c (retGQ P rvs rs) ⟨Q3i 0 args, [], 0⟩) : Contract P f args res := by
 subst hrs;refine ⟨⟨fn,hf,hname,by rw [hb];rfl⟩,fun w R vals hR hsz hx=>?_⟩;refine Q2c hf hb ?_
 let C:Ctx:=⟨w,fun _=>False,fun _=>none,0⟩
 have hrel:Rel C R fn.ntmps { tmps:=vals++Array.replicate (fn.ntmps - vals.size) undef,defers:=[] } w ⟨Q3i 0 args,[],0⟩:=by
  refine ⟨by simp;omega,rfl,(fun id x h=>by cases h),fun _=>none,noρ,⟨fun b hb=>⟨hR b hb,rfl⟩,(fun b L hb=>by cases hb),rfl,⟨rfl,qC _⟩,rfl,qC _,fun b _ _=>rfl⟩,⟨(fun id sz es bk _ hb=>by cases hb),(fun id sz es bk _ hb=>by cases hb),(fun id c i k sz bk _ hb=>by cases hb),(fun id kd es bk _ hb=>by cases hb)⟩,fun t=>?_,(fun id k hk=>by cases hk),(fun id hid=>by cases hid),qC _⟩;simp only [St.get,Q2G]
  by_cases ht:t<args.length
  ·rw [if_pos (by omega)];simp only [Nat.sub_zero,qB];have:=hx t ht;have h2:(vals++Array.replicate (fn.ntmps - vals.size) undef).getD t undef=vals.getD t undef:=by
    simp [qY,show t<vals.size by omega]
   rw [h2];exact this
  rw [if_neg (by omega)];exact .bot
 refine Q4m (fun e a w' hq=>?_) (h ⟨C,R,fn.ntmps,0,rfl⟩ rfl rfl (fun _ h=>h) _ w (.of hrel));obtain ⟨st,⟨R',hX,hr⟩,hq⟩:=hq;have fin:RetG P rvs st rs→a.defers=[]∧∃ v,(results fn a.tmps).run P w' = .ok v w'∧∃ v' o,Ending.returned v = .returned v'∧Blw w.heap.size w w'∧(∀ b L,o b=some L→w.heap.size≤b∧b<w'.heap.size)∧Res w' o v' (Q14 rs):=by
  intro hA;obtain ⟨az,hg,hv⟩:=hA.ex;obtain ⟨_,hdef,_,o,ρ,W,H,hxx,_⟩:=hr;obtain ⟨vs,h1,h2,h3⟩:=rget_run H hxx hg;obtain ⟨q1,o1,q2,q3⟩:=Q6M W H rfl hv (vs:=vs) h2 h3;exact ⟨hdef,_,Q7y hrt h1,_,o1,rfl,q1,q2,q3⟩
 cases e with
 | normal=>exact fin hq
 | ret=>exact fin hq
 | _=>exact hq.elim
theorem Qm {P:Program} [Kd P] {f:Nat} {fn:Func} {c:Code} {args:List AV} {rvs:List ResultVar} {rs:List AV} {res:AV} (hf:P.funcs[f]? = some fn) (hb:fn.body=some c) (hrt:fn.results=rvs.toArray) (hrs:res=Q14 rs)
  (hname : (fn.name == "runtime.NumGoroutine") = false) (hN : args.length ≤ fn.ntmps) (h : ∀ F : Fx, F.N = fn.ntmps → F.pins = 0 → Wp P F c (retGQ P rvs rs) ⟨Q3i 0 args, [], 0⟩) : Contract P f args res :=
 Q4S hf hb hrt hrs hname hN fun F h1 h2 _=>h F h1 h2
end
section
attribute [local simp] Qd Qt Ql
def nlA (news:List (Nat × Nat)) (a b:AV):Prop:=a=b∨(a = .val (.slice none 0 0)∧∃ q∈news,b = .own q.1 0 0)
def nlL (news:List (Nat × Nat)):List AV→List AV→Prop
 | [],[]=>True
 | a :: r,b :: s=>nlA news a b∧nlL news r s
 | _,_=>False
def entN (news:List (Nat × Nat)):Ent→Ent→Prop
 | .mix sz [cs],.mix sz' [ds]=>sz=sz'∧nlL news cs ds
 | .mix sz [],.row sz' es=>sz=sz'∧es=[]
 | e,e'=>e=e'
theorem nlL_get {news:List (Nat × Nat)}:∀ {cs ds:List AV},nlL news cs ds→cs.length=ds.length∧∀ k,k<cs.length→nlA news (cs.getD k .bot) (ds.getD k .bot):=by
 intro cs
 induction cs with
 | nil=>intro ds h;cases ds with
  | nil=>exact ⟨rfl,fun k hk=>by simp at hk⟩
  | cons=>exact h.elim
 | cons a r ih =>
  intro ds h;cases ds with
  | nil=>exact h.elim
  | cons b s =>
   obtain ⟨h1,h2⟩:=h;obtain ⟨h3,h4⟩:=ih h2;refine ⟨by simp [h3],fun k hk=>?_⟩;cases k with
   | zero=>simpa using h1
   | succ k=>simpa using h4 k (by simpa using hk)
theorem Q2D {news:List (Nat × Nat)} {e e':Ent} (h:entN news e e'):e=e'∨(∃ sz cs ds,e = .mix sz [cs]∧e' = .mix sz [ds]∧nlL news cs ds)∨(∃ sz,e = .mix sz []∧e' = .row sz []):=by
 unfold entN at h;split at h
 ·obtain ⟨rfl,h⟩:=h;exact .inr (.inl ⟨_,_,_,rfl,rfl,h⟩)
 ·obtain ⟨rfl,rfl⟩:=h;exact .inr (.inr ⟨_,rfl,rfl⟩)
 exact .inl h
theorem Wk.nils {F:Fx} {st st':St} (news:List (Nat × Nat)) (hn:∀ p∈news,st.n≤p.1∧p.1<st'.n) (hle:st.n≤st'.n) (hs:∀ p∈st'.s,nlA news (st.get p.1) p.2∨p.2 = .bot)
  (hh:∀ p∈st'.h,(∃ q∈news,p=(q.1,.row q.2 []))∨∃ e,look p.1 st.h=some e∧entN news e p.2) (hnd:(news.map Prod.fst).Nodup):Wk F st st':=by
 refine Wk.mk fun R a w hr=>?_;obtain ⟨r1,r2,r3,o,ρ,W,H,hx,hρ,hp⟩:=hr
 let ρ':Nat→Option Bk:=fun id=>match look id news with|some sz=>some ⟨none,sz,0⟩|none=>ρ id
 have hnone:∀ q∈news,ρ q.1=none:=by
  intro q hq;cases h:ρ q.1 with
  | none=>rfl
  | some k=>have:=hρ _ _ h;have:=(hn q hq).1;omega
 have hold:∀ id k,ρ id=some k→ρ' id=some k:=by
  intro id k hk;simp only [ρ'];cases hl:look id news with
  | none=>exact hk
  | some sz=>have:=hnone _ (Qe hl);simp only at this;rw [hk] at this;cases this
 have hnew:∀ q∈news,ρ' q.1=some ⟨none,q.2,0⟩:=by
  intro q hq;simp only [ρ'];rw [QR hnd hq]
 have hA:∀ {v:Value} {x y:AV},XRel w R ρ v x→nlA news x y→XRel w R ρ' v y:=by
  intro v x y hv h;rcases h with rfl|⟨rfl,q,hq,rfl⟩
  ·exact hv.mono (fun b hb=>⟨hb,rfl⟩) hold
  obtain ⟨rfl,_⟩:=hv.val_eq;exact .own0 (hnew q hq)
 have hent:∀ id e',st'.hp id=some e'→(∃ q∈news,id=q.1∧e' = .row q.2 [])∨∃ e,st.hp id=some e∧entN news e e':=by
  intro id e' h;rcases hh (id,e') (Qe h) with ⟨q,hq,he⟩|h
  ·simp only [qH] at he;exact .inl ⟨q,hq,he.1,he.2⟩
  exact .inr h
 have hback:∀ id bk,ρ' id=some bk→(∃ q∈news,id=q.1∧bk=⟨none,q.2,0⟩)∨(ρ id=some bk∧∀ q∈news,id ≠ q.1):=by
  intro id bk h;simp only [ρ'] at h;cases hl:look id news with
  | some sz=>rw [hl] at h;simp only [qA] at h;exact .inl ⟨(id,sz),Qe hl,rfl,h.symm⟩
  | none =>
   rw [hl] at h;refine .inr ⟨h,fun q hq he=>?_⟩;subst he;rw [QR hnd hq] at hl;cases hl
 have hcont:∀ (d c:Nat) (szc:Nat) (esc:List (List AV)) (bk:Bk),ρ c=some bk→cont st'.hp d c=some (szc,esc)→Qw (st'.hp c)=false→esc=[]∨(cont st.hp d c=some (szc,esc)∧Qw (st.hp c)=false):=by
  intro d
  induction d with
  | zero=>intro c szc esc bk _ h;cases h
  | succ d ih =>
   intro c szc esc bk hb hc hm;unfold cont at hc ⊢;cases he:st'.hp c with
   | none=>simp [he] at hc
   | some e' =>
    rw [he] at hc hm;rcases hent c e' he with ⟨q,hq,rfl,rfl⟩|⟨e,h1,h2⟩
    ·rw [hnone q hq] at hb;cases hb
    rcases Q2D h2 with rfl|⟨sz,cs,ds,rfl,rfl,_⟩|⟨sz,rfl,rfl⟩
    ·cases e with
     | mix=>cases hm
     | mapE=>cases hc
     | row sz es=>exact .inr ⟨by rw [h1];exact hc,by rw [h1];rfl⟩
     | ali c2 i2 k2 s2 =>
      rw [h1];simp only at hc ⊢;split at hc
      ·cases hc
      rename_i hm2;cases hc2:cont st'.hp d c2 with
      | none=>simp [hc2] at hc
      | some p =>
       obtain ⟨sz2,es2⟩:=p;obtain ⟨_,bk2,hb2,_⟩:=H.ali c c2 i2 k2 s2 bk h1 hb;rw [hc2] at hc;rcases ih c2 sz2 es2 bk2 hb2 hc2 (by simpa using hm2) with rfl|⟨q1,q2⟩
       ·simp at hc
       right;rw [q2,q1];exact ⟨hc,rfl⟩
    ·cases hm
    simp only [qA,qH] at hc;exact .inl hc.2.symm
 refine ⟨r1,r2,fun id x hx=>?_,o,ρ',⟨W.R,W.o,W.os,W.tape,W.output,W.size,W.keep⟩,⟨fun id sz es bk he hb=>?_,fun id sz es bk he hb=>?_,fun id c i k sz bk he hb=>?_,fun id kd es bk he hb=>?_⟩,fun t=>?_,fun id k hk=>?_,fun id hid=>?_,qK hp.2 hle⟩;rotate_left 4
 ·rcases hent id _ he with ⟨q,hq,rfl,h⟩|⟨e,h1,h2⟩
  ·cases h
  rcases hback id bk hb with ⟨q,hq,rfl,rfl⟩|⟨hb',_⟩
  ·exact absurd (r3 _ e h1) (by have:=(hn q hq).1;omega)
  rcases Q2D h2 with rfl|⟨s1,cs,ds,rfl,hd,hl⟩|⟨s1,rfl,hd⟩
  ·exact H.map id kd es bk h1 hb'
  ·cases hd
  cases hd
 rotate_left 3
 ·rcases hent id x hx with ⟨q,hq,rfl,_⟩|⟨e,he,_⟩
  ·exact (hn q hq).2
  exact qD (r3 id e he) hle
 ·rcases hent id _ he with ⟨q,hq,rfl,h⟩|⟨e,h1,h2⟩
  ·cases h
  rcases hback id bk hb with ⟨q,hq,rfl,rfl⟩|⟨hb',_⟩
  ·exact absurd (r3 _ e h1) (by have:=(hn q hq).1;omega)
  rcases Q2D h2 with rfl|⟨s1,cs,ds,rfl,hd,hl⟩|⟨s1,rfl,hd⟩
  ·rcases (H.mix id sz es bk h1 hb').ex0 with h0|⟨b,cur,el,us,cpm,q1,q2,q3,q4,q5,q5',q6,q7,q8,q9⟩
   ·exact ⟨.inl h0⟩
   exact .mk' ⟨b,cur,el,us,cpm,q1,q2,q3,q4,q5,q5',q6,q7,q8,fun i k hi hk=>(q9 i k hi hk).mono (fun b hb=>⟨hb,rfl⟩) hold⟩
  ·cases hd;rcases (H.mix id sz _ bk h1 hb').ex0 with ⟨h0,_⟩|⟨b,cur,el,us,cpm,q1,q2,q3,q4,q5,q5',q6,q7,q8,q9⟩
   ·cases h0
   obtain ⟨g1,g2⟩:=nlL_get hl;refine .mk' ⟨b,cur,el,us,cpm,q1,q2,q3,q4,by simpa using q5,q5',fun i hi=>?_,q7,q8,fun i k hi hk=>?_⟩
   ·have h0:i=0:=(by simp at hi;omega);subst h0;have:=q6 0 (by simp);simpa [← g1] using this
   have h0:i=0:=(by simp at hi;omega);subst h0;have h6:=q6 0 (by simp);simp only [List.getD_cons_zero] at h6;refine hA (q9 0 k (by simp) hk) ?_;simpa using g2 k (by omega)
  cases hd
 ·rcases hent id _ he with ⟨q,hq,rfl,h⟩|⟨e,h1,h2⟩
  ·cases h;have:=(show ρ' q.1=some bk from hb).symm.trans (hnew q hq);cases this;exact ⟨_,.nil,.nil⟩
  rcases hback id bk hb with ⟨q,hq,rfl,rfl⟩|⟨hb',_⟩
  ·exact absurd (r3 _ e h1) (by have:=(hn q hq).1;omega)
  rcases Q2D h2 with rfl|⟨s1,cs,ds,rfl,hd,hl⟩|⟨s1,rfl,hd⟩
  ·exact H.row id sz es bk h1 hb'
  ·cases hd
  cases hd;rcases (H.mix id sz [] bk h1 hb').ex0 with ⟨_,cp0,rfl⟩|⟨b,cur,el,us,cpm,q1,q2,q3,q4,q5,q5',q6,q7,q8,q9⟩
  ·exact ⟨_,.nil,.nil⟩
  subst q1;exact ⟨.slice (some ⟨b,0,none⟩) 0 cpm,.own (es:=[]) us q2 q3 q4 (Nat.zero_le _) q5' (fun i hi=>by simp at hi) (fun i k hi=>by simp at hi) (fun i k hi=>by simp at hi) (fun i k hi=>by simp at hi),.own⟩
 ·rcases hent id _ he with ⟨q,hq,rfl,h⟩|⟨e,h1,h2⟩
  ·cases h
  rcases hback id bk hb with ⟨q,hq,rfl,rfl⟩|⟨hb',_⟩
  ·exact absurd (r3 _ e h1) (by have:=(hn q hq).1;omega)
  rcases Q2D h2 with rfl|⟨s1,cs,ds,rfl,hd,hl⟩|⟨s1,rfl,hd⟩
  ·obtain ⟨q1,bkc,q2,q3⟩:=H.ali id c i k sz bk h1 hb';refine ⟨q1,bkc,hold _ _ q2,fun d szc esc hc hm hi hk=>?_⟩;rcases hcont d c szc esc bkc q2 hc hm with rfl|⟨g1,g2⟩
   ·simp at hi
   exact q3 d szc esc g1 g2 hi hk
  ·cases hd
  cases hd
 ·cases hl:look t st'.s with
  | none=>simp only [St.get,hl,Option.getD_none];exact .bot
  | some v =>
   simp only [St.get,hl,qB];rcases hs _ (Qe hl) with h|h
   ·exact hA (hx t) h
   simp only at h;rw [h];exact .bot
 ·rcases hback id k hk with ⟨q,hq,rfl,_⟩|⟨h,_⟩
  ·exact (hn q hq).2
  exact qD (hρ id k h) hle
 show ρ' id=_;have hlt:id<st.n:=qD hid hp.2;rw [← hp.1 id hid];simp only [ρ'];cases hl:look id news with
 | none=>rfl
 | some sz=>have:=(hn _ (Qe hl)).1;simp only at this;omega
def hhOk (m:List (Nat × Nat)) (h:List (Nat × Ent)) (j:Nat) (e':Ent):Prop:=(((look j (back m)).bind fun i=>look i h).bind (rlE m))=some e'
theorem Wk.rel {F:Fx} {st st':St} (m:List (Nat × Nat)) (h1:(m.map Prod.fst).Nodup) (h2:(m.map Prod.snd).Nodup) (hpin:∀ id,id<F.pins→look id m=some id) (hn:∀ p∈m,p.2<st'.n)
  (hok:∀ p∈st'.h,p.1<st'.n) (hs:∀ p∈st'.s,p.2=rl m (st.get p.1)∨p.2 = .bot) (hh:∀ p∈st'.h,hhOk m st.h p.1 p.2):Wk F st st':=by
 refine Wk.relabel m h1 h2 hpin hn hok hs fun p hp=>?_;have:=hh p hp;unfold hhOk at this;obtain ⟨e,he,hr⟩:=Option.bind_eq_some_iff.1 this;obtain ⟨i,hi,hl⟩:=Option.bind_eq_some_iff.1 he;exact ⟨i,e,Q2x h1 hi,hl,hr⟩
theorem join {P:Program} [Kd P] {F:Fx} {y:Code} {AQ:Exit→St→Prop} {K:St→Prop} {G:Prop} (hK:∀ st',Wp P F y AQ st'→K st') (S:Bool→St) (C:Prop) (h1:(∀ b:Bool,(b=true↔C)→∀ st',Wk F st' (S b)→K st')→G)
  (h2:∀ b:Bool,(b=true↔C)→Wp P F y AQ (S b)):G:=h1 fun b hb st' hw=>hK st' (Qa hw (h2 b hb))
end
section
attribute [local simp] Qd Qt Ql
theorem PurTo.field {h:HP} {id k sz:Nat} {row cs:List AV} (he:h id=some (.mix sz [row])) (hl:k+cs.length≤sz) (hp:PurL h ((row.drop k).take cs.length) cs):PurTo h (.adr id 0 k) (.rptr cs) :=
 .adr he (by simp) hl fun j hj=>by
  have:=hp.2 j (by rw [hp.1];exact hj);simpa [qG,List.getElem?_take,List.getElem?_drop,hj] using this
inductive PurLL (h:HP) (sz:Nat):List (List AV)→List (List AV)→Prop
 | nil:PurLL h sz [] []
 | cons {r s rs ss}:s.length=sz→PurL h r s→PurLL h sz rs ss→PurLL h sz (r :: rs) (s :: ss)
theorem PurLL.get {h:HP} {sz:Nat} {rs ss:List (List AV)} (hp:PurLL h sz rs ss):rs.length=ss.length∧∀ i,i<ss.length→(ss.getD i []).length=sz∧PurL h (rs.getD i []) (ss.getD i []):=by
 induction hp with
 | nil=>exact ⟨rfl,fun i hi=>by simp at hi⟩
 | cons h1 h2 _ ih =>
  refine ⟨by simp [ih.1],fun i hi=>?_⟩;cases i with
  | zero=>exact ⟨h1,h2⟩
  | succ i=>simpa using ih.2 i (by simpa using hi)
theorem PurTo.lits {h:HP} {id n sz:Nat} {u:Bool} {es fs:List (List AV)} (he:h id=some (.mix sz es)) (hp:PurLL h sz es fs) (hn:n=fs.length):PurTo h (.own id 0 n) (.lst u sz fs):=by
 subst hn;refine .mix he (by rw [hp.get.1];omega) rfl (fun i hi=>(hp.get.2 i hi).1) fun i k hi hk=>?_;have:=hp.get.2 i hi;rw [Nat.zero_add];exact this.2.2 k (by rw [this.2.1,this.1];exact hk)
end
section
attribute [local simp] Qd Qt Ql
noncomputable def ass {α:Type} (p:Prop) (k:Option α):Option α:=@ite _ p (Classical.propDecidable p) k none
theorem Q5 {α:Type} {p:Prop} {k:Option α} {r:α} (h:ass p k=some r):p∧k=some r:=by
 unfold ass at h;split at h
 ·exact ⟨‹_›,h⟩
 cases h
theorem Q9 {α:Type} {p:Prop} {k:Option α} (h:p):ass p k=k:=by unfold ass;rw [if_pos h]
inductive Ctl (σ ε:Type) where
 | next (s:σ)
 | ret (e:ε)
def QK {σ ε:Type} (body:σ→Option (Ctl σ ε)):Nat→σ→Option ε
 | 0,_=>none
 | n+1,s=>match body s with
  | some (.next s')=>QK body n s'
  | some (.ret e)=>some e
  | none=>none
theorem bind_some {α β:Type} {x:Option α} {f:α→Option β} {r:β} (h:x.bind f=some r):∃ v,x=some v∧f v=some r:=Option.bind_eq_some_iff.1 h
theorem if_l {α:Type} {p:Prop} [Decidable p] {a b:Option α} {r:α} (g:p) (h:(if p then a else b)=some r):a=some r:=by rw [if_pos g] at h;exact h
theorem if_r {α:Type} {p:Prop} [Decidable p] {a b:Option α} {r:α} (g:¬ p) (h:(if p then a else b)=some r):b=some r:=by rw [if_neg g] at h;exact h
def contF {σ ε:Type} (body:σ→Option (Ctl σ ε)) (k:Nat) (e:ε):Ctl σ ε→Prop
 | .next s'=>QK body k s'=some e
 | .ret e'=>e'=e
def Q95 {σ:Type} (F:Fx) (S:σ→St) (G:σ→Prop) (AQ:Exit→St→Prop):Exit→St→Prop
 | .normal,st=>∃ s',G s'∧Wk F st (S s')
 | e,st=>AQ e st
section
variable {P:Program} [Kd P] {mt:MT} {F:Fx} {AQ:Exit→St→Prop} {st:St}
theorem Wp.mono {c:Code} {AQ':Exit→St→Prop} (h:∀ e st,AQ e st→AQ' e st) (hw:Wp P F c AQ st):Wp P F c AQ' st:=by
 intro a w hr;refine Q5N (hw a w hr) fun e a w he=>?_;obtain ⟨st',h1,h2⟩:=he;exact ⟨st',h1,h _ _ h2⟩
theorem Q65 {st1 st3:St} (st2:St) (h1:Wk F st1 st2) (h2:Wk F st2 st3):Wk F st1 st3:=fun a w h=>h2 a w (h1 a w h)
theorem QW {σ ε:Type} {c:Code} {body:σ→Option (Ctl σ ε)} {N:Nat} {s0:σ} {e:ε} (h:QK body N s0=some e) (S:σ→St) (hk:Wk F st (S s0))
  (round:∀ (k:Nat) (s:σ) (c':Ctl σ ε),body s=some c'→contF body k e c'→Wp P F c (Q95 F S (fun s'=>QK body k s'=some e) AQ) (S s)):Wp P F (.loop c) AQ st:=by
 refine Qr (fun p:Nat × σ=>S p.2) (fun p=>QK body p.1 p.2=some e) (fun p=>p.1) (N,s0) h hk ?_
 rintro ⟨k,s⟩ hl
 cases k with
 | zero=>cases hl
 | succ k =>
  simp only [QK] at hl;cases hb:body s with
  | none=>rw [hb] at hl;cases hl
  | some c' =>
   have hc:contF body k e c':=by
    rw [hb] at hl;cases c' with
    | next s'=>exact hl
    | ret e'=>simpa [contF] using hl
   refine Wp.mono ?_ (round k s c' hb hc);intro ex st' hq;cases ex with
   | normal =>
    obtain ⟨s',h1,h2⟩:=hq;exact ⟨(k,s'),h1,Nat.lt_succ_self k,h2⟩
   | _=>exact hq
theorem Qz {β:Type} {x y:Code} (J:β→St) (C:β→Prop) (h2:Wp P F x (Q3S (fun st=>∃ b,C b∧Wk F st (J b)) AQ) st) (h1:∀ b,C b→Wp P F y AQ (J b)):Wp P F x (Q3S (Wp P F y AQ) AQ) st:=by
 refine Wp.mono ?_ h2;intro ex st' hq;cases ex with
 | normal =>
  obtain ⟨b,hc,hw⟩:=hq;exact Qa hw (h1 b hc)
 | _=>exact hq
theorem Q1a {all:Array Oper} {os:List Oper} {dst:Option Nat} {K:St→Prop} {op:Op} {t:Nat} {want:Bool} {b:Bool}
  (h1:b=want→runO P mt all os dst (st.put t (.val (.bool want))) K op) (h2:b=(!want)→QT P mt all os ((st.put t (.val (.bool !want))).app dst { v:=.tup [] }) K) :
  Q4C P mt all os dst st K op t want (.val (.bool b)):=by
 rw [Qd];exact ⟨h1,h2⟩
end
section
variable {P:Program} [Kd P] {F:Fx} {AQ:Exit→St→Prop} {st:St} {i id:Nat}
theorem tn {K:St→Prop} (h:K st):Q3S K AQ .normal st:=h
theorem tx {K:St→Prop} (h:AQ (.exit i) st):Q3S K AQ (.exit i) st:=h
theorem tr {K:St→Prop} (h:AQ .ret st):Q3S K AQ .ret st:=h
theorem bn (h:AQ .normal st):Q5b id AQ .normal st:=h
theorem bh (h:AQ .normal st):Q5b id AQ (.exit id) st:=by simp only [Q5b,if_pos];exact h
theorem br (h:AQ .ret st):Q5b id AQ .ret st:=h
theorem lx {σ:Type} {S:σ→St} {G:σ→Prop} (h:AQ (.exit i) st):Q95 F S G AQ (.exit i) st:=h
theorem lr {σ:Type} {S:σ→St} {G:σ→Prop} (h:AQ .ret st):Q95 F S G AQ .ret st:=h
theorem rn {σ:Type} {S:σ→St} {G:σ→Prop} {s':σ} (h1:G s') (h2:Wk F st (S s')):Q95 F S G AQ .normal st:=⟨s',h1,h2⟩
theorem jn {β:Type} {J:β→St} {C:β→Prop} {b:β} (h1:C b) (h2:Wk F st (J b)):Q3S (fun st=>∃ b,C b∧Wk F st (J b)) AQ .normal st:=⟨b,h1,h2⟩
end
theorem Wk.r1 {F:Fx} {st st':St} (m:List (Nat × Nat)) (h:(m.map Prod.fst).Nodup∧(m.map Prod.snd).Nodup∧(∀ id,id<F.pins→look id m=some id)∧(∀ p∈m,p.2<st'.n)∧(∀ p∈st'.h,p.1<st'.n)∧(∀ p∈st'.s,p.2=rl m (st.get p.1)∨p.2 = .bot)∧∀ p∈st'.h,hhOk m st.h p.1 p.2):Wk F st st':=Wk.rel m h.1 h.2.1 h.2.2.1 h.2.2.2.1 h.2.2.2.2.1 h.2.2.2.2.2.1 h.2.2.2.2.2.2
def fuel:Nat:=4611686018427387904
theorem PurTo.preT {h:HP} {xs cs:List AV} (e:xs.take cs.length=cs):PurTo h (.rptr xs) (.rptr cs):=by
 have:xs=cs++xs.drop cs.length:=by
  have h:=List.take_append_drop cs.length xs;rw [e] at h;exact h.symm
 rw [this];exact .pre
end
section
attribute [local simp] Qd Qt Ql
structure SD (ds:List Nat) (st:St):Prop where
 mix:∀ s∈ds,∃ id,st.get s = .adr id 0 0∧Qw (st.hp id)=true
 sep:∀ t id i k,t ∉ ds→st.get t = .adr id i k→∀ s∈ds,st.get s ≠ .adr id 0 0
 sepO:∀ t id i k,t ∉ ds→st.get t = .own id i k→∀ s∈ds,st.get s ≠ .adr id 0 0
section
variable {P:Program} [Kd P] {ds:List Nat} {ops:Array Oper} {S:Nat→St} {E:Nat→Option Eff} {C:Ctx} {R:Nat→Prop} {N:Nat} {w0:World}
inductive Pts:AV→Nat→Prop
 | adr {id i k}:Pts (.adr id i k) id
 | own {id i k}:Pts (.own id i k) id
end
end
section
attribute [local simp] Qd Qt Ql
def callX (P:Program) [Kd P] (mt:MT) (all:Array Oper) (f:Nat) (az:List AV) (dst:Option Nat) (os:List Oper) (st:St) (K:St→Prop):Prop :=
 Q7Q P mt all f az dst os st K∨∃ keep bs res,PurK keep st.hp az bs∧FContract P keep f bs res∧Q2E P mt all os (st.app dst { v:=res }) K
def callB (P:Program) [Kd P] (mt:MT) (all:Array Oper) (f:Nat) (az:List AV) (dst:Option Nat) (os:List Oper) (st:St) (K:St→Prop):Prop :=
 (∃ bs res,PurL st.hp az bs∧Contract P f bs res∧Q2E P mt all os (st.app dst (unk st.n res)) K)∨∃ keep bs res,PurK keep st.hp az bs∧FContract P keep f bs res∧Q2E P mt all os (st.app dst { v:=res }) K
def Q72 (P:Program) [Kd P] (mt:MT) (all:Array Oper) (az:List AV) (dst:Option Nat) (os:List Oper) (st:St) (K:St→Prop):AV→Prop
 | .fn f caps=>callX P mt all f (az++caps) dst os st K
 | .bnd f rs=>callB P mt all f (rs++az) dst os st K
 | _=>False
def callI (P:Program) [Kd P] (mt:MT) (all:Array Oper) (F:Option Nat) (az:List AV) (dst:Option Nat) (os:List Oper) (st:St) (K:St→Prop):Prop:=False
def Q73 (P:Program) [Kd P] (mt:MT) (all:Array Oper) (name:String) (az:List AV) (dst:Option Nat) (os:List Oper) (st:St) (K:St→Prop):AV→Prop
 | .ifc t cs=>callI P mt all (mth P t name) (.agg cs :: az) dst os st K
 | .ifs t sz es=>callI P mt all (mth P t name) (.lst true sz es :: az) dst os st K
 | _=>False
def mkI (t:TypeId):Bool→Bool→AV→Option (Prop × Eff)
 | true,_,.agg cs=>some (True,{ v:=.ifc t cs })
 | _,true,.lst _ sz es=>some (True,{ v:=.ifs t sz es })
 | _,_,_=>none
def asB (t sz:Nat) (es:List (List AV)):Bool→Option (Prop × Eff)
 | true=>some (True,{ v:=.tup [.ifs t sz es,.val (.bool true)] })
 | false=>none
def asA (P:Program) (s:TypeId):Bool→AV→Option (Prop × Eff)
 | true,.ifs t sz es=>asB t sz es (tas P s t)
 | _,_=>none
def inZ (fz:List Nat):Option Nat→Bool
 | some d=>fz.contains d
 | none=>false
def Q8V (P:Program) (et:Option TypeId) (l c:AV) (n:Nat):Option (Prop × Eff) :=
 match et with
 | some e=>Q4H (some (((elm P e).bind (tyi P)).getD ⟨false,1,8,[]⟩)) (tyi P e) l c n
 | none=>none
noncomputable def opX (P:Program) (fz:List Nat) (dst:Option Nat) (op:Op) (ev:Operand→AV) (h:HP) (n:Nat):Option (Prop × Eff) :=
 match op with
 | .box t x=>bif inZ fz dst then boxr (ev x) else boxv (ev x) n
 | .call ⟨.builtin .append,⟨[s,x]⟩,⟨[t,u]⟩⟩=>match elm P t with
  | some e=>if t=u then (bif inZ fz dst then appM (tyi P e) (ev s) (ev x) h n else Q2P (tyi P e) (ev s) (ev x) h n) else none
  | none=>none
 | .call ⟨.builtin .len,⟨[x]⟩,⟨[t]⟩⟩=>bif inZ fz dst then lenm (mty P t) (Q2W h (ev x)) else match elm P t with
  | some _=>lenv (ev x)
  | none=>none
 | .makeSlice t l c=>bif inZ fz dst then Q8V P (elm P t) (ev l) (ev c) n else match elm P t with
  | some e=>Q4G (tyi P e) (ev l) (ev c) n
  | none=>none
 | .makeFunc (.func f) ⟨[]⟩ caps=>some (True,{ v:=.fn f (caps.toList.map ev) })
 | .makeInterface t x=>mkI t (sty P t) (slt P t) (ev x)
 | .typeAssert x _ s ok=>asA P s ok (ev x)
 | .makeFunc (.func f) ⟨r :: rs⟩ ⟨[]⟩=>some (True,{ v:=.bnd f ((r :: rs).map ev) })
 | .convert s d x=>bif inZ fz dst then convS (byS P s d) h (ev x) else Q5S (intk P s) (intk P d) (ev x)
 | .slice t x none (some y) (some z)=>match elm P t with
  | some e=>Q33 (tyi P e) h (ev x) (ev y) (ev z)
  | none=>none
 | .makeMap t none=>makv (mty P t) n
 | .lookup t x k ok=>Q4V (mty P t) (Q2W h (ev x)) (ev k) ok
 | .mapUpdate t x k y=>updv (mty P t) h (ev x) (ev k) (ev y)
 | op=>opF P op ev h n
theorem Q92 {P:Program} [Kd P] {mt:MT} {fz:List Nat} {dst:Option Nat} {op:Op} {ev:Operand→AV} {h:HP} {n:Nat} {c:Prop} {e:Eff} (hx:opX P fz dst op ev h n=some (c,e)) (hc:c):AOp P mt op ev h n e:=by
 unfold opX at hx;split at hx
 ·rename_i t x;cases hz:inZ fz dst with
  | true=>rw [hz] at hx;exact .boxr rfl hx
  | false=>rw [hz] at hx;exact .blt hx hc
 ·rename_i s x t u;split at hx
  ·rename_i e0 hel;split at hx
   ·rename_i htu;subst htu;cases hz:inZ fz dst with
    | true=>rw [hz] at hx;exact .appM rfl hel hx hc
    | false =>
     rw [hz] at hx;refine .blt (c:=c) ?_ hc;simp only [opF,bltF,hel,if_true];exact hx
   cases hx
  cases hx
 ·rename_i x t;cases hz:inZ fz dst with
  | true=>rw [hz] at hx;exact .mapo hx hc
  | false=>rw [hz] at hx;exact .blt hx hc
 ·rename_i t l cc;cases hz:inZ fz dst with
  | true =>
   rw [hz] at hx;simp only [cond_true] at hx;unfold Q8V at hx;split at hx
   ·rename_i et hel;exact .mkz rfl hel hx hc
   cases hx
  | false=>rw [hz] at hx;exact .blt hx hc
 ·simp only [qA,qH] at hx;obtain ⟨_,rfl⟩:=hx;exact .mkf rfl
 ·rename_i t x;unfold mkI at hx;split at hx
  ·rename_i hs hx2;simp only [qA,qH] at hx;obtain ⟨_,rfl⟩:=hx;exact .mki rfl hs hx2
  ·rename_i hs hx2;simp only [qA,qH] at hx;obtain ⟨_,rfl⟩:=hx;exact .mkis rfl hs hx2
  cases hx
 ·rename_i x xt s ok;unfold asA at hx;split at hx
  ·rename_i t sz es hx2;unfold asB at hx;split at hx
   ·rename_i hs;simp only [qA,qH] at hx;obtain ⟨_,rfl⟩:=hx;exact .tas rfl hs hx2
   cases hx
  cases hx
 ·simp only [qA,qH] at hx;obtain ⟨_,rfl⟩:=hx;exact .mkb rfl
 ·rename_i s d x;cases hz:inZ fz dst with
  | true =>
   rw [hz] at hx;obtain ⟨e2,id,ns,h1,h2,h3,rfl⟩:=convS_eq hx hc;exact .cvs rfl h1 h2 h3
  | false=>rw [hz] at hx;exact .blt hx hc
 ·split at hx
  ·rename_i et hel;exact .sl3 rfl hel hx hc
  cases hx
 ·exact .mapo hx hc
 ·exact .mapo hx hc
 ·exact .mapo hx hc
 exact .blt hx hc
def semA (P:Program) [Kd P] (mt:MT) (all:Array Oper) (op:Op) (dst:Option Nat) (os:List Oper) (st:St) (K:St→Prop):Prop :=
 (mt.on && wrM mt op)=true∧∃ e,SemOp P op st.ev st.hp st.n e∧Q2E P mt all os (st.app dst e) K
def stoZ (P:Program) [Kd P] (mt:MT) (all:Array Oper) (op:Op) (t:TypeId) (av xv:AV) (dst:Option Nat) (os:List Oper) (st:St) (K:St→Prop):Prop:=stoA P mt all t av xv dst os st K∨semA P mt all op dst os st K
def Q5x (P:Program) [Kd P] (mt:MT) (fz:List Nat) (all:Array Oper) (os:List Oper) (K R:St→Prop) (dst:Option Nat) (st:St) (op:Op):Prop :=
 match op with
 | .call ⟨.value x,args,_⟩=>Q72 P mt all (args.toList.map st.ev) dst os st K (st.ev x)
 | .call ⟨.invoke x name,args,_⟩=>Q73 P mt all name (args.toList.map st.ev) dst os st K (st.ev x)
 | .store t a x=>Q4v R (stoZ P mt all (.store t a x) t (st.ev a) (st.ev x) dst os st K) dst st (Q3j (tyi P t) (st.ev a) (st.ev x) st.hp)
 | .call ⟨.builtin .append,args,ts⟩=>Q4v R (semA P mt all (.call ⟨.builtin .append,args,ts⟩) dst os st K) dst st (opX P fz dst (.call ⟨.builtin .append,args,ts⟩) st.ev st.hp st.n)
 | .lookup t x k ok=>Q4v R (semA P mt all (.lookup t x k ok) dst os st K) dst st (Q4V (mty P t) (Q2W st.hp (st.ev x)) (st.ev k) ok)
 | .mapUpdate t x k y=>Q4v R (semA P mt all (.mapUpdate t x k y) dst os st K) dst st (updv (mty P t) st.hp (st.ev x) (st.ev k) (st.ev y))
 | .call ⟨.builtin .clear,args,ts⟩=>semA P mt all (.call ⟨.builtin .clear,args,ts⟩) dst os st K
 | op=>Q5Z R dst st (opX P fz dst op st.ev st.hp st.n)
def guardXW (P:Program) [Kd P] (mt:MT) (fz:List Nat) (all:Array Oper) (os:List Oper) (K R:St→Prop) (dst:Option Nat) (st:St) (op:Op) (t:Nat) (want:Bool):AV→Prop
 | .val (.bool b)=>(b=want→Q5x P mt fz all os K R dst (st.put t (.val (.bool want))) op)∧(b = !want→R ((st.put t (.val (.bool !want))).app dst { v:=.tup [] }))
 | .tup []=>R (st.app dst { v:=.tup [] })
 | _=>False
def Q8Q (P:Program) [Kd P] (mt:MT) (fz:List Nat) (all:Array Oper) (os:List Oper) (K R:St→Prop) (dst:Option Nat) (st:St) (op:Op) (want:Bool):Option Nat→Prop
 | some t=>guardXW P mt fz all os K R dst st op t want (st.get t)
 | none=>False
def runX (P:Program) [Kd P] (mt:MT) (fz:List Nat) (all:Array Oper):List Oper→St→(St→Prop)→Prop
 | [],st,K=>K st
 | o :: os,st,K=>match o.guard with
  | none=>Q5x P mt fz all os K (fun st'=>runX P mt fz all os st' K) o.dst st o.op
  | some (j,want)=>Q8Q P mt fz all os K (fun st'=>runX P mt fz all os st' K) o.dst st o.op want ((all[j]?).bind (·.dst))
theorem goX_one {P:Program} [Kd P] {mt:MT} {fz:List Nat} {all:Array Oper} {o:Oper} {os:List Oper} {st:St} {K R:St→Prop} (hw:Q38 all o st=some true)
  (ih:∀ st',R st'→Q2E P mt all os st' K) (h:Q5x P mt fz all os K R o.dst st o.op):Q2E P mt all (o :: os) st K:=by
 refine .inl ⟨hw,?_⟩;unfold Q5x at h;split at h
 ·rename_i x args ts ho;unfold Q72 at h;split at h
  ·rename_i f caps hx;rcases h with (⟨bs,res,h1,h2,h3⟩|⟨h0,args,ms,res,m,Pt,sets,dels,h1,h2,h3,h4,h5,h6⟩|⟨h0,e,h1,h2⟩)|⟨keep,bs,res,h1,h2,h3⟩
   ·exact ⟨_,.call ho rfl hx h1 h2,h3⟩
   ·exact ⟨_,.mcall (Q58 h0 ho hx) ho rfl hx h1 h2 h3 h4 h5,h6⟩
   ·exact ⟨_,.icall (Q58 h0 ho hx) ho rfl hx h1,h2⟩
   exact ⟨_,.fcall ho rfl hx h1 h2,h3⟩
  ·rename_i f rs hx;rcases h with ⟨bs,res,h1,h2,h3⟩|⟨keep,bs,res,h1,h2,h3⟩
   ·exact ⟨_,.callb ho rfl hx h1 h2,h3⟩
   exact ⟨_,.fcallb ho rfl hx h1 h2,h3⟩
  exact h.elim
 ·rename_i x name args ts ho;unfold Q73 at h;split at h
  ·rename_i t cs hx;exact h.elim
  ·rename_i t sz es hx;exact h.elim
  exact h.elim
 ·rename_i t a x ho;unfold Q4v at h;split at h
  ·rename_i c e he;exact ⟨e,.blt (by rw [ho];exact he) h.1,ih _ h.2⟩
  rcases h with (⟨ty,id,i,k,b,sz,es,ds,dels,h1,h2,h3,h4,h5⟩|⟨ty,id,i,az,bs,sz,es,ds,dels,h1,h2,h3,h3',h4,h5⟩)|⟨h0,e,h1,h2⟩
  ·exact ⟨_,.sto ho h1 h2 h3 h4,h5⟩
  ·exact ⟨_,.stg ho h1 h2 h3 h3' h4,h5⟩
  exact ⟨e,.sem (by rw [ho];exact h0) (by rw [ho];exact h1),h2⟩
 ·rename_i args ts ho;unfold Q4v at h;split at h
  ·rename_i c e he;exact ⟨e,Q92 (fz:=fz) (dst:=o.dst) (by rw [ho];exact he) h.1,ih _ h.2⟩
  obtain ⟨h0,e,h1,h2⟩:=h;exact ⟨e,.sem (by rw [ho];exact h0) (by rw [ho];exact h1),h2⟩
 ·rename_i t x k ok ho;unfold Q4v at h;split at h
  ·rename_i c e he;exact ⟨e,Q92 (fz:=fz) (dst:=o.dst) (by rw [ho];exact he) h.1,ih _ h.2⟩
  obtain ⟨h0,e,h1,h2⟩:=h;exact ⟨e,.sem (by rw [ho];exact h0) (by rw [ho];exact h1),h2⟩
 ·rename_i t x k y ho;unfold Q4v at h;split at h
  ·rename_i c e he;exact ⟨e,Q92 (fz:=fz) (dst:=o.dst) (by rw [ho];exact he) h.1,ih _ h.2⟩
  obtain ⟨h0,e,h1,h2⟩:=h;exact ⟨e,.sem (by rw [ho];exact h0) (by rw [ho];exact h1),h2⟩
 ·rename_i args ts ho;obtain ⟨h0,e,h1,h2⟩:=h;exact ⟨e,.sem (by rw [ho];exact h0) (by rw [ho];exact h1),h2⟩
 unfold Q5Z at h;split at h
 ·rename_i c e he;exact ⟨e,Q92 he h.1,ih _ h.2⟩
 exact h.elim
theorem Q5g {P:Program} [Kd P] {mt:MT} {fz:List Nat} {all:Array Oper}:∀ (os:List Oper) (st:St) (K:St→Prop),runX P mt fz all os st K→Q2E P mt all os st K:=by
 intro os
 induction os with
 | nil=>intro st K h;exact h
 | cons o os ih =>
  intro st K h;unfold runX at h;split at h
  ·rename_i hg;exact goX_one (by simp [Q38,hg]) (fun st'=>ih st' K) h
  rename_i j want hg;unfold Q8Q at h;split at h
  ·rename_i t ht;unfold guardXW at h;split at h
   ·rename_i b hb;have hput:∀ b',b=b'→st.put t (.val (.bool b'))=st:=(by rintro _ rfl;exact St.put_get hb (by simp));obtain ⟨h1,h2⟩:=h
    by_cases hbw:b=want
    ·have h1:=h1 hbw;rw [hput _ hbw] at h1;exact goX_one (by simp only [Q38,hg,ht,hb,hbw,beq_self_eq_true]) (fun st'=>ih st' K) h1
    have hb':b = !want:=(by cases b<;>cases want<;>simp_all);have h2:=h2 hb';rw [hput _ hb'] at h2;refine .inr ⟨?_,ih _ _ h2⟩;have:(b == want)=false:=(by simpa using hbw);simp only [Q38,hg,ht,hb,this]
   ·rename_i htt;refine .inr ⟨?_,ih _ _ h⟩;simp only [Q38,hg,ht,htt]
   exact h.elim
  exact h.elim
section
variable {P:Program} [Kd P] {mt:MT} {fz:List Nat} {all:Array Oper} {f:Nat} {az bs:List AV} {res:AV} {dst:Option Nat} {os:List Oper} {st:St} {K:St→Prop}
theorem Q5d (hc:Contract P f bs res) (hp:PurL st.hp az bs) (h:runX P mt fz all os (st.app dst (unk st.n res)) K):callX P mt all f az dst os st K:=.inl (.inl ⟨bs,res,hp,hc,Q5g _ _ _ h⟩)
theorem Q2Q {e:Eff} (hc:ICon P f az st.hp st.n e) (h:runX P mt fz all os (st.app dst e) K) (hm:mt.may f=true:=by rfl):callX P mt all f az dst os st K:=.inl (.inr (.inr ⟨hm,e,hc,Q5g _ _ _ h⟩))
end
theorem QI {P:Program} [Kd P] {F:Fx} {AQ:Exit→St→Prop} {st:St} {id:Nat} {ops:Array Oper} {d:Bool} (fz:List Nat) (hm:P.follows .mixedOrders=true) (hok:(okN F.N ops && (!d || (Q4a false ops && Q2H ops)))=true)
  (h:∀ K:St→Prop,(∀ st',AQ .normal st'→K st')→runX P false fz ops ops.toList st K):Wp P F (.region id ops d) AQ st :=
 Q4k hm hok fun K hK=>Q5g _ _ _ (h K hK)
theorem Q5L {P:Program} [Kd P] {F:Fx} {AQ:Exit→St→Prop} {st:St} {id:Nat} {ops:Array Oper} {d:Bool} (fz:List Nat) (hm:P.follows .mixedOrders=true) (hok:(okN F.N ops && (!d || (Q4a true ops && Q2H ops)))=true)
  (h:∀ K:St→Prop,(∀ st',AQ .normal st'→K st')→runX P true fz ops ops.toList st K):Wp P F (.region id ops d) AQ st :=
 Q4k hm hok fun K hK=>Q5g _ _ _ (h K hK)
theorem w_runXR {P:Program} [Kd P] {F:Fx} {AQ:Exit→St→Prop} {st:St} {id:Nat} {ops:Array Oper} {d:Bool} (lk:Bool) (fz ro:List Nat) (hm:P.follows .mixedOrders=true) (hok:(okN F.N ops && (!d || (Q4a ⟨true,ro,lk,[]⟩ ops && Q2H ops)))=true)
  (h:∀ K:St→Prop,(∀ st',AQ .normal st'→K st')→runX P ⟨true,ro,lk,[]⟩ fz ops ops.toList st K):Wp P F (.region id ops d) AQ st :=
 Q4k hm hok fun K hK=>Q5g _ _ _ (h K hK)
def rE (P:Program) [Kd P] (mt:MT) (fz:List Nat) (all:Array Oper) (os:List Oper) (dst:Option Nat) (st:St) (K:St→Prop) (x:Option (Prop × Eff)):Prop:=Q5Z (fun st'=>runX P mt fz all os st' K) dst st x
def rS (P:Program) [Kd P] (mt:MT) (fz:List Nat) (all:Array Oper) (os:List Oper) (dst:Option Nat) (st:St) (K:St→Prop) (op:Op) (t:TypeId) (av xv:AV) (x:Option (Prop × Eff)):Prop:=Q4v (fun st'=>runX P mt fz all os st' K) (stoZ P mt all op t av xv dst os st K) dst st x
def rL (P:Program) [Kd P] (mt:MT) (fz:List Nat) (all:Array Oper) (os:List Oper) (dst:Option Nat) (st:St) (K:St→Prop) (op:Op) (x:Option (Prop × Eff)):Prop:=Q4v (fun st'=>runX P mt fz all os st' K) (semA P mt all op dst os st K) dst st x
def rO (P:Program) [Kd P] (mt:MT) (fz:List Nat) (all:Array Oper) (os:List Oper) (dst:Option Nat) (st:St) (K:St→Prop) (op:Op):Prop:=Q5x P mt fz all os K (fun st'=>runX P mt fz all os st' K) dst st op
section
variable {P:Program} [Kd P] {mt:MT} {fz:List Nat} {all:Array Oper} {os:List Oper} {dst:Option Nat} {st:St} {K:St→Prop} {op:Op} {ty:TypeId} {pos:String} {af:Array Edge}
@[simp] theorem rE_some {c:Prop} {e:Eff}:rE P mt fz all os dst st K (some (c,e))=(c∧runX P mt fz all os (st.app dst e) K):=rfl
@[simp] theorem callIX_ifc {name:String} {t:Nat} {cs az:List AV}:Q73 P mt all name az dst os st K (.ifc t cs)=callI P mt all (mth P t name) (.agg cs :: az) dst os st K:=rfl
@[simp] theorem callIX_ifs {name:String} {t sz:Nat} {es:List (List AV)} {az:List AV}:Q73 P mt all name az dst os st K (.ifs t sz es)=callI P mt all (mth P t name) (.lst true sz es :: az) dst os st K:=rfl
@[simp] theorem mkI_agg {t:TypeId} {b:Bool} {cs:List AV}:mkI t true b (.agg cs)=some (True,{ v:=.ifc t cs }):=rfl
@[simp] theorem asA_ifs {s t sz:Nat} {es:List (List AV)}:asA P s true (.ifs t sz es)=asB t sz es (tas P s t):=rfl
@[simp] theorem asB_true {t sz:Nat} {es:List (List AV)}:asB t sz es true=some (True,{ v:=.tup [.ifs t sz es,.val (.bool true)] }):=rfl
@[simp] theorem callEX_bnd {f:Nat} {rs az:List AV}:Q72 P mt all az dst os st K (.bnd f rs)=callB P mt all f (rs++az) dst os st K:=rfl
@[simp] theorem callEX_fn {f:Nat} {caps az:List AV}:Q72 P mt all az dst os st K (.fn f caps)=callX P mt all f (az++caps) dst os st K:=rfl
@[simp] theorem rO_call {x:Operand} {args:Array Operand} {ts:Array TypeId}:rO P mt fz all os dst st K (.call ⟨.value x,args,ts⟩)=Q72 P mt all (args.toList.map st.ev) dst os st K (st.ev x):=rfl
@[simp] theorem rO_move {x}:rO P mt fz all os dst st K (.move x)=runX P mt fz all os (st.app dst { v:=st.ev x }) K:=by simp [rO,Q5x,Q5Z,opX,opF]
@[simp] theorem rO_assign {x}:rO P mt fz all os dst st K (.assign x)=runX P mt fz all os (st.app dst { v:=st.ev x }) K:=by simp [rO,Q5x,Q5Z,opX,opF]
@[simp] theorem rO_pick {c a b}:rO P mt fz all os dst st K (.pick c a b)=rE P mt fz all os dst st K (pick (st.ev c) (st.ev a) (st.ev b)):=rfl
@[simp] theorem rO_alloc {e}:rO P mt fz all os dst st K (.alloc e)=rE P mt fz all os dst st K (Vc.alloc (tyi P e) st.n):=rfl
@[simp] theorem rO_box {t x}:rO P mt fz all os dst st K (.box t x)=rE P mt fz all os dst st K (bif inZ fz dst then boxr (st.ev x) else boxv (st.ev x) st.n):=rfl
@[simp] theorem rO_build {t parts}:rO P mt fz all os dst st K (.build t parts)=rE P mt fz all os dst st K (build (tyi P t) (Q4I P t) (parts.toList.map fun p=>(p.1,st.ev p.2))):=rfl
@[simp] theorem rO_buildSlice {t len parts}:rO P mt fz all os dst st K (.buildSlice t len parts)=rE P mt fz all os dst st K (elmE (fun e=>buildSlice (tyi P e) len (parts.toList.map fun p=>(p.1,st.ev p.2)) st.n) (elm P t)):=by
 simp only [rO,rE,Q5x,opX,opF];cases elm P t<;>rfl
@[simp] theorem rO_load {t a}:rO P mt fz all os dst st K (.load t a)=rE P mt fz all os dst st K (Q4U (tyi P t) (st.ev a) st.hp st.n):=rfl
@[simp] theorem rO_store {t a x}:rO P mt fz all os dst st K (.store t a x)=rS P mt fz all os dst st K (.store t a x) t (st.ev a) (st.ev x) (Q3j (tyi P t) (st.ev a) (st.ev x) st.hp):=rfl
@[simp] theorem rS_some {op:Op} {t:TypeId} {av xv:AV} {c:Prop} {e:Eff}:rS P mt fz all os dst st K op t av xv (some (c,e))=(c∧runX P mt fz all os (st.app dst e) K):=rfl
@[simp] theorem rS_none {op:Op} {t:TypeId} {av xv:AV}:rS P mt fz all os dst st K op t av xv none=stoZ P mt all op t av xv dst os st K:=rfl
@[simp] theorem rO_nilCheck {x}:rO P mt fz all os dst st K (.nilCheck x)=rE P mt fz all os dst st K (nilCheck (st.ev x)):=rfl
@[simp] theorem rO_binOp {o xt x y yt}:rO P mt fz all os dst st K (.binOp o xt x y yt)=rE P mt fz all os dst st K (Q3X (eqT P xt) o (st.ev x) (st.ev y)):=rfl
@[simp] theorem rO_unOp {o t x}:rO P mt fz all os dst st K (.unOp o t x)=rE P mt fz all os dst st K (unop o (st.ev x)):=rfl
@[simp] theorem rO_convert {s d x}:rO P mt fz all os dst st K (.convert s d x)=rE P mt fz all os dst st K (bif inZ fz dst then convS (byS P s d) st.hp (st.ev x) else Q5S (intk P s) (intk P d) (st.ev x)):=rfl
@[simp] theorem rO_makeSlice {t l c}:rO P mt fz all os dst st K (.makeSlice t l c)=rE P mt fz all os dst st K (bif inZ fz dst then Q8V P (elm P t) (st.ev l) (st.ev c) st.n else elmE (fun e=>Q4G (tyi P e) (st.ev l) (st.ev c) st.n) (elm P t)):=by
 simp only [rO,rE,Q5x,opX,opF];cases elm P t<;>rfl
@[simp] theorem makeSX_some {e:TypeId} {l c:AV} {n:Nat}:Q8V P (some e) l c n=Q4H (some (((elm P e).bind (tyi P)).getD ⟨false,1,8,[]⟩)) (tyi P e) l c n:=rfl
attribute [simp] Q4H zc
@[simp] theorem rO_fieldAddr {t x k}:rO P mt fz all os dst st K (.fieldAddr t x k)=rE P mt fz all os dst st K (fieldAddr (fld P t k) (st.ev x)):=rfl
@[simp] theorem rO_field {t x k}:rO P mt fz all os dst st K (.field t x k)=rE P mt fz all os dst st K (Q5f (fld P t k) (st.ev x)):=rfl
@[simp] theorem rO_indexAddr {t x i}:rO P mt fz all os dst st K (.indexAddr t x i)=rE P mt fz all os dst st K (elmE (fun e=>Q2y (tyi P e) (st.ev x) (st.ev i) st.hp) (elm P t)):=by
 simp only [rO,rE,Q5x,opX,opF];cases elm P t<;>rfl
@[simp] theorem rO_extract {x k}:rO P mt fz all os dst st K (.extract x k)=rE P mt fz all os dst st K (Q2T (st.ev x) k):=rfl
@[simp] theorem rO_len {x t}:rO P mt fz all os dst st K (.call ⟨.builtin .len,#[x],#[t]⟩)=rE P mt fz all os dst st K (bif inZ fz dst then lenm (mty P t) (Q2W st.hp (st.ev x)) else elmE (fun _=>lenv (st.ev x)) (elm P t)):=by
 simp only [rO,rE,Q5x,opX];cases inZ fz dst<;>cases elm P t<;>rfl
@[simp] theorem rO_min {xs ts}:rO P mt fz all os dst st K (.call ⟨.builtin .min,xs,ts⟩)=rE P mt fz all os dst st K (Q3A (fun a b=>if b<a then b else a) (xs.toList.map st.ev)):=rfl
@[simp] theorem rO_max {xs ts}:rO P mt fz all os dst st K (.call ⟨.builtin .max,xs,ts⟩)=rE P mt fz all os dst st K (Q3A (fun a b=>if b > a then b else a) (xs.toList.map st.ev)):=rfl
@[simp] theorem Qab {t x}:rO P mt fz all os dst st K (.makeInterface t x)=rE P mt fz all os dst st K (mkI t (sty P t) (slt P t) (st.ev x)):=rfl
@[simp] theorem rO_typeAssert {x xt s ok}:rO P mt fz all os dst st K (.typeAssert x xt s ok)=rE P mt fz all os dst st K (asA P s ok (st.ev x)):=rfl
@[simp] theorem rO_invoke {x:Operand} {name:String} {args:Array Operand} {ts:Array TypeId}:rO P mt fz all os dst st K (.call ⟨.invoke x name,args,ts⟩)=Q73 P mt all name (args.toList.map st.ev) dst os st K (st.ev x):=rfl
@[simp] theorem rO_makeFuncB {f r}:rO P mt fz all os dst st K (.makeFunc (.func f) #[r] #[])=rE P mt fz all os dst st K (some (True,{ v:=.bnd f [st.ev r] })):=rfl
@[simp] theorem rO_makeFunc {f caps}:rO P mt fz all os dst st K (.makeFunc (.func f) #[] caps)=rE P mt fz all os dst st K (some (True,{ v:=.fn f (caps.toList.map st.ev) })):=rfl
@[simp] theorem rO_makeMap {t}:rO P mt fz all os dst st K (.makeMap t none)=rE P mt fz all os dst st K (makv (mty P t) st.n):=rfl
@[simp] theorem rL_some {op:Op} {c:Prop} {e:Eff}:rL P mt fz all os dst st K op (some (c,e))=(c∧runX P mt fz all os (st.app dst e) K):=rfl
@[simp] theorem rL_none {op:Op}:rL P mt fz all os dst st K op none=semA P mt all op dst os st K:=rfl
@[simp] theorem rO_clear {args:Array Operand} {ts:Array TypeId}:rO P mt fz all os dst st K (.call ⟨.builtin .clear,args,ts⟩)=semA P mt all (.call ⟨.builtin .clear,args,ts⟩) dst os st K:=rfl
@[simp] theorem MK.plain_ext {x:XP}:(MK.ext x).plain=false:=rfl
@[simp] theorem rO_lookup {t x k ok}:rO P mt fz all os dst st K (.lookup t x k ok)=rL P mt fz all os dst st K (.lookup t x k ok) (Q4V (mty P t) (Q2W st.hp (st.ev x)) (st.ev k) ok):=rfl
@[simp] theorem rO_mapUpdate {t x k y}:rO P mt fz all os dst st K (.mapUpdate t x k y)=rL P mt fz all os dst st K (.mapUpdate t x k y) (updv (mty P t) st.hp (st.ev x) (st.ev k) (st.ev y)):=rfl
@[simp] theorem runX_nil:runX P mt fz all [] st K=K st:=rfl
@[simp] theorem runX_go:runX P mt fz all (⟨dst,op,ty,pos,af,none⟩ :: os) st K=rO P mt fz all os dst st K op:=rfl
end
section
variable {h:HP} {n:Nat} {sz off m id:Nat} {es:List (List AV)} {kd:MK} {me:List (Value × Value)} {z:Value} {t:Tyi}
def srcME (sz off m:Nat):Option Ent→Option (Prop × List (List AV))
 | some (.mix sz' es)=>if sz'=sz then some (off+m≤es.length,(es.drop off).take m) else none
 | _=>none
def baseME (sz id m:Nat):Option Ent→Option (Prop × List (List AV) × List Nat)
 | some (.mix sz' es)=>if sz'=sz then some (m=es.length,es,[id]) else none
 | _=>none
def mcontE:Option Ent→Option (MK × List (Value × Value))
 | some (.mapE kd es)=>if kd.plain=true then some (kd,es) else none
 | _=>none
noncomputable def updE (kd:MK) (id:Nat) (kv v:Value):Option Ent→Option (Prop × Eff)
 | some (.mapE kd' es)=>if kd'=kd∧kd.is kv=true then some (es.length<1099511627776,{ v:=.bot,set:=[(id,.mapE kd (mset kv v es))] }) else none
 | _=>none
theorem srcM_nil:srcM h sz (.val (.slice none 0 0))=some (True,[]):=rfl
theorem srcM_lst {u:Bool} {sz':Nat}:srcM h sz (.lst u sz' es)=if sz'=sz then some (True,es) else none:=rfl
theorem srcM_E:srcM h sz (.own id off m)=srcME sz off m (h id):=rfl
@[simp] theorem srcME_mix {sz':Nat}:srcME sz off m (some (.mix sz' es))=if sz'=sz then some (off+m≤es.length,(es.drop off).take m) else none:=rfl
theorem baseM_nil:Q5Q h sz (.val (.slice none 0 0))=some (True,[],[]):=rfl
theorem baseM_E:Q5Q h sz (.own id 0 m)=baseME sz id m (h id):=rfl
@[simp] theorem baseME_mix {sz':Nat}:baseME sz id m (some (.mix sz' es))=if sz'=sz then some (m=es.length,es,[id]) else none:=rfl
def appME (t:Tyi) (n:Nat):Option (Prop × List (List AV) × List Nat)→Option (Prop × List (List AV))→Option (Prop × Eff)
 | some (c1,es,i),some (c2,news)=>some ((0<news.length∨i ≠ [])∧n ∉ i∧c1∧c2∧(es.length+news.length) * t.bytes≤140737488355328∧es.length+news.length≤140737488355328∧0<t.sz,
    { v:=.own n 0 (es.length+news.length),del:=i,new:=[(n,.mix t.sz (es++news))],cnt:=1 })
 | _,_=>none
theorem appM_E {s x:AV}:appM (some t) s x h n=appME t n (Q5Q h t.sz s) (srcM h t.sz x):=by
 simp only [appM,appME];cases Q5Q h t.sz s with
 | none=>rfl
 | some p=>cases srcM h t.sz x<;>rfl
@[simp] theorem appME_some {c1 c2:Prop} {i:List Nat} {news:List (List AV)}:appME t n (some (c1,es,i)) (some (c2,news))=some ((0<news.length∨i ≠ [])∧n ∉ i∧c1∧c2∧(es.length+news.length) * t.bytes≤140737488355328∧es.length+news.length≤140737488355328∧0<t.sz,
    { v:=.own n 0 (es.length+news.length),del:=i,new:=[(n,.mix t.sz (es++news))],cnt:=1 }):=rfl
theorem mcont_mp:Q2W h (.mp id)=mcontE (h id):=rfl
theorem Q9D:Q2W h (.cmap kd me)=some (kd,me):=rfl
@[simp] theorem mcontE_map:mcontE (some (.mapE kd me))=if kd.plain=true then some (kd,me) else none:=rfl
theorem Q9A {kd':MK} {kv:Value} {ok:Bool}:Q4V (some (kd,z)) (some (kd',me)) (.val kv) ok=if kd'=kd∧kd.is kv=true then
   some (True,{ v:=bif ok then .tup [.val ((Q1s kv me).getD z),.val (.bool (Q1s kv me).isSome)] else .val ((Q1s kv me).getD z) }) else none:=rfl
theorem lookv_agg {kd':MK} {az:List AV} {ok:Bool}:Q4V (some (kd,z)) (some (kd',me)) (.agg az) ok=(Q1 az).elim none fun l=>if kd'=kd∧kd.is (.agg (l.map (Value.int .i64)).toArray)=true then
   some (True,{ v:=bif ok then .tup [.val ((Q1s (.agg (l.map (Value.int .i64)).toArray) me).getD z),.val (.bool (Q1s (.agg (l.map (Value.int .i64)).toArray) me).isSome)] else .val ((Q1s (.agg (l.map (Value.int .i64)).toArray) me).getD z) }) else none:=by
 simp only [Q4V,keyV];cases Q1 az<;>rfl
theorem updv_agg {az:List AV} {v:Value}:updv (some (kd,z)) h (.mp id) (.agg az) (.val v)=(Q1 az).elim none fun l=>updE kd id (.agg (l.map (Value.int .i64)).toArray) v (h id):=by
 simp only [updv,keyV];cases Q1 az<;>rfl
theorem updv_mp {kv v:Value}:updv (some (kd,z)) h (.mp id) (.val kv) (.val v)=updE kd id kv v (h id):=rfl
@[simp] theorem updE_map {kd':MK} {kv v:Value}:updE kd id kv v (some (.mapE kd' me))=if kd'=kd∧kd.is kv=true then some (me.length<1099511627776,{ v:=.bot,set:=[(id,.mapE kd (mset kv v me))] }) else none:=rfl
theorem makv_some:makv (some (kd,z)) n=some (True,{ v:=.mp n,new:=[(n,.mapE kd [])],cnt:=1 }):=rfl
theorem lenm_some {p:MK × Value} {kd':MK}:lenm (some p) (some (kd',me))=some (True,{ v:=.val (.int .i64 me.length) }):=rfl
end
theorem boxr_if {x:AV}:boxr x=if x.cells.all AV.ro && x.shr then some (True,{ v:=.rptr x.cells }) else none:=rfl
attribute [simp] srcM_nil srcM_lst srcM_E baseM_nil baseM_E appM_E mcont_mp Q9D Q9A updv_mp lookv_agg updv_agg makv_some lenm_some boxr_if inZ AV.ro AV.shr MK.is
attribute [simp] rl
def Em {α β:Type} (ek:α→Value) (ev:β→Value) (xs:List (α × β)):List (Value × Value):=xs.map fun p=>(ek p.1,ev p.2)
def Q2o {α β:Type} [DecidableEq α] (k:α):List (α × β)→Option β
 | []=>none
 | (a,v) :: r=>if a=k then some v else Q2o k r
def tset {α β:Type} [DecidableEq α] (k:α) (v:β):List (α × β)→List (α × β)
 | []=>[(k,v)]
 | (a,x) :: r=>if a=k then (a,v) :: r else (a,x) :: tset k v r
theorem Q8X {α β:Type} [DecidableEq α] {ek:α→Value} {ev:β→Value} (hi:∀ a b,ek a=ek b→a=b) (k:α):∀ xs:List (α × β),Q1s (ek k) (Em ek ev xs)=(Q2o k xs).map ev:=by
 intro xs
 induction xs with
 | nil=>rfl
 | cons p r ih =>
  obtain ⟨a,v⟩:=p;simp only [Em,qQ,Q1s,Q2o]
  by_cases h:a=k
  ·subst h;simp
  rw [if_neg (fun h'=>h (hi _ _ h')),if_neg h];exact ih
theorem mset_Em {α β:Type} [DecidableEq α] {ek:α→Value} {ev:β→Value} (hi:∀ a b,ek a=ek b→a=b) (k:α) (v:β):∀ xs:List (α × β),mset (ek k) (ev v) (Em ek ev xs)=Em ek ev (tset k v xs):=by
 intro xs
 induction xs with
 | nil=>rfl
 | cons p r ih =>
  obtain ⟨a,x⟩:=p;simp only [Em,qQ,mset,tset]
  by_cases h:a=k
  ·subst h;simp
  rw [if_neg (fun h'=>h (hi _ _ h')),if_neg h];simp only [qQ];have:mset (ek k) (ev v) (r.map fun p=>(ek p.1,ev p.2))=(tset k v r).map fun p=>(ek p.1,ev p.2):=ih;rw [this]
def vI (x:Int):Value:=.int .i64 x
def vS (x:ByteArray):Value:=.string x
def Mii (xs:List (Int × Int)):List (Value × Value):=Em vI vI xs
def Msi (xs:List (ByteArray × Int)):List (Value × Value):=Em vS vI xs
theorem vI_inj (a b:Int) (h:vI a=vI b):a=b:=by cases h;rfl
@[simp] theorem Mii_nil:Mii []=[]:=rfl
@[simp] theorem Msi_nil:Msi []=[]:=rfl
@[simp] theorem Mii_length (xs:List (Int × Int)):(Mii xs).length=xs.length:=by simp [Mii,Em]
@[simp] theorem find_Mii (k:Int) (xs:List (Int × Int)):(Q1s (.int .i64 k) (Mii xs)).getD (.int .i64 0) = .int .i64 ((Q2o k xs).getD 0):=by
 have:=Q8X (ev:=vI) vI_inj k xs;show ((Q1s (vI k) (Em vI vI xs)).getD (vI 0))=_;rw [this];cases Q2o k xs<;>rfl
@[simp] theorem some_Mii (k:Int) (xs:List (Int × Int)):(Q1s (.int .i64 k) (Mii xs)).isSome=(Q2o k xs).isSome:=by
 have:=Q8X (ev:=vI) vI_inj k xs;show (Q1s (vI k) (Em vI vI xs)).isSome=_;rw [this];cases Q2o k xs<;>rfl
@[simp] theorem set_Mii (k v:Int) (xs:List (Int × Int)):mset (.int .i64 k) (.int .i64 v) (Mii xs)=Mii (tset k v xs):=mset_Em (ev:=vI) vI_inj k v xs
@[simp] theorem set_Mii0 (k v:Int):mset (.int .i64 k) (.int .i64 v) []=Mii [(k,v)]:=rfl
@[simp] theorem set_Msi0 (k:ByteArray) (v:Int):mset (.string k) (.int .i64 v) []=Msi [(k,v)]:=rfl
structure RetF (keep:Bool) (ts:List Nat) (st:St) (rs:List AV):Prop where
 len:rs.length=ts.length
 pur:∀ k,k<ts.length→PurTo st.hp (st.get (ts.getD k 0)) (rs.getD k .bot)
 own:keep=false→∀ k,k<ts.length→(match st.get (ts.getD k 0) with|.val _=>True|.mp _=>True|_=>False)
theorem RetF.nil {keep:Bool} {st:St}:RetF keep [] st []:=⟨rfl,fun k hk=>by simp at hk,fun _ k hk=>by simp at hk⟩
theorem RetF.cons {keep:Bool} {t:Nat} {ts:List Nat} {st:St} {r:AV} {rs:List AV} (hp:PurTo st.hp (st.get t) r) (ho:keep=false→(match st.get t with|.val _=>True|.mp _=>True|_=>False)) (h:RetF keep ts st rs):RetF keep (t :: ts) st (r :: rs):=by
 refine ⟨by simp [h.len],fun k hk=>?_,fun hkp k hk=>?_⟩
 ·cases k with
  | zero=>exact hp
  | succ k=>simpa using h.pur k (by simpa using hk)
 cases k with
 | zero=>exact ho hkp
 | succ k=>simpa using h.own hkp k (by simpa using hk)
end
section
attribute [local simp] Qd Qt Ql
theorem wp_wk {P:Program} [Kd P] {F:Fx} {c:Code} {AQ:Exit→St→Prop} {st:St} (h:Wp P F c (fun e st=>∃ st',Wk F st st'∧AQ e st') st):Wp P F c AQ st:=by
 intro a w hr;refine Q5N (h a w hr) fun e a w he=>?_;obtain ⟨st1,h1,st2,h2,h3⟩:=he;exact ⟨st2,h2 a w h1,h3⟩
def iretWQ (F:Fx) (ts:List Nat) (H:List (Nat × Ent)) (n:Nat) (e:Eff):Exit→St→Prop
 | .normal,st=>∃ st',Wk F st st'∧IRet ts H n e st'
 | .ret,st=>∃ st',Wk F st st'∧IRet ts H n e st'
 | _,_=>False
theorem Q2g {P:Program} [Kd P] {f:Nat} {fn:Func} {c:Code} {az:List AV} {ts:List Nat} {H:List (Nat × Ent)} {n:Nat} {e:Eff} (hf:P.funcs[f]? = some fn) (hb:fn.body=some c) (hrt:resT fn.results=some ts)
  (hname : (fn.name == "runtime.NumGoroutine") = false) (hN : az.length ≤ fn.ntmps) (hH : ∀ p ∈ H, p.1 < n) (hfine : e.fine n) (hnew : ∀ id, n ≤ id → id < n + e.cnt → id ∈ e.new.map Prod.fst)
  (h:∀ F:Fx,F.N=fn.ntmps→F.pins=n→Wp P F c (iretWQ F ts H n e) ⟨Q3i 0 az,H,n⟩):ICon P f az (fun id=>look id H) n e:=by
 refine Q69 hf hb hrt hname hN hH hfine hnew fun F h1 h2=>wp_wk (Wp.mono ?_ (h F h1 h2));intro ex st hq;cases ex with
 | normal=>exact hq
 | ret=>exact hq
 | _=>exact hq.elim
theorem iw_r {F:Fx} {ts:List Nat} {H:List (Nat × Ent)} {n:Nat} {e:Eff} {st st':St} (h:Wk F st st') (h2:IRet ts H n e st'):iretWQ F ts H n e .ret st:=⟨st',h,h2⟩
theorem iw_n {F:Fx} {ts:List Nat} {H:List (Nat × Ent)} {n:Nat} {e:Eff} {st st':St} (h:Wk F st st') (h2:IRet ts H n e st'):iretWQ F ts H n e .normal st:=⟨st',h,h2⟩
structure IRetG (P:Program) (rvs:List ResultVar) (H:List (Nat × Ent)) (n:Nat) (e:Eff) (st:St):Prop where
 res:∃ az,RGet P st rvs az∧Q14 az=e.v
 n:st.n=n+e.cnt
 h:st.h=Q4K e.set (Q42 e.del H)++e.new
def pinsB (n:Nat) (m:List (Nat × Nat)):Bool:=(List.range n).all fun i=>look i m == some i
theorem pins_ok {n:Nat} {m:List (Nat × Nat)} (h:pinsB n m=true):∀ id,id<n→look id m=some id:=by
 intro id hid;unfold pinsB at h;have:=List.all_eq_true.1 h id (List.mem_range.2 hid);simpa using this
theorem Wk.rP {F:Fx} {st st':St} (n:Nat) (m:List (Nat × Nat)) (hP:F.pins=n) (hpin:pinsB n m=true)
  (h:(m.map Prod.fst).Nodup∧(m.map Prod.snd).Nodup∧(∀ p∈m,p.2<st'.n)∧(∀ p∈st'.h,p.1<st'.n)∧(∀ p∈st'.s,p.2=rl m (st.get p.1)∨p.2 = .bot)∧∀ p∈st'.h,hhOk m st.h p.1 p.2):Wk F st st' :=
 Wk.rel m h.1 h.2.1 (by rw [hP];exact pins_ok hpin) h.2.2.1 h.2.2.2.1 h.2.2.2.2.1 h.2.2.2.2.2
theorem Q7a {e:Eff} {n:Nat} (h:(∀ p∈e.new,n≤p.1∧p.1<n+e.cnt)∧(e.new.map Prod.fst).Nodup∧(∀ x∈e.del,x<n)∧(e.set.map Prod.fst).Nodup∧∀ p∈e.set,p.1<n):e.fine n:=⟨h.1,h.2.1,h.2.2.1,h.2.2.2⟩
def newB (n cnt:Nat) (l:List Nat):Bool:=(List.range cnt).all fun i=>l.contains (n+i)
theorem newI {e:Eff} {n:Nat} (h:newB n e.cnt (e.new.map Prod.fst)=true):∀ id,n≤id→id<n+e.cnt→id∈e.new.map Prod.fst:=by
 intro id h1 h2;unfold newB at h;have:=List.all_eq_true.1 h (id - n) (List.mem_range.2 (by omega));rw [show n+(id - n)=id by omega] at this;simpa using this
end
section
attribute [local simp] Qd Qt Ql
def Q6I:Ent→Bool
 | .ali _ _ _ _=>false
 | _=>true
def rlE' (m:List (Nat × Nat)) (x:Ent):Ent:=(rlE m x).getD x
@[simp] theorem rlE'_mix {m:List (Nat × Nat)} {sz:Nat} {es:List (List AV)}:rlE' m (.mix sz es) = .mix sz (rlLL m es):=rfl
@[simp] theorem rlE'_row {m:List (Nat × Nat)} {sz:Nat} {es:List (List AV)}:rlE' m (.row sz es) = .row sz es:=rfl
@[simp] theorem rlE'_map {m:List (Nat × Nat)} {kd:MK} {es:List (Value × Value)}:rlE' m (.mapE kd es) = .mapE kd es:=rfl
end
end Go.Vc
