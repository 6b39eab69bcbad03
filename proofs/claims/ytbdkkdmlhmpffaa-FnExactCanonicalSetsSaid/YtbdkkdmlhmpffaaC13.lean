/- A part of the proof: a verified generator of conditions, and what each function of the program does. -/
import Derived.Test.YtbdkkdmlhmpffaaC12
import Derived.IntWalk
import Derived.Laws.BytesString
import Derived.Scope
set_option maxRecDepth 100000
set_option maxHeartbeats 4000000
set_option linter.unusedSimpArgs false
set_option linter.unusedVariables false
set_option linter.unusedSectionVars false
set_option linter.unnecessarySimpa false

namespace Go.Vc
open Go
inductive Good:AV→Prop
 | val {v}:sc v→Good (.val v)
 | lst {u sz es}:es.length≤maxLen→(∀ i,i<es.length→(es.getD i []).length=sz)→(∀ i k,i<es.length→k<sz→Good ((es.getD i []).getD k .bot))→Good (.lst u sz es)
 | rptr {cs}:(∀ k,k<cs.length→Good (cs.getD k .bot))→Good (.rptr cs)
 | agg {cs}:(∀ k,k<cs.length→Good (cs.getD k .bot))→Good (.agg cs)
 | other {a}:(match a with|.val _|.lst _ _ _|.rptr _|.agg _=>False|_=>True)→Good a
theorem RRel.good {w:World} {R:Nat→Prop} {v:Value} {a:AV} (h:RRel w R v a):Good a:=by
 induction h with
 | val h=>exact .val h
 | nil=>exact .lst (by simp) (fun i hi=>by simp at hi) (fun i k hi=>by simp at hi)
 | lst us _ _ h1 h2 h3 _ _ _ ih=>exact .lst (by omega) h3 ih
 | rptr us _ _ _ _ _ ih=>exact .rptr ih
 | fn=>exact .other trivial
 | bnd=>exact .other trivial
 | ifc=>exact .other trivial
 | ifs=>exact .other trivial
 | cmap=>exact .other trivial
 | bot=>exact .other trivial
theorem XRel.good {w:World} {R:Nat→Prop} {ρ:Nat→Option Bk} {v:Value} {a:AV} (h:XRel w R ρ v a):Good a:=by
 induction h with
 | r h=>exact h.good
 | agg _ _ _ ih=>exact .agg ih
 | _=>exact .other trivial
section
variable {P:Program} [Kd P] {F:Fx} {AQ:Exit→St→Prop} {st:St} {c:Code}
theorem Q6p (t:Nat) (h:Good (st.get t)→Wp P F c AQ st):Wp P F c AQ st:=by
 intro a w hr;have:Good (st.get t):=by
  obtain ⟨_,_,_,_,_,o,ρ,_,_,hx,_⟩:=hr;exact (hx t).good
 exact h this a w hr
theorem w_sr {id:Nat} {ops:Array Oper} {d:Bool} {y:Code} (hm:P.follows .mixedOrders=true) (hok:(okN F.N ops && (!d || (Q4a false ops && Q2J ops)))=true)
  (h:∀ K:St→Prop,(∀ st',Wp P F y AQ st'→K st')→QY P false ops ops.toList st K):Wp P F (.seq (.region id ops d) y) AQ st :=
 Q0 (Qbj hm hok fun K hK=>h K fun st' h'=>hK st' h')
theorem Q4v {id:Nat} {ops:Array Oper} {d:Bool} {y:Code} (hm:P.follows .mixedOrders=true) (hok:(okN F.N ops && (!d || (Q4a true ops && Q2J ops)))=true)
  (h:∀ K:St→Prop,(∀ st',Wp P F y AQ st'→K st')→QY P true ops ops.toList st K):Wp P F (.seq (.region id ops d) y) AQ st :=
 Q0 (w_runM hm hok fun K hK=>h K fun st' h'=>hK st' h')
end
def Is (xs:List Int):List (List AV):=xs.map fun x=>[.val (.int .i64 x)]
@[simp] theorem Is_length (xs:List Int):(Is xs).length=xs.length:=by simp [Is]
@[simp] theorem Is_nil:Is []=[]:=rfl
theorem Is_get (xs:List Int) (i:Nat) (h:i<xs.length):(Is xs).getD i []=[.val (.int .i64 (xs.getD i 0))]:=by
 simp [Is,List.getD_eq_getElem?_getD,h]
theorem Is_append (xs ys:List Int):Is (xs++ys)=Is xs++Is ys:=by simp [Is]
def B64 (x:Int):Prop:=-9223372036854775808≤x∧x≤9223372036854775807
theorem Good.is {u:Bool} {xs:List Int} (h:Good (.lst u 1 (Is xs))):xs.length≤9223372036854775807∧∀ x∈xs,B64 x:=by
 cases h with
 | lst h1 h2 h3 =>
  refine ⟨by rw [Is_length] at h1;exact Nat.le_trans h1 (by decide),fun x hx=>?_⟩;obtain ⟨i,hi,rfl⟩:=List.getElem_of_mem hx;have:=h3 i 0 (by simpa using hi) (by omega);rw [Is_get _ _ hi] at this;simp only [List.getD_cons_zero] at this;cases this with
  | val h =>
   simp only [sc] at h;have e1:IntKind.i64.min = -9223372036854775808:=(by decide);have e2:IntKind.i64.max=9223372036854775807:=(by decide);simpa [List.getD_eq_getElem?_getD,hi,B64,e1,e2] using h
  | other h=>exact h.elim
 | other h=>exact h.elim
@[simp] theorem i64_min:IntKind.i64.min = -9223372036854775808:=by decide
theorem Qp {x:Int} (h:B64 x):IntKind.i64.wrap x=x:=IntWalk.i64_in x h
theorem QC (xs:List Int) (i:Nat) (h:i<xs.length):(Is xs)[i]? = some [.val (.int .i64 xs[i])]:=by simp [Is,h]
attribute [local simp] QC
theorem Qq (xs:List Int) (i:Nat) (h:i<(Is xs).length):(Is xs)[i]=[.val (.int .i64 (xs[i]'(by simpa using h)))]:=by simp [Is]
attribute [local simp] Qq
@[simp] theorem Is_set (xs:List Int) (i:Nat) (x:Int):(Is xs).set i [.val (.int .i64 x)]=Is (xs.set i x):=by simp [Is,List.map_set]
@[simp] theorem Is_rep (n:Nat) (x:Int):List.replicate n [.val (.int .i64 x)]=Is (List.replicate n x):=by simp [Is]
theorem Qm {t:Nat} {v v':Value} {st:St} (h:st.get t = .val v) (e:v=v'):RetA [t] st [.val v']:=by
 subst e;refine ⟨?_,[.val v],[],?_,.nil,UpL.refl _⟩
 ·simp only [List.map_cons,List.map_nil,h];exact .one rfl rfl .nil
 simp only [List.map_cons,List.map_nil,h,List.flatMap_cons,List.flatMap_nil,AV.cells,List.append_nil];rfl
theorem Q58 {t id n sz:Nat} {es fs:List (List AV)} {st:St} (h:st.get t = .own id 0 n) (he:look id st.h=some (.row sz es)) (hn:es.length=n) (e:es=fs):RetA [t] st [.lst true sz fs]:=by
 subst e;refine ⟨?_,[.lst true sz es],[id],?_,by simp,UpL.refl _⟩
 ·simp only [List.map_cons,List.map_nil,h];exact .one rfl rfl .nil
 have he':st.hp id=some (.row sz es):=he;simp only [List.map_cons,List.map_nil,h,List.flatMap_cons,List.flatMap_nil,AV.cells,List.append_nil];simp [Q2l,layC,layD,Go.Vc.depth,he',hn]
theorem Qu {i n:Nat} (h:i<n) (hn:n≤9223372036854775807):IntKind.i64.wrap ((i:Int)+1)=((i+1:Nat):Int):=by
 rw [Qp ⟨by omega,by omega⟩];rfl
def contE (h:HP) (d:Nat):Option Ent→Option (Nat × List (List AV))
 | some (.mix sz es)=>some (sz,es)
 | some (.row sz es)=>some (sz,es)
 | some (.ali c i k sz)=>if QD (h c) then none else match cont h d c with
   | some (_,es)=>match (es.getD i []).getD k .bot with
    | .lst true sz' es'=>if sz'=sz then some (sz,es') else none
    | _=>none
   | none=>none
 | some (.mapE _ _)=>none
 | none=>none
theorem cont_E {h:HP} {d id:Nat}:cont h (d+1) id=contE h d (h id):=by
 simp only [cont];cases h id with
 | none=>rfl
 | some e=>cases e<;>rfl
def wrE (h:HP) (d id:Nat) (es:List (List AV)):Option Ent→Option (List (Nat × Ent))
 | some (.mix sz _)=>some [(id,.mix sz es)]
 | some (.row sz _)=>some [(id,.row sz es)]
 | some (.ali c i k sz)=>match cont h d c with
   | some (_,fs)=>wr h d c (fs.set i ((fs.getD i []).set k (.lst true sz es)))
   | none=>none
 | some (.mapE _ _)=>none
 | none=>none
theorem wr_E {h:HP} {d id:Nat} {es:List (List AV)}:wr h (d+1) id es=wrE h d id es (h id):=by
 simp only [wr];cases h id with
 | none=>rfl
 | some e=>cases e<;>rfl
def Q8Q (t:Tyi) (id i k n:Nat):Option (Nat × List (List AV))→Option (Prop × Eff)
 | some (sz,es)=>some (i<es.length∧k+t.sz≤sz,{ v:=bif t.agg then .agg (Q1c id i k n (((es.getD i []).drop k).take t.sz)).1 else (Q1c id i k n (((es.getD i []).drop k).take t.sz)).1.getD 0 .bot,new:=(Q1c id i k n (((es.getD i []).drop k).take t.sz)).2,cnt:=t.sz })
 | none=>none
def loadE (t:Tyi) (id i k n:Nat) (h:HP):Option Ent→Option (Prop × Eff)
 | some (.mix sz es)=>some (i<es.length∧k+t.sz≤sz,{ v:=bif t.agg then .agg (((es.getD i []).drop k).take t.sz) else (es.getD i []).getD k .bot })
 | some (.row sz es)=>Q8Q t id i k n (some (sz,es))
 | some (.ali _ _ _ _)=>Q8Q t id i k n (cont h depth id)
 | some (.mapE _ _)=>none
 | none=>none
theorem loadv_E {t:Tyi} {id i k n:Nat} {h:HP}:Q3O (some t) (.adr id i k) h n=loadE t id i k n h (h id):=by
 simp only [Q3O,loadE];cases he:h id with
 | none=>rfl
 | some e =>
  cases e with
  | mix=>rfl
  | row sz es =>
   have:cont h depth id=some (sz,es):=(by simp [cont,depth,he]);simp only [this,Q8Q]
  | ali=>simp only [Q8Q];cases cont h depth id<;>rfl
  | mapE kd es =>
   have:cont h depth id=none:=(by simp [cont,depth,he]);simp only [this]
def Q5s (t:Tyi) (id i k:Nat) (x:AV) (h:HP):Option (Nat × List (List AV))→Option (Prop × Eff)
 | some (sz,es)=>match x with
  | .val v=>if t.sz=1∧Q88 v=true then
    match wr h depth id (es.set i ((es.getD i []).set k (.val v))) with
    | some s=>some (i<es.length∧k<sz,{ v:=.bot,set:=s })
    | none=>none
   else none
  | _=>none
 | none=>none
def Q8i (t:Tyi) (id i k:Nat) (x:AV) (h:HP):Option Ent→Option (Prop × Eff)
 | some (.mix sz es)=>if x.cells.length=t.sz && Q5y x then
    some (i<es.length∧k+t.sz≤sz,{ v:=.bot,set:=[(id,.mix sz (es.set i (Q1Q (es.getD i []) k x.cells)))] })
   else none
 | some (.row _ _)=>Q5s t id i k x h (cont h depth id)
 | some (.ali _ _ _ _)=>Q5s t id i k x h (cont h depth id)
 | some (.mapE _ _)=>none
 | none=>none
theorem storev_E {t:Tyi} {id i k:Nat} {x:AV} {h:HP}:Q3S (some t) (.adr id i k) x h=Q8i t id i k x h (h id):=by
 simp only [Q3S,Q8i];cases he:h id with
 | none=>rfl
 | some e =>
  cases e with
  | mapE kd es =>
   have:cont h depth id=none:=(by simp [cont,depth,he]);simp only [this]
  | _=>first|rfl|(simp only [Q5s];cases cont h depth id<;>rfl)
def layE (h:HP) (d:Nat) (id n:Nat):Option Ent→Option (AV × List Nat)
 | some (.row sz es)=>if es.length=n then some (.lst true sz es,[id]) else none
 | some (.mix sz es)=>if es.length=n then match Q21 (layD h d) es with
   | some (q,ds)=>some (.lst true sz q,id :: ds)
   | none=>none
   else none
 | some (.ali _ _ _ _)=>none
 | some (.mapE _ _)=>none
 | none=>none
theorem layD_val {h:HP} {d:Nat} {v:Value}:layD h (d+1) (.val v)=some (.val v,[]):=rfl
theorem layD_E {h:HP} {d id n:Nat}:layD h (d+1) (.own id 0 n)=layE h d id n (h id):=by
 simp only [layD,layE];cases he:h id with
 | none=>rfl
 | some e=>cases e<;>rfl
def idxC (t:Tyi) (id off n:Nat) (j:Int):Option (Nat × List (List AV))→Option (Prop × Eff)
 | some (sz,_)=>if sz=t.sz then some (0≤j∧j<n,{ v:=.adr id (off+j.toNat) 0 }) else none
 | none=>none
theorem Q8N {t:Tyi} {id off n:Nat} {k:IntKind} {j:Int} {h:HP}:Q1n (some t) (.own id off n) (.val (.int k j)) h=idxC t id off n j (cont h depth id):=by
 simp only [Q1n,idxC];cases cont h depth id<;>rfl
theorem Q8M {t:Tyi} {u:Bool} {sz:Nat} {es:List (List AV)} {k:IntKind} {j:Int} {h:HP} :
  Q1n (some t) (.lst u sz es) (.val (.int k j)) h=if sz=t.sz then some (0≤j∧j<es.length,{ v:=.rptr (es.getD j.toNat []) }) else none:=rfl
def srcE (h:HP) (sz id off n:Nat):Option Ent→Option (Prop × List (List AV) × List Nat)
 | some (.mix sz' es)=>if sz'=sz then match Q4G h ((es.drop off).take n) with
   | some (q,d)=>some (off+n≤es.length,q,d)
   | none=>none
   else none
 | some (.row sz' es)=>if sz'=sz then some (off+n≤es.length∧∀ e∈es,∀ c∈e,isVal c=true,(es.drop off).take n,[]) else none
 | some (.ali _ _ _ _)=>match cont h depth id with
   | some (sz',es)=>if sz'=sz then some (off+n≤es.length∧∀ e∈es,∀ c∈e,isVal c=true,(es.drop off).take n,[]) else none
   | none=>none
 | some (.mapE _ _)=>none
 | none=>none
theorem src_nil {h:HP} {sz:Nat}:src h sz (.val (.slice none 0 0))=some (True,[],[]):=rfl
theorem src_lst {h:HP} {sz:Nat} {u:Bool} {sz':Nat} {es:List (List AV)}:src h sz (.lst u sz' es)=if sz'=sz then some (∀ e∈es,∀ c∈e,isVal c=true,es,[]) else none:=rfl
theorem src_E {h:HP} {sz id off n:Nat}:src h sz (.own id off n)=srcE h sz id off n (h id):=by
 simp only [src,srcE];cases he:h id with
 | none=>rfl
 | some e =>
  cases e with
  | mix=>rfl
  | row sz' es =>
   have:cont h depth id=some (sz',es):=(by simp [cont,depth,he]);simp only [this]
  | mapE kd es =>
   have:cont h depth id=none:=(by simp [cont,depth,he]);simp only [this]
  | ali=>rfl
def baseE (h:HP) (sz id m:Nat):Option Ent→Option (Prop × List (List AV) × List Nat × List Nat)
 | some (.row sz' es)=>if sz'=sz then some (m≤es.length,es.take m,[id],[]) else none
 | some (.mix sz' es)=>if sz'=sz then match Q4G h (es.take m) with
   | some (q,d)=>some (m≤es.length,q,[id],d)
   | none=>none
   else none
 | some (.ali _ _ _ _)=>none
 | some (.mapE _ _)=>none
 | none=>none
theorem base_nil {h:HP} {sz:Nat}:base h sz (.val (.slice none 0 0))=some (True,[],[],[]):=rfl
theorem base_E {h:HP} {sz id m:Nat}:base h sz (.own id 0 m)=baseE h sz id m (h id):=by
 simp only [base,baseE];cases he:h id with
 | none=>rfl
 | some e=>cases e<;>rfl
def appE (t:Tyi) (n:Nat):Option (Prop × List (List AV) × List Nat × List Nat)→Option (Prop × List (List AV) × List Nat)→Option (Prop × Eff)
 | some (c1,es,i,d1),some (c2,news,d2) =>
   if (n :: (i++(d1++d2))).Nodup then
    some (c1∧c2∧(es.length+news.length) * t.bytes≤140737488355328∧es.length+news.length≤140737488355328∧0<t.sz,
     { v:=.own n 0 (es.length+news.length),del:=i++(d1++d2),new:=[(n,.row t.sz (es++news))],cnt:=1 }) else none
 | _,_=>none
theorem appendv_E {t:Tyi} {s x:AV} {h:HP} {n:Nat}:Q2r (some t) s x h n=appE t n (base h t.sz s) (src h t.sz x):=by
 simp only [Q2r,appE];cases base h t.sz s with
 | none=>rfl
 | some p=>cases src h t.sz x<;>rfl
def slcC (t:Tyi) (id off n:Nat) (lo hi:Int):Option (Nat × List (List AV))→Option (Prop × Eff)
 | some (sz,_)=>if sz=t.sz then some (0≤lo∧lo≤hi∧hi≤n,{ v:=.own id (off+lo.toNat) (hi - lo).toNat }) else none
 | none=>none
theorem Q92 {t:Tyi} {h:HP} {id off n:Nat} {lo hi:Int}:Q1p t h (.own id off n) lo hi=slcC t id off n lo hi (cont h depth id):=by
 simp only [Q1p,slcC];cases cont h depth id<;>rfl
theorem Q91 {t:Tyi} {h:HP} {u:Bool} {sz:Nat} {es:List (List AV)} {lo hi:Int} :
  Q1p t h (.lst u sz es) lo hi=if sz=t.sz then some (0≤lo∧lo≤hi∧hi≤es.length,{ v:=.lst u sz ((es.drop lo.toNat).take (hi - lo).toNat) }) else none:=rfl
@[simp] theorem hp_mk {s:List (Nat × AV)} {h:List (Nat × Ent)} {n id:Nat}:St.hp ⟨s,h,n⟩ id=look id h:=rfl
section
variable {h:HP} {d id n k i c j l off m sz:Nat} {es:List (List AV)} {t:Tyi} {x:AV} {q:Int}
@[simp] theorem contE_mix:contE h d (some (.mix sz es))=some (sz,es):=rfl
@[simp] theorem contE_row:contE h d (some (.row sz es))=some (sz,es):=rfl
def contI (h:HP) (d i k sz:Nat):Bool→Option (Nat × List (List AV))→Option (Nat × List (List AV))
 | true,_=>none
 | false,some (_,es)=>match (es.getD i []).getD k .bot with
    | .lst true sz' es'=>if sz'=sz then some (sz,es') else none
    | _=>none
 | false,none=>none
@[simp] theorem contE_ali:contE h d (some (.ali c i k sz))=contI h d i k sz (QD (h c)) (cont h d c):=by
 simp only [contE,contI];cases QD (h c) with
 | true=>rfl
 | false=>simp only [Bool.false_eq_true,if_false];cases cont h d c<;>rfl
@[simp] theorem contI_some {z:Nat}:contI h d i k sz false (some (z,es))=match (es.getD i []).getD k .bot with
    | .lst true sz' es'=>if sz'=sz then some (sz,es') else none
    | _=>none:=rfl
@[simp] theorem wrE_mix:wrE h d id es (some (.mix sz es))=some [(id,.mix sz es)]:=rfl
@[simp] theorem wrE_row {fs:List (List AV)}:wrE h d id es (some (.row sz fs))=some [(id,.row sz es)]:=rfl
@[simp] theorem loadC_some:Q8Q t id i k n (some (sz,es))=some (i<es.length∧k+t.sz≤sz,{ v:=bif t.agg then .agg (Q1c id i k n (((es.getD i []).drop k).take t.sz)).1 else (Q1c id i k n (((es.getD i []).drop k).take t.sz)).1.getD 0 .bot,new:=(Q1c id i k n (((es.getD i []).drop k).take t.sz)).2,cnt:=t.sz }):=rfl
@[simp] theorem loadE_mix:loadE t id i k n h (some (.mix sz es))=some (i<es.length∧k+t.sz≤sz,{ v:=bif t.agg then .agg (((es.getD i []).drop k).take t.sz) else (es.getD i []).getD k .bot }):=rfl
@[simp] theorem loadE_row:loadE t id i k n h (some (.row sz es))=Q8Q t id i k n (some (sz,es)):=rfl
@[simp] theorem loadE_ali:loadE t id i k n h (some (.ali c j l sz))=Q8Q t id i k n (cont h depth id):=rfl
@[simp] theorem loadv_rptr {cs:List AV}:Q3O (some t) (.rptr cs) h n=some (t.sz≤cs.length,{ v:=bif t.agg then .agg (cs.take t.sz) else cs.getD 0 .bot }):=rfl
@[simp] theorem storeC_some {v:Value}:Q5s t id i k (.val v) h (some (sz,es))=if t.sz=1∧Q88 v=true then (wr h depth id (es.set i ((es.getD i []).set k (.val v)))).map (fun s=>(i<es.length∧k<sz,{ v:=.bot,set:=s })) else none:=by
 simp only [Q5s];split
 ·cases wr h depth id (es.set i ((es.getD i []).set k (.val v)))<;>rfl
 rfl
@[simp] theorem storeC_own {a b c:Nat}:Q5s t id i k (.own a b c) h (some (sz,es))=none:=rfl
@[simp] theorem storeE_mix:Q8i t id i k x h (some (.mix sz es))=if x.cells.length=t.sz && Q5y x then
    some (i<es.length∧k+t.sz≤sz,{ v:=.bot,set:=[(id,.mix sz (es.set i (Q1Q (es.getD i []) k x.cells)))] }) else none:=rfl
@[simp] theorem storeE_row:Q8i t id i k x h (some (.row sz es))=Q5s t id i k x h (cont h depth id):=rfl
@[simp] theorem storeE_ali:Q8i t id i k x h (some (.ali c j l sz))=Q5s t id i k x h (cont h depth id):=rfl
@[simp] theorem layE_row:layE h d id n (some (.row sz es))=if es.length=n then some (.lst true sz es,[id]) else none:=rfl
@[simp] theorem layE_mix:layE h d id n (some (.mix sz es))=if es.length=n then (Q21 (layD h d) es).map (fun p=>(.lst true sz p.1,id :: p.2)) else none:=by
 simp only [layE];split
 ·cases Q21 (layD h d) es<;>rfl
 rfl
@[simp] theorem idxC_some:idxC t id off n q (some (sz,es))=if sz=t.sz then some (0≤q∧q<n,{ v:=.adr id (off+q.toNat) 0 }) else none:=rfl
@[simp] theorem srcE_mix {z:Nat}:srcE h sz id off n (some (.mix z es))=if z=sz then (Q4G h ((es.drop off).take n)).map (fun p=>(off+n≤es.length,p.1,p.2)) else none:=by
 simp only [srcE];split
 ·cases Q4G h ((es.drop off).take n)<;>rfl
 rfl
@[simp] theorem srcE_row {z:Nat}:srcE h sz id off n (some (.row z es))=if z=sz then some (off+n≤es.length∧∀ e∈es,∀ c∈e,isVal c=true,(es.drop off).take n,[]) else none:=rfl
@[simp] theorem baseE_row {z:Nat}:baseE h sz id m (some (.row z es))=if z=sz then some (m≤es.length,es.take m,[id],[]) else none:=rfl
@[simp] theorem baseE_mix {z:Nat}:baseE h sz id m (some (.mix z es))=if z=sz then (Q4G h (es.take m)).map (fun p=>(m≤es.length,p.1,[id],p.2)) else none:=by
 simp only [baseE];split
 ·cases Q4G h (es.take m)<;>rfl
 rfl
@[simp] theorem appE_some {c1 c2:Prop} {is d1 d2:List Nat} {news:List (List AV)}:appE t n (some (c1,es,is,d1)) (some (c2,news,d2))=if (n :: (is++(d1++d2))).Nodup then
    some (c1∧c2∧(es.length+news.length) * t.bytes≤140737488355328∧es.length+news.length≤140737488355328∧0<t.sz,
     { v:=.own n 0 (es.length+news.length),del:=is++(d1++d2),new:=[(n,.row t.sz (es++news))],cnt:=1 }) else none:=rfl
@[simp] theorem slcC_some {lo hi:Int}:slcC t id off n lo hi (some (sz,es))=if sz=t.sz then some (0≤lo∧lo≤hi∧hi≤n,{ v:=.own id (off+lo.toNat) (hi - lo).toNat }) else none:=rfl
end
def runE (P:Program) [Kd P] (mt:MT) (all:Array Oper) (os:List Oper) (dst:Option Nat) (st:St) (K:St→Prop) (x:Option (Prop × Eff)):Prop:=Q6C (fun st'=>QY P mt all os st' K) dst st x
def runS (P:Program) [Kd P] (mt:MT) (all:Array Oper) (os:List Oper) (dst:Option Nat) (st:St) (K:St→Prop) (t:TypeId) (av xv:AV) (x:Option (Prop × Eff)):Prop:=Q5b (fun st'=>QY P mt all os st' K) (stoA P mt all t av xv dst os st K) dst st x
def runO (P:Program) [Kd P] (mt:MT) (all:Array Oper) (os:List Oper) (dst:Option Nat) (st:St) (K:St→Prop) (op:Op):Prop:=Q5z P mt all os K (fun st'=>QY P mt all os st' K) dst st op
def Q5j (P:Program) [Kd P] (mt:MT) (all:Array Oper) (os:List Oper) (dst:Option Nat) (st:St) (K:St→Prop) (op:Op) (t:Nat) (want:Bool) (x:AV):Prop:=guardW P mt all os K (fun st'=>QY P mt all os st' K) dst st op t want x
def guardT (P:Program) [Kd P] (mt:MT) (all:Array Oper) (os:List Oper) (dst:Option Nat) (st:St) (K:St→Prop) (op:Op) (want:Bool) (x:Option Nat):Prop:=Q8J P mt all os K (fun st'=>QY P mt all os st' K) dst st op want x
section
variable {P:Program} [Kd P] {mt:MT} {all:Array Oper} {os:List Oper} {dst:Option Nat} {st:St} {K:St→Prop} {op:Op} {ty:TypeId} {pos:String} {af:Array Edge}
@[simp] theorem runE_some {c:Prop} {e:Eff}:runE P mt all os dst st K (some (c,e))=(c∧QY P mt all os (st.app dst e) K):=rfl
@[simp] theorem callE_fn {f:Nat} {caps az:List AV}:callE P mt all az dst os st K (.fn f caps)=Q8A P mt all f (az++caps) dst os st K:=rfl
@[simp] theorem runO_call {x:Operand} {args:Array Operand} {ts:Array TypeId}:runO P mt all os dst st K (.call ⟨.value x,args,ts⟩)=callE P mt all (args.toList.map st.ev) dst os st K (st.ev x):=rfl
@[simp] theorem runO_move {x}:runO P mt all os dst st K (.move x)=QY P mt all os (st.app dst { v:=st.ev x }) K:=by simp [runO,Q5z,Q6C,opF]
@[simp] theorem runO_assign {x}:runO P mt all os dst st K (.assign x)=QY P mt all os (st.app dst { v:=st.ev x }) K:=by simp [runO,Q5z,Q6C,opF]
@[simp] theorem runO_pick {c a b}:runO P mt all os dst st K (.pick c a b)=runE P mt all os dst st K (pick (st.ev c) (st.ev a) (st.ev b)):=rfl
@[simp] theorem runO_alloc {e}:runO P mt all os dst st K (.alloc e)=runE P mt all os dst st K (Vc.alloc (tyi P e) st.n):=rfl
@[simp] theorem runO_box {t x}:runO P mt all os dst st K (.box t x)=runE P mt all os dst st K (boxv (st.ev x) st.n):=rfl
@[simp] theorem runO_build {t parts}:runO P mt all os dst st K (.build t parts)=runE P mt all os dst st K (build (tyi P t) (Q3P P t) (parts.toList.map fun p=>(p.1,st.ev p.2))):=rfl
def elmE (g:TypeId→Option (Prop × Eff)):Option TypeId→Option (Prop × Eff)
 | some e=>g e
 | none=>none
@[simp] theorem elmE_some {g:TypeId→Option (Prop × Eff)} {e:TypeId}:elmE g (some e)=g e:=rfl
@[simp] theorem runO_buildSlice {t len parts}:runO P mt all os dst st K (.buildSlice t len parts)=runE P mt all os dst st K (elmE (fun e=>buildSlice (tyi P e) len (parts.toList.map fun p=>(p.1,st.ev p.2)) st.n) (elm P t)):=by
 simp only [runO,runE,Q5z,opF];cases elm P t<;>rfl
@[simp] theorem runO_load {t a}:runO P mt all os dst st K (.load t a)=runE P mt all os dst st K (Q3O (tyi P t) (st.ev a) st.hp st.n):=rfl
@[simp] theorem runO_store {t a x}:runO P mt all os dst st K (.store t a x)=runS P mt all os dst st K t (st.ev a) (st.ev x) (Q3S (tyi P t) (st.ev a) (st.ev x) st.hp):=rfl
@[simp] theorem runS_some {t:TypeId} {av xv:AV} {c:Prop} {e:Eff}:runS P mt all os dst st K t av xv (some (c,e))=(c∧QY P mt all os (st.app dst e) K):=rfl
@[simp] theorem runS_none {t:TypeId} {av xv:AV}:runS P mt all os dst st K t av xv none=stoA P mt all t av xv dst os st K:=rfl
@[simp] theorem runO_nilCheck {x}:runO P mt all os dst st K (.nilCheck x)=runE P mt all os dst st K (nilCheck (st.ev x)):=rfl
@[simp] theorem runO_binOp {o xt x y yt}:runO P mt all os dst st K (.binOp o xt x y yt)=runE P mt all os dst st K (Q4w (eqT P xt) o (st.ev x) (st.ev y)):=rfl
@[simp] theorem runO_unOp {o t x}:runO P mt all os dst st K (.unOp o t x)=runE P mt all os dst st K (unop o (st.ev x)):=rfl
@[simp] theorem runO_convert {s d x}:runO P mt all os dst st K (.convert s d x)=runE P mt all os dst st K (Q6z (intk P s) (intk P d) (st.ev x)):=rfl
@[simp] theorem runO_makeSlice {t l c}:runO P mt all os dst st K (.makeSlice t l c)=runE P mt all os dst st K (elmE (fun e=>Q5n (tyi P e) (st.ev l) (st.ev c) st.n) (elm P t)):=by
 simp only [runO,runE,Q5z,opF];cases elm P t<;>rfl
@[simp] theorem runO_fieldAddr {t x k}:runO P mt all os dst st K (.fieldAddr t x k)=runE P mt all os dst st K (fieldAddr (fld P t k) (st.ev x)):=rfl
@[simp] theorem runO_field {t x k}:runO P mt all os dst st K (.field t x k)=runE P mt all os dst st K (Q5X (fld P t k) (st.ev x)):=rfl
@[simp] theorem runO_indexAddr {t x i}:runO P mt all os dst st K (.indexAddr t x i)=runE P mt all os dst st K (elmE (fun e=>Q1n (tyi P e) (st.ev x) (st.ev i) st.hp) (elm P t)):=by
 simp only [runO,runE,Q5z,opF];cases elm P t<;>rfl
@[simp] theorem runO_extract {x k}:runO P mt all os dst st K (.extract x k)=runE P mt all os dst st K (Q3h (st.ev x) k):=rfl
@[simp] theorem runO_len {x t ts} (h:ts = #[t]):runO P mt all os dst st K (.call ⟨.builtin .len,#[x],ts⟩)=runE P mt all os dst st K (elmE (fun _=>lenv (st.ev x)) (elm P t)):=by
 subst h;simp only [runO,runE,Q5z,opF,bltF];cases elm P t<;>rfl
@[simp] theorem runO_append {x y t u}:runO P mt all os dst st K (.call ⟨.builtin .append,#[x,y],#[t,u]⟩)=runE P mt all os dst st K (elmE (fun e=>if t=u then Q2r (tyi P e) (st.ev x) (st.ev y) st.hp st.n else none) (elm P t)):=by
 simp only [runO,runE,Q5z,opF,bltF];cases elm P t<;>rfl
@[simp] theorem runO_min {xs ts}:runO P mt all os dst st K (.call ⟨.builtin .min,xs,ts⟩)=runE P mt all os dst st K (Q4h (fun a b=>if b<a then b else a) (xs.toList.map st.ev)):=rfl
@[simp] theorem runO_max {xs ts}:runO P mt all os dst st K (.call ⟨.builtin .max,xs,ts⟩)=runE P mt all os dst st K (Q4h (fun a b=>if b > a then b else a) (xs.toList.map st.ev)):=rfl
@[simp] theorem runOps_nil:QY P mt all [] st K=K st:=rfl
@[simp] theorem runOps_go:QY P mt all (⟨dst,op,ty,pos,af,none⟩ :: os) st K=runO P mt all os dst st K op:=rfl
@[simp] theorem runOps_guard {j:Nat} {want:Bool}:QY P mt all (⟨dst,op,ty,pos,af,some (j,want)⟩ :: os) st K=guardT P mt all os dst st K op want ((all[j]?).bind (·.dst)):=rfl
@[simp] theorem guardT_some {want:Bool} {t:Nat}:guardT P mt all os dst st K op want (some t)=Q5j P mt all os dst st K op t want (st.get t):=rfl
theorem Qc {want:Bool} {t:Nat} {b:Bool}:Q5j P mt all os dst st K op t want (.val (.bool b))=((b=want→runO P mt all os dst (st.put t (.val (.bool want))) K op)∧(b = !want→QY P mt all os ((st.put t (.val (.bool !want))).app dst { v:=.tup [] }) K)):=rfl
attribute [local simp] Qc
@[simp high] theorem guardE_tup {t:Nat} {want:Bool}:Q5j P mt all os dst st K op t want (.tup [])=QY P mt all os (st.app dst { v:=.tup [] }) K:=rfl
@[simp high] theorem guardE_tt {t:Nat}:Q5j P mt all os dst st K op t true (.val (.bool true))=runO P mt all os dst (st.put t (.val (.bool true))) K op:=by simp [Qc]
@[simp high] theorem guardE_ff {t:Nat}:Q5j P mt all os dst st K op t false (.val (.bool false))=runO P mt all os dst (st.put t (.val (.bool false))) K op:=by simp [Qc]
@[simp high] theorem guardE_tf {t:Nat}:Q5j P mt all os dst st K op t true (.val (.bool false))=QY P mt all os ((st.put t (.val (.bool false))).app dst { v:=.tup [] }) K:=by simp [Qc]
@[simp high] theorem guardE_ft {t:Nat}:Q5j P mt all os dst st K op t false (.val (.bool true))=QY P mt all os ((st.put t (.val (.bool true))).app dst { v:=.tup [] }) K:=by simp [Qc]
end
attribute [simp] cont_E wr_E loadv_E storev_E layD_val layD_E Q8N Q8M src_nil src_lst src_E base_nil base_E appendv_E Q92 Q91
attribute [simp] rl rlL rlLL rlE Q88 St.ev cst scB St.app putS Q5q Q4A Q3v St.get look lenv Q4w Qaq unop pick St.put setH delH fieldAddr Q5X nilCheck depth QD Q4c Q5T roundA Q5n Q6z Q3h slen Q4i Q4h Qaw build Q6B Q1Q Q7L rep Q5i buildSlice Q2l Q21 layC alloc boxv Q1c AV.cells isVal Q5y
section
attribute [local simp] Qc QC Qq
def Q4J:Nat→List Mu→List (Nat × Ent)
 | _,[]=>[]
 | j,u :: r=>(j,.row u.sz u.es) :: Q4J (j+1) r
theorem QaA:∀ (ms:List Mu) (j id:Nat),look id (Q4J j ms)=if j≤id∧id<j+ms.length then some (.row (ms.getD (id - j) .none).sz (ms.getD (id - j) .none).es) else none:=by
 intro ms
 induction ms with
 | nil=>intro j id;simp only [Q4J,look];rw [if_neg (by simp)]
 | cons u r ih =>
  intro j id;simp only [Q4J,look]
  by_cases h:j=id
  ·subst h;simp
  rw [if_neg h,ih]
  by_cases h2:j+1≤id∧id<j+1+r.length
  ·rw [if_pos h2,if_pos (by simp;omega)];have:id - j=(id - (j+1))+1:=(by omega);rw [this,List.getD_cons_succ]
  rw [if_neg h2,if_neg (by simp;omega)]
def Q8W (ts:List Nat) (st:St) (res:AV):Prop :=
 match ts,res with
 | [t],.val v=>st.get t = .val v
 | [],.tup []=>True
 | _,_=>False
structure MRet (ts:List Nat) (res:AV) (ms:List Mu) (st:St):Prop where
 res:Q8W ts st res
 ent:∀ j,j<ms.length→look j st.h=some (.row (ms.getD j .none).sz (ms.getD j .none).fs)
def mretQ (ts:List Nat) (res:AV) (ms:List Mu):Exit→St→Prop
 | .normal,st=>MRet ts res ms st
 | .ret,st=>MRet ts res ms st
 | _,_=>False
theorem Q1j {P:Program} [Kd P] {f:Nat} {fn:Func} {c:Code} {args:List AV} {ms:List Mu} {ts:List Nat} {res:AV} {rv:Value} (hf:P.funcs[f]? = some fn) (hb:fn.body=some c) (hrt:resT fn.results=some ts) (hrv:resV res=some rv)
  (hname : (fn.name == "runtime.NumGoroutine") = false) (hN : args.length ≤ fn.ntmps) (hlen : ∀ j, j < ms.length → (ms.getD j .none).fs.length = (ms.getD j .none).es.length)
  (h:∀ F:Fx,F.N=fn.ntmps→F.pins=ms.length→Wp P F c (mretQ ts res ms) ⟨Q3v 0 args,Q4J 0 ms,ms.length⟩):MContract P f args ms res:=by
 refine ⟨⟨fn,hf,hname,by rw [hb];rfl⟩,hlen,rv,hrv,fun w R o ρ vals hp=>?_⟩;refine Q26 hf hb ?_
 let C:Ctx:=⟨w,fun b=>∃ L,o b=some L,ρ,ms.length⟩
 have hment:∀ id e,look id (Q4J 0 ms)=some e→id<ms.length∧e = .row (ms.getD id .none).sz (ms.getD id .none).es:=by
  intro id e he;rw [QaA] at he;split at he
  ·rename_i h1;simp only [Nat.sub_zero,Option.some.injEq] at he;exact ⟨by omega,he.symm⟩
  cases he
 have hsz:=hp.size;have hrel:Rel C R fn.ntmps { tmps:=vals++Array.replicate (fn.ntmps - vals.size) undef,defers:=[] } w ⟨Q3v 0 args,Q4J 0 ms,ms.length⟩:=by
  refine ⟨by simp;omega,rfl,fun id x h=>(hment id x h).1,o,ρ,⟨hp.hR,fun b L hb=>⟨hp.ho b L hb,.inr ⟨L,hb⟩⟩,rfl,⟨rfl,Nat.le_refl _⟩,rfl,Nat.le_refl _,fun b _ _=>rfl⟩,
   ⟨fun id sz es bk he hb=>?_,fun id sz es bk he hb=>?_,fun id c i k sz bk he hb=>?_,fun id kd es bk he hb=>?_⟩,fun t=>?_,fun id k hk=>hp.lim id k hk,fun id _=>rfl,Nat.le_refl _⟩
  ·have:=(hment id _ he).2;cases this
  ·obtain ⟨h1,h2⟩:=hment id _ he;cases h2;obtain ⟨v,h3,h4⟩:=hp.ent id bk h1 hb;exact ⟨v,h4,h3⟩
  ·have:=(hment id _ he).2;cases this
  ·have:=(hment id _ he).2;cases this
  simp only [St.get,Q2A]
  by_cases ht:t<args.length
  ·rw [if_pos (by omega)];simp only [Nat.sub_zero,Option.getD_some];have:=hp.args t ht;have h2:(vals++Array.replicate (fn.ntmps - vals.size) undef).getD t undef=vals.getD t undef:=by
    simp [Array.getElem?_append,show t<vals.size by omega]
   rw [h2];exact this
  rw [if_neg (by omega)];exact .bot
 refine Q49 (fun e a w' hq=>?_) (h ⟨C,R,fn.ntmps,ms.length,rfl⟩ rfl rfl _ w (.of hrel));obtain ⟨st,⟨R',hX,hr⟩,hq⟩:=hq;have fin:MRet ts res ms st→a.defers=[]∧∃ v,(results fn a.tmps).run P w' = .ok v w'∧(Ending.returned v = .returned rv∧MPost w w' R o ρ ms):=by
  intro hA;obtain ⟨_,hdef,_,o',ρ',W,H,hx,_,hpin⟩:=hr;refine ⟨hdef,_,Q3n hrt _,?_,W.os,W.tape,W.output,W.size,fun b hb hob=>W.keep b hb (by rintro ⟨L,hL⟩;rw [hob] at hL;cases hL),o',fun b L hb=>W.o b L hb,fun j bk hj hbk=>?_⟩
  ·have h1:=hA.res;unfold Q8W at h1;split at h1
   ·rename_i t v;have h2:=hx t;rw [h1] at h2;simp only [resV] at hrv;split at hrv
    ·cases hrv;simp only [List.map_cons,List.map_nil,Q2w];rw [h2.val_eq.1]
    cases hrv
   ·simp only [resV,Option.some.injEq] at hrv;subst hrv;rfl
   exact h1.elim
  obtain ⟨v,h1,h2⟩:=H.row j _ _ bk (hA.ent j hj) ((hpin.1 j hj).trans hbk);exact ⟨v,h2,h1.anyR⟩
 cases e with
 | normal=>exact fin hq
 | ret=>exact fin hq
 | _=>exact hq.elim
def Q7g:Ent→Bool
 | .ali _ _ _ _=>true
 | _=>false
theorem MCall.cell {st:St} {id r i k sz szr:Nat} {es fs:List (List AV)} {esr:List (List AV)} {dels:List Nat} (h1:look id st.h=some (.ali r i k sz)) (h2:look r st.h=some (.row szr esr)) (hi:i<esr.length) (hk:k<szr) (hks:k<(esr.getD i []).length)
  (hc:(esr.getD i []).getD k .bot = .lst true sz es) (hd:∀ x∈dels,x<st.n) (ha:∀ p∈st.h,Q7g p.2=true→p.1∈dels) :
  MCall st.hp st.n [⟨sz,es,fs⟩] [id] (fun _=>[r,i,k]) [(r,.row szr (esr.set i ((esr.getD i []).set k (.lst true sz fs))))] dels:=by
 have h0:∀ j,j < [(⟨sz,es,fs⟩:Mu)].length→j=0:=fun j hj=>by simpa using hj
 have hset:=fun j l=>Q4O esr i k (.lst true sz fs) j l hi hks;refine ⟨rfl,fun j hj=>?_,fun i' j hi' hj hij=>?_,by simp,fun r' e he=>?_,fun j r' M hj hP=>?_,hd,fun id' c i' k' s' hid he=>.inl ?_⟩
 ·have:=h0 j hj;subst this;exact .cell h1 h2 hi hk hc
 ·have:=h0 j hj;have:=h0 i' hi';omega
 ·simp only [look] at he;split at he
  ·rename_i hr;subst hr;simp only [Option.some.injEq] at he;subst he;refine ⟨szr,esr,_,h2,rfl,⟨fun j hj hP=>by simp at hP,by simp,fun _ j hj=>by rw [Q7x],fun i2 k2 j hj hP hi2 hk2=>?_,fun i2 k2 hi2 hk2 hm=>?_⟩⟩
   ·have:=h0 j hj;subst this;simp only [List.cons.injEq,and_true,true_and] at hP;rw [hset];rw [if_pos ⟨hP.1.symm,hP.2.symm⟩];rfl
   rw [hset];rw [if_neg]
   rintro ⟨rfl,rfl⟩
   exact (hm 0 (by simp)).2 rfl
  cases he
 ·simp only [List.cons.injEq] at hP;simp [look,hP.1]
 exact ha (id',_) (Qs he) rfl
def Q59:List Nat→List Mu→List (Nat × Ent)
 | id :: m,u :: ms=>(id,.row u.sz u.fs) :: Q59 m ms
 | _,_=>[]
theorem Q5a:∀ (m:List Nat) (ms:List Mu),m.length=ms.length→(Q59 m ms).map Prod.fst=m:=by
 intro m
 induction m with
 | nil=>intro ms _;cases ms<;>rfl
 | cons id m ih =>
  intro ms h;cases ms with
  | nil=>simp at h
  | cons u ms=>simp [Q59,ih ms (by simpa using h)]
theorem QaP:∀ (m:List Nat) (ms:List Mu) (r:Nat) (e:Ent),m.length=ms.length→look r (Q59 m ms)=some e→∃ j,j<ms.length∧m.getD j 0=r∧e = .row (ms.getD j .none).sz (ms.getD j .none).fs:=by
 intro m
 induction m with
 | nil=>intro ms r e _ h;cases ms<;>cases h
 | cons id m ih =>
  intro ms r e hl h;cases ms with
  | nil=>simp at hl
  | cons u ms =>
   simp only [Q59,look] at h;split at h
   ·rename_i hr;cases h;exact ⟨0,by simp,by simpa using hr,rfl⟩
   obtain ⟨j,h1,h2,h3⟩:=ih ms r e (by simpa using hl) h;exact ⟨j+1,by simpa using h1,by simpa using h2,by simpa using h3⟩
theorem Q9K {m:List Nat} (hn:m.Nodup) {i j:Nat} (hi:i<m.length) (hj:j<m.length) (h:m.getD i 0=m.getD j 0):i=j:=by
 rw [List.getD_eq_getElem?_getD,List.getD_eq_getElem?_getD,List.getElem?_eq_getElem hi,List.getElem?_eq_getElem hj] at h;exact (List.getElem_inj hn).1 (by simpa using h)
theorem MCall.roots {st:St} {ms:List Mu} {m:List Nat} {dels:List Nat} (hl:m.length=ms.length) (hn:m.Nodup) (hr:∀ j,j<ms.length→look (m.getD j 0) st.h=some (.row (ms.getD j .none).sz (ms.getD j .none).es))
  (hlen:∀ j,j<ms.length→(ms.getD j .none).fs.length=(ms.getD j .none).es.length) (hd:∀ x∈dels,x<st.n) (ha:∀ p∈st.h,Q7g p.2=true→p.1∈dels) :
  MCall st.hp st.n ms m (fun j=>[m.getD j 0]) (Q59 m ms) dels:=by
 refine ⟨hl,fun j hj=>.root (hr j hj),fun i j hi hj hij hp=>?_,by rw [Q5a m ms hl];exact hn,fun r e he=>?_,fun j r M hj hP=>?_,hd,fun id' c i' k' s' hid he=>.inl ?_⟩
 ·have h1:m.getD i 0=m.getD j 0:=by simpa using hp
  exact hij (Q9K hn (by omega) (by omega) h1)
 ·obtain ⟨j,h1,h2,h3⟩:=QaP m ms r e hl he;refine ⟨_,(ms.getD j .none).es,(ms.getD j .none).fs,by rw [← h2];exact hr j h1,h3,⟨fun j' hj' hP=>?_,hlen j h1,fun hne=>?_,fun i k j' hj' hP=>?_,fun i k hi hk hm=>?_⟩⟩
  ·have h4:m.getD j' 0=m.getD j 0:=(by rw [h2];simpa using hP);rw [Q9K hn (by omega) (by omega) h4]
  ·exact absurd (by rw [h2]) (hne j h1)
  ·simp at hP
  exact absurd (by rw [h2]) (hm j h1).1
 ·simp only [List.cons.injEq] at hP;have hk:r∈(Q59 m ms).map Prod.fst:=by
   rw [Q5a m ms hl,← hP.1,List.getD_eq_getElem?_getD,List.getElem?_eq_getElem (by omega)];simp
  cases hlk:look r (Q59 m ms) with
  | some x=>rfl
  | none =>
   exfalso;obtain ⟨q,hq,hqe⟩:=List.mem_map.1 hk;obtain ⟨a,b⟩:=q;simp only at hqe;subst hqe;rw [Q17 (by rw [Q5a m ms hl];exact hn) hq] at hlk;cases hlk
 exact ha (id',_) (Qs he) rfl
theorem Q1h {P:Program} [Kd P] {all:Array Oper} {f:Nat} {id n:Nat} {v:Value} {u:Mu} {res:AV} {dst:Option Nat} {os:List Oper} {st:St} {K:St→Prop} (hc:MContract P f [.own 0 0 n,.val v] [u] res)
  (hr:look id st.h=some (.row u.sz u.es)) (ha:∀ p∈st.h,Q7g p.2=false) (h:QY P true all os (st.app dst { v:=res,set:=[(id,.row u.sz u.fs)] }) K):Q8A P true all f [.own id 0 n,.val v] dst os st K:=by
 have h0:∀ j,j < [u].length→j=0:=fun j hj=>by simpa using hj
 refine Q5U (m:=[id]) hc (MCall.roots (dels:=[]) rfl (by simp) (fun j hj=>by have:=h0 j hj;subst this;exact hr) hc.len (by simp) (fun p hp hi=>by rw [ha p hp] at hi;cases hi)) rfl (fun q hq=>?_) (fun j hj=>⟨0,by simp,?_⟩) h
 ·match q,hq with
  | 0,_=>exact .own (j:=0) (by simp)
  | 1,_=>exact .val
 have:=h0 j hj;subst this;rfl
theorem stoA_row {P:Program} [Kd P] {mt:MT} {all:Array Oper} {t:TypeId} {ty:Tyi} {xv b:AV} {id i k sz:Nat} {es:List (List AV)} {ds:List Nat} {dst:Option Nat} {os:List Oper} {st:St} {K:St→Prop} (dels:List Nat) (h1:tyi P t=some ty) (h2:ty.sz=1)
  (he:look id st.h=some (.row sz es)) (hl:layC st.hp xv=some (b,ds)) (hi:i<es.length) (hk:k<sz) (hn:(id :: ds).Nodup) (hlt:∀ y∈ds++dels,y<st.n) (ha:∀ p∈st.h,Q7g p.2=true→p.1∈dels)
  (h:QY P mt all os (st.app dst { v:=.bot,set:=[(id,.row sz (es.set i ((es.getD i []).set k b)))],del:=ds++dels }) K):stoA P mt all t (.adr id i k) xv dst os st K :=
 Qb5 dels h1 h2 ⟨he,hl,hi,hk,hn,hlt,fun id' _ _ _ _ _ h3=>.inl (ha (id',_) (Qs h3) rfl)⟩ h
attribute [simp] Q7g Q4J Q8W
end
section
attribute [local simp] Qc QC Qq
theorem PurTo.aggL {h:HP} {xs ys:List AV} (hp:PurL h xs ys):PurTo h (.agg xs) (.agg ys):=.agg hp.1 hp.2
inductive MArgL (m:List Nat):List AV→List AV→Prop
 | nil:MArgL m [] []
 | cons {a b xs ys}:MArg m a b→MArgL m xs ys→MArgL m (a :: xs) (b :: ys)
theorem MArgL.get {m:List Nat} {xs ys:List AV} (h:MArgL m xs ys):xs.length=ys.length∧∀ k,k<ys.length→MArg m (xs.getD k .bot) (ys.getD k .bot):=by
 induction h with
 | nil=>exact ⟨rfl,fun k hk=>by simp at hk⟩
 | cons h _ ih =>
  refine ⟨by simp [ih.1],fun k hk=>?_⟩;cases k with
  | zero=>simpa using h
  | succ k=>simpa using ih.2 k (by simpa using hk)
theorem MArg.aggL {m:List Nat} {xs ys:List AV} (h:MArgL m xs ys):MArg m (.agg xs) (.agg ys):=.agg h.get.1 fun k hk=>h.get.2 k (by have:=h.get.1;omega)
inductive Roots (h:List (Nat × Ent)):List Nat→List Mu→Prop
 | nil:Roots h [] []
 | cons {id u m ms}:look id h=some (.row u.sz u.es)→Roots h m ms→Roots h (id :: m) (u :: ms)
theorem Roots.get {h:List (Nat × Ent)} {m:List Nat} {ms:List Mu} (hr:Roots h m ms):m.length=ms.length∧∀ j,j<ms.length→look (m.getD j 0) h=some (.row (ms.getD j .none).sz (ms.getD j .none).es):=by
 induction hr with
 | nil=>exact ⟨rfl,fun j hj=>by simp at hj⟩
 | cons h _ ih =>
  refine ⟨by simp [ih.1],fun k hk=>?_⟩;cases k with
  | zero=>simpa using h
  | succ k=>simpa using ih.2 k (by simpa using hk)
def occC (id:Nat):AV→Bool
 | .own i _ _=>Nat.beq i id
 | _=>false
def occB (id:Nat):AV→Bool
 | .own i _ _=>Nat.beq i id
 | .agg cs=>cs.any (occC id)
 | _=>false
theorem occC_own {id:Nat} {a:AV} (h:occC id a=true):∃ off n,a = .own id off n:=by
 unfold occC at h;split at h
 ·cases Nat.eq_of_beq_eq_true h;exact ⟨_,_,rfl⟩
 cases h
theorem occB_occ {id:Nat} {a:AV} (h:occB id a=true):Occ id a:=by
 unfold occB at h;split at h
 ·exact Nat.eq_of_beq_eq_true h
 ·rename_i cs;obtain ⟨x,hx,hc⟩:=List.any_eq_true.1 h;obtain ⟨l,hl,rfl⟩:=List.getElem_of_mem hx;obtain ⟨off,n,he⟩:=occC_own hc;exact ⟨l,hl,off,n,by simp [List.getD_eq_getElem?_getD,hl,he]⟩
 cases h
theorem Q3g {P:Program} [Kd P] {all:Array Oper} {f:Nat} {az args:List AV} {m:List Nat} {ms:List Mu} {res:AV} {dst:Option Nat} {os:List Oper} {st:St} {K:St→Prop} (hc:MContract P f args ms res)
  (hn:m.Nodup) (hr:Roots st.h m ms) (ha:MArgL m az args) (ho:(m.all fun id=>az.any (occB id))=true) (hali:∀ p∈st.h,Q7g p.2=false)
  (h:QY P true all os (st.app dst { v:=res,set:=Q59 m ms }) K):Q8A P true all f az dst os st K:=by
 refine Q5U (m:=m) hc (MCall.roots (dels:=[]) hr.get.1 hn hr.get.2 hc.len (by simp) (fun p hp hi=>by rw [hali p hp] at hi;cases hi)) ha.get.1 ha.get.2 (fun j hj=>?_) h;have hj':j<m.length:=by rw [hr.get.1];exact hj
 have:=List.all_eq_true.1 ho _ (List.getElem_mem hj');obtain ⟨a,ha1,ha2⟩:=List.any_eq_true.1 this;obtain ⟨k,hk,rfl⟩:=List.getElem_of_mem ha1;refine ⟨k,by rw [← ha.get.1];exact hk,?_⟩;have:=occB_occ ha2;simpa [List.getD_eq_getElem?_getD,hj',hk] using this
inductive Ents (h:List (Nat × Ent)):Nat→List Mu→Prop
 | nil {j}:Ents h j []
 | cons {j u ms}:look j h=some (.row u.sz u.fs)→Ents h (j+1) ms→Ents h j (u :: ms)
theorem Ents.get {h:List (Nat × Ent)} {j:Nat} {ms:List Mu} (he:Ents h j ms):∀ i,i<ms.length→look (j+i) h=some (.row (ms.getD i .none).sz (ms.getD i .none).fs):=by
 induction he with
 | nil=>intro i hi;simp at hi
 | cons h _ ih =>
  intro i hi;cases i with
  | zero=>simpa using h
  | succ i=>have:=ih i (by simpa using hi);simpa [Nat.add_comm,Nat.add_left_comm] using this
theorem mret {ts:List Nat} {res:AV} {ms:List Mu} {st:St} (h1:Q8W ts st res) (h2:Ents st.h 0 ms):MRet ts res ms st:=⟨h1,fun j hj=>by simpa using h2.get j hj⟩
end
section
attribute [local simp] Qc QC Qq
structure IRet (ts:List Nat) (H:List (Nat × Ent)) (n:Nat) (e:Eff) (st:St):Prop where
 res:Q1l (ts.map st.get)=e.v
 n:st.n=n+e.cnt
 h:st.h=Q5q e.set (Q4A e.del H)++e.new
def iretQ (ts:List Nat) (H:List (Nat × Ent)) (n:Nat) (e:Eff):Exit→St→Prop
 | .normal,st=>IRet ts H n e st
 | .ret,st=>IRet ts H n e st
 | _,_=>False
theorem res_rel {w:World} {R:Nat→Prop} {ρ:Nat→Option Bk} {tmps:Array Value} {st:St} (hx:∀ t,XRel w R ρ (tmps.getD t undef) (st.get t)) (ts:List Nat) :
  XRel w R ρ (Q2w (ts.map fun t=>tmps.getD t undef)) (Q1l (ts.map st.get)):=by
 match ts with
 | []=>exact .tup rfl fun k hk=>by simp at hk
 | [t]=>exact hx t
 | t :: u :: r =>
  simp only [List.map_cons,Q2w,Q1l];refine .tup (by simp) fun k hk=>?_;have hk':k<(t :: u :: r).length:=by simpa using hk
  have h1:((tmps.getD t undef :: tmps.getD u undef :: r.map fun t=>tmps.getD t undef).toArray).getD k undef=tmps.getD ((t :: u :: r)[k]) undef:=by
   have:(tmps.getD t undef :: tmps.getD u undef :: r.map fun t=>tmps.getD t undef)=(t :: u :: r).map fun t=>tmps.getD t undef:=rfl;rw [this];have hk2:k<(List.map (fun t=>tmps.getD t undef) (t :: u :: r)).toArray.size:=(by simpa using hk');rw [Array.getD_eq_getD_getElem?,Array.getElem?_eq_getElem hk2,Option.getD_some];simp only [List.getElem_toArray,List.getElem_map]
  have h2:(st.get t :: st.get u :: r.map st.get).getD k .bot=st.get ((t :: u :: r)[k]):=by
   have:(st.get t :: st.get u :: r.map st.get)=(t :: u :: r).map st.get:=rfl;rw [this,List.getD_eq_getElem?_getD,List.getElem?_map,List.getElem?_eq_getElem hk',Option.map_some,Option.getD_some]
  rw [h1,h2];exact hx _
theorem Qay {P:Program} [Kd P] {f:Nat} {fn:Func} {c:Code} {az:List AV} {ts:List Nat} {H:List (Nat × Ent)} {n:Nat} {e:Eff} (hf:P.funcs[f]? = some fn) (hb:fn.body=some c) (hrt:resT fn.results=some ts)
  (hname : (fn.name == "runtime.NumGoroutine") = false) (hN : az.length ≤ fn.ntmps) (hH : ∀ p ∈ H, p.1 < n) (hfine : e.fine n) (hnew : ∀ id, n ≤ id → id < n + e.cnt → id ∈ e.new.map Prod.fst)
  (h:∀ F:Fx,F.N=fn.ntmps→F.pins=n→Wp P F c (iretQ ts H n e) ⟨Q3v 0 az,H,n⟩):ICon P f az (fun id=>look id H) n e:=by
 refine ⟨⟨fn,hf,hname,by rw [hb];rfl⟩,fun _=>hfine,fun C w g h' vals hag hne hlim W HH hsz hargs=>?_⟩;refine Q26 hf hb ?_
 let C':Ctx:=⟨w,fun b=>∃ L,g.o b=some L,g.ρ,n⟩
 have hrel:Rel C' g.R fn.ntmps { tmps:=vals++Array.replicate (fn.ntmps - vals.size) undef,defers:=[] } w ⟨Q3v 0 az,H,n⟩:=by
  refine ⟨by simp;omega,rfl,fun id x hx=>hH (id,x) (Qs hx),g.o,g.ρ,⟨W.R,fun b L hb=>⟨(W.o b L hb).1,.inr ⟨L,hb⟩⟩,rfl,⟨rfl,Nat.le_refl _⟩,rfl,Nat.le_refl _,fun b _ _=>rfl⟩,
   HH.grow fun id k hk=>(hag id (hlim id k hk)).symm,fun t=>?_,hlim,fun id _=>rfl,Nat.le_refl _⟩
  simp only [St.get,Q2A]
  by_cases ht:t<az.length
  ·rw [if_pos (by omega)];simp only [Nat.sub_zero,Option.getD_some];have h2:(vals++Array.replicate (fn.ntmps - vals.size) undef).getD t undef=vals.getD t undef:=by
    simp [Array.getElem?_append,show t<vals.size by omega]
   rw [h2];exact hargs t ht
  rw [if_neg (by omega)];exact .bot
 refine Q49 (fun ex a w' hq=>?_) (h ⟨C',g.R,fn.ntmps,n,rfl⟩ rfl rfl _ w (.of hrel));obtain ⟨st,⟨R',hX,hr⟩,hq⟩:=hq;have fin:IRet ts H n e st→a.defers=[]∧∃ v,(results fn a.tmps).run P w' = .ok v w'∧∃ v' R' o' ρ',Ending.returned v = .returned v'∧RX g.R R' C.w0.heap.size∧WF C w' ⟨R',o',ρ'⟩∧HRel w' ⟨R',o',ρ'⟩ (happ e h')∧(∀ id k,g.ρ id=some k→ρ' id=some k) ∧
   (∀ id k,ρ' id=some k→g.ρ id=some k∨(n≤id∧id<n+e.cnt))∧XRel w' R' ρ' v' e.v∧(∀ b,g.R b→w'.heap[b]? = w.heap[b]?):=by
  intro hA;obtain ⟨_,hdef,_,o',ρ',W',HH',hx,hlt',hpin⟩:=hr;obtain ⟨a1,a2,a3⟩:=hA;have hρ1:∀ id,id<n→ρ' id=g.ρ id:=hpin.1;have hcC:∀ b,b<C.w0.heap.size→¬ C.wrb b→g.o b=none:=by
   intro b hb hw;cases ho:g.o b with
   | none=>rfl
   | some L =>
    rcases (W.o b L ho).2 with h|h
    ·omega
    exact absurd h hw
  have hkeep:∀ b,b<w.heap.size→g.o b=none→w'.heap[b]? = w.heap[b]?:=fun b hb ho=>W'.keep b hb (by rintro ⟨L,hL⟩;rw [ho] at hL;cases hL);refine ⟨hdef,_,Q3n hrt _,_,R',o',ρ',rfl,⟨hX.1,fun b hb=>(hX.2 b hb).imp id (Nat.le_trans W.size)⟩,⟨W'.R,fun b L hb=>⟨(W'.o b L hb).1,?_⟩,W'.os.trans W.os,tpt W'.tape W.tape,W'.output.trans W.output,Nat.le_trans W.size W'.size,fun b hb hw=>?_⟩,
   HH'.grow fun id k hk=>?_,fun id k hk=>(hρ1 id (hlim id k hk)).trans hk,fun id k hk=>?_,?_,fun b hb=>hkeep b (W.R b hb).1 (W.R b hb).2⟩
  ·rcases (W'.o b L hb).2 with h|⟨L',h⟩
   ·exact .inl (Nat.le_trans W.size h)
   exact (W.o b L' h).2
  ·exact (hkeep b (Nat.lt_of_lt_of_le hb W.size) (hcC b hb hw)).trans (W.keep b hb hw)
  ·have hid:id<n+e.cnt:=(by rw [← a2];exact hlt' id k hk);have hl:look id st.h=match happ e (fun id=>look id H) id with|some x=>some x|none=>look id e.new:=by
    have:=Q7k (st:=⟨[],H,n⟩) none hfine id;simp only [St.app] at this;rw [a3];exact this
   show happ e h' id=look id st.h;rw [hl]
   by_cases hlt:id<n
   ·have hn:look id e.new=none:=by
     cases hq:look id e.new with
     | none=>rfl
     | some x=>have:=(hfine.new _ (Qs hq)).1;simp only at this;omega
    have he:happ e h' id=happ e (fun id=>look id H) id:=by
     simp only [happ,hag id hlt]
    rw [he,hn];cases happ e (fun id=>look id H) id<;>rfl
   obtain ⟨p,hp,hpe⟩:=List.mem_map.1 (hnew id (by omega) hid);have h1:happ e (fun id=>look id H) id=none:=by
    simp only [happ];have h2:look id e.set=none:=by
     cases hq:look id e.set with
     | none=>rfl
     | some x=>have:=hfine.sets.2 _ (Qs hq);simp only at this;omega
    have h3:look id H=none:=by
     cases hq:look id H with
     | none=>rfl
     | some x=>have:=hH _ (Qs hq);simp only at this;omega
    rw [h2,h3];simp
   have h2:happ e h' id=h' id:=by
    simp only [happ];have h2:look id e.set=none:=by
     cases hq:look id e.set with
     | none=>rfl
     | some x=>have:=hfine.sets.2 _ (Qs hq);simp only at this;omega
    rw [h2,if_neg];intro hd;have:=hfine.del id hd;omega
   rw [h1,h2];obtain ⟨i,x⟩:=p;simp only at hpe;subst hpe;rw [hne _ hp,Q17 hfine.nodup hp]
  ·by_cases hlt:id<n
   ·exact .inl ((hρ1 id hlt).symm.trans hk)
   exact .inr ⟨by omega,by rw [← a2];exact hlt' id k hk⟩
  rw [← a1];exact res_rel hx ts
 cases ex with
 | normal=>exact fin hq
 | ret=>exact fin hq
 | _=>exact hq.elim
end
section
attribute [local simp] Qc QC Qq
inductive RGet (P:Program) (st:St):List ResultVar→List AV→Prop
 | nil:RGet P st [] []
 | tmp {t r az}:RGet P st r az→RGet P st (.tmp t :: r) (st.get t :: az)
 | cell {a t ty id i k sz es r az}:tyi P t=some ty→ty.agg=true→st.get a = .adr id i k→look id st.h=some (.mix sz es)→i<es.length→k+ty.sz≤sz→RGet P st r az →
   RGet P st (.cell a t :: r) (.agg (((es.getD i []).drop k).take ty.sz) :: az)
 | cell1 {a t ty id i k sz es r az}:tyi P t=some ty→ty.agg=false→0<ty.sz→st.get a = .adr id i k→look id st.h=some (.mix sz es)→i<es.length→k+ty.sz≤sz→RGet P st r az →
   RGet P st (.cell a t :: r) ((es.getD i []).getD k .bot :: az)
def resM (tmps:Array Value):ResultVar→Sem Value
 | .tmp t=>pure (tmps.getD t undef)
 | .cell a t=>do loadVar t (← asAddr (tmps.getD a undef))
theorem rget_run {P:Program} [Kd P] {R:Nat→Prop} {w:World} {st:St} {o:Nat→Option (List Nat)} {ρ:Nat→Option Bk} (H:HRel w ⟨R,o,ρ⟩ st.hp) {tmps:Array Value} (hx:∀ t,XRel w R ρ (tmps.getD t undef) (st.get t))
  {rvs:List ResultVar} {az:List AV} (hg:RGet P st rvs az):∃ vs:List Value,(rvs.mapM (resM tmps)).run P w = .ok vs w∧vs.length=az.length∧∀ k,k<az.length→XRel w R ρ (vs.getD k undef) (az.getD k .bot):=by
 induction hg with
 | nil=>exact ⟨[],by simp,rfl,fun k hk=>by simp at hk⟩
 | @tmp t r az _ ih =>
  obtain ⟨vs,h1,h2,h3⟩:=ih;refine ⟨tmps.getD t undef :: vs,by simp [List.mapM_cons,resM,h1],by simp [h2],fun k hk=>?_⟩;cases k with
  | zero=>exact hx t
  | succ k=>exact h3 k (by simpa using hk)
 | @cell a t ty id i k sz es r az hty hag ha hl hi hk _ ih =>
  obtain ⟨vs,h1,h2,h3⟩:=ih;have hxa:=hx a;rw [ha] at hxa;obtain ⟨b,bsz,cap,hbk,hv⟩:=hxa.adr_eq;obtain ⟨b',cur,el,us,cpm,hbk',ho',hh,hsz',hcp,hml,hlen,hcur,hone,hxr⟩:=(H.mix id sz es _ hl hbk).ex (by simp);simp only [Bk.mk.injEq,Option.some.injEq] at hbk';obtain ⟨rfl,rfl,_⟩:=hbk';have hrun:=Q4p (P:=P) (w:=w) hty (b:=b) (x:=i * bsz+k) (us:=fun j=>us i (k+j)) (fun j hj=>by
   rw [Q1s hh,Nat.add_assoc];exact hcur i (k+j) hi (by omega))
  rw [hag] at hrun;simp only [cond_true] at hrun;have hlen2:(((es.getD i []).drop k).take ty.sz).length=ty.sz:=by rw [List.length_take,List.length_drop,hlen i hi];omega
  have hX:XRel w R ρ (.agg ((List.range ty.sz).map fun j=>us i (k+j)).toArray) (.agg (((es.getD i []).drop k).take ty.sz)):=by
   refine .agg (by rw [hlen2];simp) ?_ ?_
   ·intro j hj;rw [hlen2] at hj;rw [Q1v _ _ _ hj];exact hone _ _ hi (by omega)
   intro j hj;rw [hlen2] at hj;rw [Q1v _ _ _ hj];have:=hxr i (k+j) hi (by omega);simpa [List.getD_eq_getElem?_getD,List.getElem?_take,List.getElem?_drop,hj] using this
  have hv2:tmps.getD a undef = .pointer (some ⟨b,i * bsz+k,none⟩):=hv;refine ⟨.agg ((List.range ty.sz).map fun j=>us i (k+j)).toArray :: vs,?_,by simp [h2],fun j hj=>?_⟩
  ·rw [List.mapM_cons];simp [resM,hv2,asAddr,hrun,h1]
  cases j with
  | zero=>exact hX
  | succ j=>exact h3 j (by simpa using hj)
 | @cell1 a t ty id i k sz es r az hty hag h0 ha hl hi hk _ ih =>
  obtain ⟨vs,h1,h2,h3⟩:=ih;have hxa:=hx a;rw [ha] at hxa;obtain ⟨b,bsz,cap,hbk,hv⟩:=hxa.adr_eq;obtain ⟨b',cur,el,us,cpm,hbk',ho',hh,hsz',hcp,hml,hlen,hcur,hone,hxr⟩:=(H.mix id sz es _ hl hbk).ex (by simp);simp only [Bk.mk.injEq,Option.some.injEq] at hbk';obtain ⟨rfl,rfl,_⟩:=hbk';have hrun:=Q4p (P:=P) (w:=w) hty (b:=b) (x:=i * bsz+k) (us:=fun j=>us i (k+j)) (fun j hj=>by
   rw [Q1s hh,Nat.add_assoc];exact hcur i (k+j) hi (by omega))
  rw [hag] at hrun;simp only [cond_false,Nat.add_zero] at hrun;have hv2:tmps.getD a undef = .pointer (some ⟨b,i * bsz+k,none⟩):=hv;refine ⟨us i k :: vs,?_,by simp [h2],fun j hj=>?_⟩
  ·rw [List.mapM_cons];simp [resM,hv2,asAddr,hrun,h1]
  cases j with
  | zero=>exact hxr i k hi (by omega)
  | succ j=>exact h3 j (by simpa using hj)
theorem Q8f {P:Program} [Kd P] {w:World} {fn:Func} {rvs:List ResultVar} {tmps:Array Value} {vs:List Value} (hr:fn.results=rvs.toArray) (h:(rvs.mapM (resM tmps)).run P w = .ok vs w):(results fn tmps).run P w = .ok (Q2w vs) w:=by
 have e:results fn tmps=(do let vs ← fn.results.mapM (resM tmps);pure (if h:vs.size=1 then vs[0] else .tuple vs)):=by
  unfold results
  congr 1
 rw [e,hr,List.mapM_toArray];simp only [map_eq_pure_bind];simp [h];rcases vs with _|⟨v,_|⟨u,r⟩⟩
 ·simp [Q2w]
 ·simp [Q2w]
 simp [Q2w]
structure RetG (P:Program) (rvs:List ResultVar) (st:St) (rs:List AV):Prop where
 ex:∃ az,RGet P st rvs az∧RetV az st rs
def retGQ (P:Program) (rvs:List ResultVar) (rs:List AV):Exit→St→Prop
 | .normal,st=>RetG P rvs st rs
 | .ret,st=>RetG P rvs st rs
 | _,_=>False
theorem Q3B {P:Program} [Kd P] {f:Nat} {fn:Func} {c:Code} {args:List AV} {rvs:List ResultVar} {rs:List AV} {res:AV} (hf:P.funcs[f]? = some fn) (hb:fn.body=some c) (hrt:fn.results=rvs.toArray) (hrs:res=Q1l rs)
  (hname : (fn.name == "runtime.NumGoroutine") = false) (hN : args.length ≤ fn.ntmps) (h : ∀ F : Fx, F.N = fn.ntmps → F.pins = 0 → (∀ b, ¬ F.C.wrb b) → Wp P F c (retGQ P rvs rs) ⟨Q3v 0 args, [], 0⟩) : Contract P f args res := by
 subst hrs;refine ⟨⟨fn,hf,hname,by rw [hb];rfl⟩,fun w R vals hR hsz hx=>?_⟩;refine Q26 hf hb ?_
 let C:Ctx:=⟨w,fun _=>False,fun _=>none,0⟩
 have hrel:Rel C R fn.ntmps { tmps:=vals++Array.replicate (fn.ntmps - vals.size) undef,defers:=[] } w ⟨Q3v 0 args,[],0⟩:=by
  refine ⟨by simp;omega,rfl,(fun id x h=>by cases h),fun _=>none,noρ,⟨fun b hb=>⟨hR b hb,rfl⟩,(fun b L hb=>by cases hb),rfl,⟨rfl,Nat.le_refl _⟩,rfl,Nat.le_refl _,fun b _ _=>rfl⟩,⟨(fun id sz es bk _ hb=>by cases hb),(fun id sz es bk _ hb=>by cases hb),(fun id c i k sz bk _ hb=>by cases hb),(fun id kd es bk _ hb=>by cases hb)⟩,fun t=>?_,(fun id k hk=>by cases hk),(fun id hid=>by cases hid),Nat.le_refl _⟩;simp only [St.get,Q2A]
  by_cases ht:t<args.length
  ·rw [if_pos (by omega)];simp only [Nat.sub_zero,Option.getD_some];have:=hx t ht;have h2:(vals++Array.replicate (fn.ntmps - vals.size) undef).getD t undef=vals.getD t undef:=by
    simp [Array.getElem?_append,show t<vals.size by omega]
   rw [h2];exact this
  rw [if_neg (by omega)];exact .bot
 refine Q49 (fun e a w' hq=>?_) (h ⟨C,R,fn.ntmps,0,rfl⟩ rfl rfl (fun _ h=>h) _ w (.of hrel));obtain ⟨st,⟨R',hX,hr⟩,hq⟩:=hq;have fin:RetG P rvs st rs→a.defers=[]∧∃ v,(results fn a.tmps).run P w' = .ok v w'∧∃ v' o,Ending.returned v = .returned v'∧Blw w.heap.size w w'∧(∀ b L,o b=some L→w.heap.size≤b∧b<w'.heap.size)∧Res w' o v' (Q1l rs):=by
  intro hA;obtain ⟨az,hg,hv⟩:=hA.ex;obtain ⟨_,hdef,_,o,ρ,W,H,hxx,_⟩:=hr;obtain ⟨vs,h1,h2,h3⟩:=rget_run H hxx hg;obtain ⟨q1,o1,q2,q3⟩:=Q7v W H rfl hv (vs:=vs) h2 h3;exact ⟨hdef,_,Q8f hrt h1,_,o1,rfl,q1,q2,q3⟩
 cases e with
 | normal=>exact fin hq
 | ret=>exact fin hq
 | _=>exact hq.elim
theorem Qe {P:Program} [Kd P] {f:Nat} {fn:Func} {c:Code} {args:List AV} {rvs:List ResultVar} {rs:List AV} {res:AV} (hf:P.funcs[f]? = some fn) (hb:fn.body=some c) (hrt:fn.results=rvs.toArray) (hrs:res=Q1l rs)
  (hname : (fn.name == "runtime.NumGoroutine") = false) (hN : args.length ≤ fn.ntmps) (h : ∀ F : Fx, F.N = fn.ntmps → F.pins = 0 → Wp P F c (retGQ P rvs rs) ⟨Q3v 0 args, [], 0⟩) : Contract P f args res :=
 Q3B hf hb hrt hrs hname hN fun F h1 h2 _=>h F h1 h2
end
section
attribute [local simp] Qc QC Qq
def nlA (news:List (Nat × Nat)) (a b:AV):Prop:=a=b∨(a = .val (.slice none 0 0)∧∃ q∈news,b = .own q.1 0 0)
def nlL (news:List (Nat × Nat)):List AV→List AV→Prop
 | [],[]=>True
 | a :: r,b :: s=>nlA news a b∧nlL news r s
 | _,_=>False
def entN (news:List (Nat × Nat)):Ent→Ent→Prop
 | .mix sz [cs],.mix sz' [ds]=>sz=sz'∧nlL news cs ds
 | .mix sz [],.row sz' es=>sz=sz'∧es=[]
 | e,e'=>e=e'
theorem nlL_get {news:List (Nat × Nat)}:∀ {cs ds:List AV},nlL news cs ds→cs.length=ds.length∧∀ k,k<cs.length→nlA news (cs.getD k .bot) (ds.getD k .bot):=by
 intro cs
 induction cs with
 | nil=>intro ds h;cases ds with
  | nil=>exact ⟨rfl,fun k hk=>by simp at hk⟩
  | cons=>exact h.elim
 | cons a r ih =>
  intro ds h;cases ds with
  | nil=>exact h.elim
  | cons b s =>
   obtain ⟨h1,h2⟩:=h;obtain ⟨h3,h4⟩:=ih h2;refine ⟨by simp [h3],fun k hk=>?_⟩;cases k with
   | zero=>simpa using h1
   | succ k=>simpa using h4 k (by simpa using hk)
theorem Q34 {news:List (Nat × Nat)} {e e':Ent} (h:entN news e e'):e=e'∨(∃ sz cs ds,e = .mix sz [cs]∧e' = .mix sz [ds]∧nlL news cs ds)∨(∃ sz,e = .mix sz []∧e' = .row sz []):=by
 unfold entN at h;split at h
 ·obtain ⟨rfl,h⟩:=h;exact .inr (.inl ⟨_,_,_,rfl,rfl,h⟩)
 ·obtain ⟨rfl,rfl⟩:=h;exact .inr (.inr ⟨_,rfl,rfl⟩)
 exact .inl h
theorem Wk.nils {F:Fx} {st st':St} (news:List (Nat × Nat)) (hn:∀ p∈news,st.n≤p.1∧p.1<st'.n) (hle:st.n≤st'.n) (hs:∀ p∈st'.s,nlA news (st.get p.1) p.2∨p.2 = .bot)
  (hh:∀ p∈st'.h,(∃ q∈news,p=(q.1,.row q.2 []))∨∃ e,look p.1 st.h=some e∧entN news e p.2) (hnd:(news.map Prod.fst).Nodup):Wk F st st':=by
 refine Wk.mk fun R a w hr=>?_;obtain ⟨r1,r2,r3,o,ρ,W,H,hx,hρ,hp⟩:=hr
 let ρ':Nat→Option Bk:=fun id=>match look id news with|some sz=>some ⟨none,sz,0⟩|none=>ρ id
 have hnone:∀ q∈news,ρ q.1=none:=by
  intro q hq;cases h:ρ q.1 with
  | none=>rfl
  | some k=>have:=hρ _ _ h;have:=(hn q hq).1;omega
 have hold:∀ id k,ρ id=some k→ρ' id=some k:=by
  intro id k hk;simp only [ρ'];cases hl:look id news with
  | none=>exact hk
  | some sz=>have:=hnone _ (Qs hl);simp only at this;rw [hk] at this;cases this
 have hnew:∀ q∈news,ρ' q.1=some ⟨none,q.2,0⟩:=by
  intro q hq;simp only [ρ'];rw [Q17 hnd hq]
 have hA:∀ {v:Value} {x y:AV},XRel w R ρ v x→nlA news x y→XRel w R ρ' v y:=by
  intro v x y hv h;rcases h with rfl|⟨rfl,q,hq,rfl⟩
  ·exact hv.mono (fun b hb=>⟨hb,rfl⟩) hold
  obtain ⟨rfl,_⟩:=hv.val_eq;exact .own0 (hnew q hq)
 have hent:∀ id e',st'.hp id=some e'→(∃ q∈news,id=q.1∧e' = .row q.2 [])∨∃ e,st.hp id=some e∧entN news e e':=by
  intro id e' h;rcases hh (id,e') (Qs h) with ⟨q,hq,he⟩|h
  ·simp only [Prod.mk.injEq] at he;exact .inl ⟨q,hq,he.1,he.2⟩
  exact .inr h
 have hback:∀ id bk,ρ' id=some bk→(∃ q∈news,id=q.1∧bk=⟨none,q.2,0⟩)∨(ρ id=some bk∧∀ q∈news,id ≠ q.1):=by
  intro id bk h;simp only [ρ'] at h;cases hl:look id news with
  | some sz=>rw [hl] at h;simp only [Option.some.injEq] at h;exact .inl ⟨(id,sz),Qs hl,rfl,h.symm⟩
  | none =>
   rw [hl] at h;refine .inr ⟨h,fun q hq he=>?_⟩;subst he;rw [Q17 hnd hq] at hl;cases hl
 have hcont:∀ (d c:Nat) (szc:Nat) (esc:List (List AV)) (bk:Bk),ρ c=some bk→cont st'.hp d c=some (szc,esc)→QD (st'.hp c)=false→esc=[]∨(cont st.hp d c=some (szc,esc)∧QD (st.hp c)=false):=by
  intro d
  induction d with
  | zero=>intro c szc esc bk _ h;cases h
  | succ d ih =>
   intro c szc esc bk hb hc hm;unfold cont at hc ⊢;cases he:st'.hp c with
   | none=>simp [he] at hc
   | some e' =>
    rw [he] at hc hm;rcases hent c e' he with ⟨q,hq,rfl,rfl⟩|⟨e,h1,h2⟩
    ·rw [hnone q hq] at hb;cases hb
    rcases Q34 h2 with rfl|⟨sz,cs,ds,rfl,rfl,_⟩|⟨sz,rfl,rfl⟩
    ·cases e with
     | mix=>cases hm
     | mapE=>cases hc
     | row sz es=>exact .inr ⟨by rw [h1];exact hc,by rw [h1];rfl⟩
     | ali c2 i2 k2 s2 =>
      rw [h1];simp only at hc ⊢;split at hc
      ·cases hc
      rename_i hm2;cases hc2:cont st'.hp d c2 with
      | none=>simp [hc2] at hc
      | some p =>
       obtain ⟨sz2,es2⟩:=p;obtain ⟨_,bk2,hb2,_⟩:=H.ali c c2 i2 k2 s2 bk h1 hb;rw [hc2] at hc;rcases ih c2 sz2 es2 bk2 hb2 hc2 (by simpa using hm2) with rfl|⟨q1,q2⟩
       ·simp at hc
       right;rw [q2,q1];exact ⟨hc,rfl⟩
    ·cases hm
    simp only [Option.some.injEq,Prod.mk.injEq] at hc;exact .inl hc.2.symm
 refine ⟨r1,r2,fun id x hx=>?_,o,ρ',⟨W.R,W.o,W.os,W.tape,W.output,W.size,W.keep⟩,⟨fun id sz es bk he hb=>?_,fun id sz es bk he hb=>?_,fun id c i k sz bk he hb=>?_,fun id kd es bk he hb=>?_⟩,fun t=>?_,fun id k hk=>?_,fun id hid=>?_,Nat.le_trans hp.2 hle⟩;rotate_left 4
 ·rcases hent id _ he with ⟨q,hq,rfl,h⟩|⟨e,h1,h2⟩
  ·cases h
  rcases hback id bk hb with ⟨q,hq,rfl,rfl⟩|⟨hb',_⟩
  ·exact absurd (r3 _ e h1) (by have:=(hn q hq).1;omega)
  rcases Q34 h2 with rfl|⟨s1,cs,ds,rfl,hd,hl⟩|⟨s1,rfl,hd⟩
  ·exact H.map id kd es bk h1 hb'
  ·cases hd
  cases hd
 rotate_left 3
 ·rcases hent id x hx with ⟨q,hq,rfl,_⟩|⟨e,he,_⟩
  ·exact (hn q hq).2
  exact Nat.lt_of_lt_of_le (r3 id e he) hle
 ·rcases hent id _ he with ⟨q,hq,rfl,h⟩|⟨e,h1,h2⟩
  ·cases h
  rcases hback id bk hb with ⟨q,hq,rfl,rfl⟩|⟨hb',_⟩
  ·exact absurd (r3 _ e h1) (by have:=(hn q hq).1;omega)
  rcases Q34 h2 with rfl|⟨s1,cs,ds,rfl,hd,hl⟩|⟨s1,rfl,hd⟩
  ·rcases (H.mix id sz es bk h1 hb').ex0 with h0|⟨b,cur,el,us,cpm,q1,q2,q3,q4,q5,q5',q6,q7,q8,q9⟩
   ·exact ⟨.inl h0⟩
   exact .mk' ⟨b,cur,el,us,cpm,q1,q2,q3,q4,q5,q5',q6,q7,q8,fun i k hi hk=>(q9 i k hi hk).mono (fun b hb=>⟨hb,rfl⟩) hold⟩
  ·cases hd;rcases (H.mix id sz _ bk h1 hb').ex0 with ⟨h0,_⟩|⟨b,cur,el,us,cpm,q1,q2,q3,q4,q5,q5',q6,q7,q8,q9⟩
   ·cases h0
   obtain ⟨g1,g2⟩:=nlL_get hl;refine .mk' ⟨b,cur,el,us,cpm,q1,q2,q3,q4,by simpa using q5,q5',fun i hi=>?_,q7,q8,fun i k hi hk=>?_⟩
   ·have h0:i=0:=(by simp at hi;omega);subst h0;have:=q6 0 (by simp);simpa [← g1] using this
   have h0:i=0:=(by simp at hi;omega);subst h0;have h6:=q6 0 (by simp);simp only [List.getD_cons_zero] at h6;refine hA (q9 0 k (by simp) hk) ?_;simpa using g2 k (by omega)
  cases hd
 ·rcases hent id _ he with ⟨q,hq,rfl,h⟩|⟨e,h1,h2⟩
  ·cases h;have:=(show ρ' q.1=some bk from hb).symm.trans (hnew q hq);cases this;exact ⟨_,.nil,.nil⟩
  rcases hback id bk hb with ⟨q,hq,rfl,rfl⟩|⟨hb',_⟩
  ·exact absurd (r3 _ e h1) (by have:=(hn q hq).1;omega)
  rcases Q34 h2 with rfl|⟨s1,cs,ds,rfl,hd,hl⟩|⟨s1,rfl,hd⟩
  ·exact H.row id sz es bk h1 hb'
  ·cases hd
  cases hd;rcases (H.mix id sz [] bk h1 hb').ex0 with ⟨_,cp0,rfl⟩|⟨b,cur,el,us,cpm,q1,q2,q3,q4,q5,q5',q6,q7,q8,q9⟩
  ·exact ⟨_,.nil,.nil⟩
  subst q1;exact ⟨.slice (some ⟨b,0,none⟩) 0 cpm,.own (es:=[]) us q2 q3 q4 (Nat.zero_le _) q5' (fun i hi=>by simp at hi) (fun i k hi=>by simp at hi) (fun i k hi=>by simp at hi) (fun i k hi=>by simp at hi),.own⟩
 ·rcases hent id _ he with ⟨q,hq,rfl,h⟩|⟨e,h1,h2⟩
  ·cases h
  rcases hback id bk hb with ⟨q,hq,rfl,rfl⟩|⟨hb',_⟩
  ·exact absurd (r3 _ e h1) (by have:=(hn q hq).1;omega)
  rcases Q34 h2 with rfl|⟨s1,cs,ds,rfl,hd,hl⟩|⟨s1,rfl,hd⟩
  ·obtain ⟨q1,bkc,q2,q3⟩:=H.ali id c i k sz bk h1 hb';refine ⟨q1,bkc,hold _ _ q2,fun d szc esc hc hm hi hk=>?_⟩;rcases hcont d c szc esc bkc q2 hc hm with rfl|⟨g1,g2⟩
   ·simp at hi
   exact q3 d szc esc g1 g2 hi hk
  ·cases hd
  cases hd
 ·cases hl:look t st'.s with
  | none=>simp only [St.get,hl,Option.getD_none];exact .bot
  | some v =>
   simp only [St.get,hl,Option.getD_some];rcases hs _ (Qs hl) with h|h
   ·exact hA (hx t) h
   simp only at h;rw [h];exact .bot
 ·rcases hback id k hk with ⟨q,hq,rfl,_⟩|⟨h,_⟩
  ·exact (hn q hq).2
  exact Nat.lt_of_lt_of_le (hρ id k h) hle
 show ρ' id=_;have hlt:id<st.n:=Nat.lt_of_lt_of_le hid hp.2;rw [← hp.1 id hid];simp only [ρ'];cases hl:look id news with
 | none=>rfl
 | some sz=>have:=(hn _ (Qs hl)).1;simp only at this;omega
def hhOk (m:List (Nat × Nat)) (h:List (Nat × Ent)) (j:Nat) (e':Ent):Prop:=(((look j (back m)).bind fun i=>look i h).bind (rlE m))=some e'
theorem Wk.rel {F:Fx} {st st':St} (m:List (Nat × Nat)) (h1:(m.map Prod.fst).Nodup) (h2:(m.map Prod.snd).Nodup) (hpin:∀ id,id<F.pins→look id m=some id) (hn:∀ p∈m,p.2<st'.n)
  (hok:∀ p∈st'.h,p.1<st'.n) (hs:∀ p∈st'.s,p.2=rl m (st.get p.1)∨p.2 = .bot) (hh:∀ p∈st'.h,hhOk m st.h p.1 p.2):Wk F st st':=by
 refine Wk.relabel m h1 h2 hpin hn hok hs fun p hp=>?_;have:=hh p hp;unfold hhOk at this;obtain ⟨e,he,hr⟩:=Option.bind_eq_some_iff.1 this;obtain ⟨i,hi,hl⟩:=Option.bind_eq_some_iff.1 he;exact ⟨i,e,Q76 h1 hi,hl,hr⟩
theorem join {P:Program} [Kd P] {F:Fx} {y:Code} {AQ:Exit→St→Prop} {K:St→Prop} {G:Prop} (hK:∀ st',Wp P F y AQ st'→K st') (S:Bool→St) (C:Prop) (h1:(∀ b:Bool,(b=true↔C)→∀ st',Wk F st' (S b)→K st')→G)
  (h2:∀ b:Bool,(b=true↔C)→Wp P F y AQ (S b)):G:=h1 fun b hb st' hw=>hK st' (Q5 hw (h2 b hb))
end
section
attribute [local simp] Qc QC Qq
theorem PurTo.field {h:HP} {id k sz:Nat} {row cs:List AV} (he:h id=some (.mix sz [row])) (hl:k+cs.length≤sz) (hp:PurL h ((row.drop k).take cs.length) cs):PurTo h (.adr id 0 k) (.rptr cs) :=
 .adr he (by simp) hl fun j hj=>by
  have:=hp.2 j (by rw [hp.1];exact hj);simpa [List.getD_eq_getElem?_getD,List.getElem?_take,List.getElem?_drop,hj] using this
inductive PurLL (h:HP) (sz:Nat):List (List AV)→List (List AV)→Prop
 | nil:PurLL h sz [] []
 | cons {r s rs ss}:s.length=sz→PurL h r s→PurLL h sz rs ss→PurLL h sz (r :: rs) (s :: ss)
theorem PurLL.get {h:HP} {sz:Nat} {rs ss:List (List AV)} (hp:PurLL h sz rs ss):rs.length=ss.length∧∀ i,i<ss.length→(ss.getD i []).length=sz∧PurL h (rs.getD i []) (ss.getD i []):=by
 induction hp with
 | nil=>exact ⟨rfl,fun i hi=>by simp at hi⟩
 | cons h1 h2 _ ih =>
  refine ⟨by simp [ih.1],fun i hi=>?_⟩;cases i with
  | zero=>exact ⟨h1,h2⟩
  | succ i=>simpa using ih.2 i (by simpa using hi)
theorem PurTo.lits {h:HP} {id n sz:Nat} {u:Bool} {es fs:List (List AV)} (he:h id=some (.mix sz es)) (hp:PurLL h sz es fs) (hn:n=fs.length):PurTo h (.own id 0 n) (.lst u sz fs):=by
 subst hn;refine .mix he (by rw [hp.get.1];omega) rfl (fun i hi=>(hp.get.2 i hi).1) fun i k hi hk=>?_;have:=hp.get.2 i hi;rw [Nat.zero_add];exact this.2.2 k (by rw [this.2.1,this.1];exact hk)
end
section
attribute [local simp] Qc QC Qq
noncomputable def ass {α:Type} (p:Prop) (k:Option α):Option α:=@ite _ p (Classical.propDecidable p) k none
theorem Q1 {α:Type} {p:Prop} {k:Option α} {r:α} (h:ass p k=some r):p∧k=some r:=by
 unfold ass at h;split at h
 ·exact ⟨‹_›,h⟩
 cases h
theorem Q4 {α:Type} {p:Prop} {k:Option α} (h:p):ass p k=k:=by unfold ass;rw [if_pos h]
inductive Ctl (σ ε:Type) where
 | next (s:σ)
 | ret (e:ε)
def QB {σ ε:Type} (body:σ→Option (Ctl σ ε)):Nat→σ→Option ε
 | 0,_=>none
 | n+1,s=>match body s with
  | some (.next s')=>QB body n s'
  | some (.ret e)=>some e
  | none=>none
theorem bind_some {α β:Type} {x:Option α} {f:α→Option β} {r:β} (h:x.bind f=some r):∃ v,x=some v∧f v=some r:=Option.bind_eq_some_iff.1 h
theorem if_l {α:Type} {p:Prop} [Decidable p] {a b:Option α} {r:α} (g:p) (h:(if p then a else b)=some r):a=some r:=by rw [if_pos g] at h;exact h
theorem if_r {α:Type} {p:Prop} [Decidable p] {a b:Option α} {r:α} (g:¬ p) (h:(if p then a else b)=some r):b=some r:=by rw [if_neg g] at h;exact h
def contF {σ ε:Type} (body:σ→Option (Ctl σ ε)) (k:Nat) (e:ε):Ctl σ ε→Prop
 | .next s'=>QB body k s'=some e
 | .ret e'=>e'=e
def Qa8 {σ:Type} (F:Fx) (S:σ→St) (G:σ→Prop) (AQ:Exit→St→Prop):Exit→St→Prop
 | .normal,st=>∃ s',G s'∧Wk F st (S s')
 | e,st=>AQ e st
section
variable {P:Program} [Kd P] {mt:MT} {F:Fx} {AQ:Exit→St→Prop} {st:St}
theorem Wp.mono {c:Code} {AQ':Exit→St→Prop} (h:∀ e st,AQ e st→AQ' e st) (hw:Wp P F c AQ st):Wp P F c AQ' st:=by
 intro a w hr;refine Q6v (hw a w hr) fun e a w he=>?_;obtain ⟨st',h1,h2⟩:=he;exact ⟨st',h1,h _ _ h2⟩
theorem Q3A {st1 st3:St} (st2:St) (h1:Wk F st1 st2) (h2:Wk F st2 st3):Wk F st1 st3:=fun a w h=>h2 a w (h1 a w h)
theorem Qx {σ ε:Type} {c:Code} {body:σ→Option (Ctl σ ε)} {N:Nat} {s0:σ} {e:ε} (h:QB body N s0=some e) (S:σ→St) (hk:Wk F st (S s0))
  (round:∀ (k:Nat) (s:σ) (c':Ctl σ ε),body s=some c'→contF body k e c'→Wp P F c (Qa8 F S (fun s'=>QB body k s'=some e) AQ) (S s)):Wp P F (.loop c) AQ st:=by
 refine Q18 (fun p:Nat × σ=>S p.2) (fun p=>QB body p.1 p.2=some e) (fun p=>p.1) (N,s0) h hk ?_
 rintro ⟨k,s⟩ hl
 cases k with
 | zero=>cases hl
 | succ k =>
  simp only [QB] at hl;cases hb:body s with
  | none=>rw [hb] at hl;cases hl
  | some c' =>
   have hc:contF body k e c':=by
    rw [hb] at hl;cases c' with
    | next s'=>exact hl
    | ret e'=>simpa [contF] using hl
   refine Wp.mono ?_ (round k s c' hb hc);intro ex st' hq;cases ex with
   | normal =>
    obtain ⟨s',h1,h2⟩:=hq;exact ⟨(k,s'),h1,Nat.lt_succ_self k,h2⟩
   | _=>exact hq
theorem Ql {β:Type} {x y:Code} (J:β→St) (C:β→Prop) (h2:Wp P F x (Q4c (fun st=>∃ b,C b∧Wk F st (J b)) AQ) st) (h1:∀ b,C b→Wp P F y AQ (J b)):Wp P F x (Q4c (Wp P F y AQ) AQ) st:=by
 refine Wp.mono ?_ h2;intro ex st' hq;cases ex with
 | normal =>
  obtain ⟨b,hc,hw⟩:=hq;exact Q5 hw (h1 b hc)
 | _=>exact hq
theorem Qz {all:Array Oper} {os:List Oper} {dst:Option Nat} {K:St→Prop} {op:Op} {t:Nat} {want:Bool} {b:Bool}
  (h1:b=want→runO P mt all os dst (st.put t (.val (.bool want))) K op) (h2:b=(!want)→QY P mt all os ((st.put t (.val (.bool !want))).app dst { v:=.tup [] }) K) :
  Q5j P mt all os dst st K op t want (.val (.bool b)):=by
 rw [Qc];exact ⟨h1,h2⟩
end
section
variable {P:Program} [Kd P] {F:Fx} {AQ:Exit→St→Prop} {st:St} {i id:Nat}
theorem tn {K:St→Prop} (h:K st):Q4c K AQ .normal st:=h
theorem tx {K:St→Prop} (h:AQ (.exit i) st):Q4c K AQ (.exit i) st:=h
theorem tr {K:St→Prop} (h:AQ .ret st):Q4c K AQ .ret st:=h
theorem bn (h:AQ .normal st):Q5T id AQ .normal st:=h
theorem bh (h:AQ .normal st):Q5T id AQ (.exit id) st:=by simp only [Q5T,if_pos];exact h
theorem br (h:AQ .ret st):Q5T id AQ .ret st:=h
theorem lx {σ:Type} {S:σ→St} {G:σ→Prop} (h:AQ (.exit i) st):Qa8 F S G AQ (.exit i) st:=h
theorem lr {σ:Type} {S:σ→St} {G:σ→Prop} (h:AQ .ret st):Qa8 F S G AQ .ret st:=h
theorem rn {σ:Type} {S:σ→St} {G:σ→Prop} {s':σ} (h1:G s') (h2:Wk F st (S s')):Qa8 F S G AQ .normal st:=⟨s',h1,h2⟩
theorem jn {β:Type} {J:β→St} {C:β→Prop} {b:β} (h1:C b) (h2:Wk F st (J b)):Q4c (fun st=>∃ b,C b∧Wk F st (J b)) AQ .normal st:=⟨b,h1,h2⟩
end
theorem Wk.r1 {F:Fx} {st st':St} (m:List (Nat × Nat)) (h:(m.map Prod.fst).Nodup∧(m.map Prod.snd).Nodup∧(∀ id,id<F.pins→look id m=some id)∧(∀ p∈m,p.2<st'.n)∧(∀ p∈st'.h,p.1<st'.n)∧(∀ p∈st'.s,p.2=rl m (st.get p.1)∨p.2 = .bot)∧∀ p∈st'.h,hhOk m st.h p.1 p.2):Wk F st st':=Wk.rel m h.1 h.2.1 h.2.2.1 h.2.2.2.1 h.2.2.2.2.1 h.2.2.2.2.2.1 h.2.2.2.2.2.2
def fuel:Nat:=4611686018427387904
theorem PurTo.preT {h:HP} {xs cs:List AV} (e:xs.take cs.length=cs):PurTo h (.rptr xs) (.rptr cs):=by
 have:xs=cs++xs.drop cs.length:=by
  have h:=List.take_append_drop cs.length xs;rw [e] at h;exact h.symm
 rw [this];exact .pre
end
section
attribute [local simp] Qc QC Qq
structure SD (ds:List Nat) (st:St):Prop where
 mix:∀ s∈ds,∃ id,st.get s = .adr id 0 0∧QD (st.hp id)=true
 sep:∀ t id i k,t ∉ ds→st.get t = .adr id i k→∀ s∈ds,st.get s ≠ .adr id 0 0
 sepO:∀ t id i k,t ∉ ds→st.get t = .own id i k→∀ s∈ds,st.get s ≠ .adr id 0 0
section
variable {P:Program} [Kd P] {ds:List Nat} {ops:Array Oper} {S:Nat→St} {E:Nat→Option Eff} {C:Ctx} {R:Nat→Prop} {N:Nat} {w0:World}
inductive Pts:AV→Nat→Prop
 | adr {id i k}:Pts (.adr id i k) id
 | own {id i k}:Pts (.own id i k) id
end
end
section
attribute [local simp] Qc QC Qq
def callX (P:Program) [Kd P] (mt:MT) (all:Array Oper) (f:Nat) (az:List AV) (dst:Option Nat) (os:List Oper) (st:St) (K:St→Prop):Prop :=
 Q8A P mt all f az dst os st K∨∃ keep bs res,PurK keep st.hp az bs∧FContract P keep f bs res∧Q35 P mt all os (st.app dst { v:=res }) K
def callB (P:Program) [Kd P] (mt:MT) (all:Array Oper) (f:Nat) (az:List AV) (dst:Option Nat) (os:List Oper) (st:St) (K:St→Prop):Prop :=
 (∃ bs res,PurL st.hp az bs∧Contract P f bs res∧Q35 P mt all os (st.app dst (unk st.n res)) K)∨∃ keep bs res,PurK keep st.hp az bs∧FContract P keep f bs res∧Q35 P mt all os (st.app dst { v:=res }) K
def Q7G (P:Program) [Kd P] (mt:MT) (all:Array Oper) (az:List AV) (dst:Option Nat) (os:List Oper) (st:St) (K:St→Prop):AV→Prop
 | .fn f caps=>callX P mt all f (az++caps) dst os st K
 | .bnd f rs=>callB P mt all f (rs++az) dst os st K
 | _=>False
def callI (P:Program) [Kd P] (mt:MT) (all:Array Oper) (F:Option Nat) (az:List AV) (dst:Option Nat) (os:List Oper) (st:St) (K:St→Prop):Prop:=False
def Q7H (P:Program) [Kd P] (mt:MT) (all:Array Oper) (name:String) (az:List AV) (dst:Option Nat) (os:List Oper) (st:St) (K:St→Prop):AV→Prop
 | .ifc t cs=>callI P mt all (mth P t name) (.agg cs :: az) dst os st K
 | .ifs t sz es=>callI P mt all (mth P t name) (.lst true sz es :: az) dst os st K
 | _=>False
def mkI (t:TypeId):Bool→Bool→AV→Option (Prop × Eff)
 | true,_,.agg cs=>some (True,{ v:=.ifc t cs })
 | _,true,.lst _ sz es=>some (True,{ v:=.ifs t sz es })
 | _,_,_=>none
def asB (t sz:Nat) (es:List (List AV)):Bool→Option (Prop × Eff)
 | true=>some (True,{ v:=.tup [.ifs t sz es,.val (.bool true)] })
 | false=>none
def asA (P:Program) (s:TypeId):Bool→AV→Option (Prop × Eff)
 | true,.ifs t sz es=>asB t sz es (tas P s t)
 | _,_=>none
def inZ (fz:List Nat):Option Nat→Bool
 | some d=>fz.contains d
 | none=>false
def Q9S (P:Program) (et:Option TypeId) (l c:AV) (n:Nat):Option (Prop × Eff) :=
 match et with
 | some e=>Q5o (some (((elm P e).bind (tyi P)).getD ⟨false,1,8,[]⟩)) (tyi P e) l c n
 | none=>none
noncomputable def opX (P:Program) (fz:List Nat) (dst:Option Nat) (op:Op) (ev:Operand→AV) (h:HP) (n:Nat):Option (Prop × Eff) :=
 match op with
 | .box t x=>bif inZ fz dst then boxr (ev x) else boxv (ev x) n
 | .call ⟨.builtin .append,⟨[s,x]⟩,⟨[t,u]⟩⟩=>match elm P t with
  | some e=>if t=u then (bif inZ fz dst then appM (tyi P e) (ev s) (ev x) h n else Q2r (tyi P e) (ev s) (ev x) h n) else none
  | none=>none
 | .call ⟨.builtin .len,⟨[x]⟩,⟨[t]⟩⟩=>bif inZ fz dst then lenm (mty P t) (Q3k h (ev x)) else match elm P t with
  | some _=>lenv (ev x)
  | none=>none
 | .makeSlice t l c=>bif inZ fz dst then Q9S P (elm P t) (ev l) (ev c) n else match elm P t with
  | some e=>Q5n (tyi P e) (ev l) (ev c) n
  | none=>none
 | .makeFunc (.func f) ⟨[]⟩ caps=>some (True,{ v:=.fn f (caps.toList.map ev) })
 | .makeInterface t x=>mkI t (sty P t) (slt P t) (ev x)
 | .typeAssert x _ s ok=>asA P s ok (ev x)
 | .makeFunc (.func f) ⟨r :: rs⟩ ⟨[]⟩=>some (True,{ v:=.bnd f ((r :: rs).map ev) })
 | .convert s d x=>bif inZ fz dst then convS (byS P s d) h (ev x) else Q6z (intk P s) (intk P d) (ev x)
 | .slice t x none (some y) (some z)=>match elm P t with
  | some e=>Q3u (tyi P e) h (ev x) (ev y) (ev z)
  | none=>none
 | .makeMap t none=>makv (mty P t) n
 | .lookup t x k ok=>Q5x (mty P t) (Q3k h (ev x)) (ev k) ok
 | .mapUpdate t x k y=>updv (mty P t) h (ev x) (ev k) (ev y)
 | op=>opF P op ev h n
theorem Qa1 {P:Program} [Kd P] {mt:MT} {fz:List Nat} {dst:Option Nat} {op:Op} {ev:Operand→AV} {h:HP} {n:Nat} {c:Prop} {e:Eff} (hx:opX P fz dst op ev h n=some (c,e)) (hc:c):AOp P mt op ev h n e:=by
 unfold opX at hx;split at hx
 ·rename_i t x;cases hz:inZ fz dst with
  | true=>rw [hz] at hx;exact .boxr rfl hx
  | false=>rw [hz] at hx;exact .blt hx hc
 ·rename_i s x t u;split at hx
  ·rename_i e0 hel;split at hx
   ·rename_i htu;subst htu;cases hz:inZ fz dst with
    | true=>rw [hz] at hx;exact .appM rfl hel hx hc
    | false =>
     rw [hz] at hx;refine .blt (c:=c) ?_ hc;simp only [opF,bltF,hel,if_true];exact hx
   cases hx
  cases hx
 ·rename_i x t;cases hz:inZ fz dst with
  | true=>rw [hz] at hx;exact .mapo hx hc
  | false=>rw [hz] at hx;exact .blt hx hc
 ·rename_i t l cc;cases hz:inZ fz dst with
  | true =>
   rw [hz] at hx;simp only [cond_true] at hx;unfold Q9S at hx;split at hx
   ·rename_i et hel;exact .mkz rfl hel hx hc
   cases hx
  | false=>rw [hz] at hx;exact .blt hx hc
 ·simp only [Option.some.injEq,Prod.mk.injEq] at hx;obtain ⟨_,rfl⟩:=hx;exact .mkf rfl
 ·rename_i t x;unfold mkI at hx;split at hx
  ·rename_i hs hx2;simp only [Option.some.injEq,Prod.mk.injEq] at hx;obtain ⟨_,rfl⟩:=hx;exact .mki rfl hs hx2
  ·rename_i hs hx2;simp only [Option.some.injEq,Prod.mk.injEq] at hx;obtain ⟨_,rfl⟩:=hx;exact .mkis rfl hs hx2
  cases hx
 ·rename_i x xt s ok;unfold asA at hx;split at hx
  ·rename_i t sz es hx2;unfold asB at hx;split at hx
   ·rename_i hs;simp only [Option.some.injEq,Prod.mk.injEq] at hx;obtain ⟨_,rfl⟩:=hx;exact .tas rfl hs hx2
   cases hx
  cases hx
 ·simp only [Option.some.injEq,Prod.mk.injEq] at hx;obtain ⟨_,rfl⟩:=hx;exact .mkb rfl
 ·rename_i s d x;cases hz:inZ fz dst with
  | true =>
   rw [hz] at hx;obtain ⟨e2,id,ns,h1,h2,h3,rfl⟩:=convS_eq hx hc;exact .cvs rfl h1 h2 h3
  | false=>rw [hz] at hx;exact .blt hx hc
 ·split at hx
  ·rename_i et hel;exact .sl3 rfl hel hx hc
  cases hx
 ·exact .mapo hx hc
 ·exact .mapo hx hc
 ·exact .mapo hx hc
 exact .blt hx hc
def semA (P:Program) [Kd P] (mt:MT) (all:Array Oper) (op:Op) (dst:Option Nat) (os:List Oper) (st:St) (K:St→Prop):Prop :=
 (mt.on && wrM mt op)=true∧∃ e,SemOp P op st.ev st.hp st.n e∧Q35 P mt all os (st.app dst e) K
def stoZ (P:Program) [Kd P] (mt:MT) (all:Array Oper) (op:Op) (t:TypeId) (av xv:AV) (dst:Option Nat) (os:List Oper) (st:St) (K:St→Prop):Prop:=stoA P mt all t av xv dst os st K∨semA P mt all op dst os st K
def Q5A (P:Program) [Kd P] (mt:MT) (fz:List Nat) (all:Array Oper) (os:List Oper) (K R:St→Prop) (dst:Option Nat) (st:St) (op:Op):Prop :=
 match op with
 | .call ⟨.value x,args,_⟩=>Q7G P mt all (args.toList.map st.ev) dst os st K (st.ev x)
 | .call ⟨.invoke x name,args,_⟩=>Q7H P mt all name (args.toList.map st.ev) dst os st K (st.ev x)
 | .store t a x=>Q5b R (stoZ P mt all (.store t a x) t (st.ev a) (st.ev x) dst os st K) dst st (Q3S (tyi P t) (st.ev a) (st.ev x) st.hp)
 | .call ⟨.builtin .append,args,ts⟩=>Q5b R (semA P mt all (.call ⟨.builtin .append,args,ts⟩) dst os st K) dst st (opX P fz dst (.call ⟨.builtin .append,args,ts⟩) st.ev st.hp st.n)
 | .lookup t x k ok=>Q5b R (semA P mt all (.lookup t x k ok) dst os st K) dst st (Q5x (mty P t) (Q3k st.hp (st.ev x)) (st.ev k) ok)
 | .mapUpdate t x k y=>Q5b R (semA P mt all (.mapUpdate t x k y) dst os st K) dst st (updv (mty P t) st.hp (st.ev x) (st.ev k) (st.ev y))
 | .call ⟨.builtin .clear,args,ts⟩=>semA P mt all (.call ⟨.builtin .clear,args,ts⟩) dst os st K
 | op=>Q6C R dst st (opX P fz dst op st.ev st.hp st.n)
def Q8K (P:Program) [Kd P] (mt:MT) (fz:List Nat) (all:Array Oper) (os:List Oper) (K R:St→Prop) (dst:Option Nat) (st:St) (op:Op) (t:Nat) (want:Bool):AV→Prop
 | .val (.bool b)=>(b=want→Q5A P mt fz all os K R dst (st.put t (.val (.bool want))) op)∧(b = !want→R ((st.put t (.val (.bool !want))).app dst { v:=.tup [] }))
 | .tup []=>R (st.app dst { v:=.tup [] })
 | _=>False
def Q9M (P:Program) [Kd P] (mt:MT) (fz:List Nat) (all:Array Oper) (os:List Oper) (K R:St→Prop) (dst:Option Nat) (st:St) (op:Op) (want:Bool):Option Nat→Prop
 | some t=>Q8K P mt fz all os K R dst st op t want (st.get t)
 | none=>False
def runX (P:Program) [Kd P] (mt:MT) (fz:List Nat) (all:Array Oper):List Oper→St→(St→Prop)→Prop
 | [],st,K=>K st
 | o :: os,st,K=>match o.guard with
  | none=>Q5A P mt fz all os K (fun st'=>runX P mt fz all os st' K) o.dst st o.op
  | some (j,want)=>Q9M P mt fz all os K (fun st'=>runX P mt fz all os st' K) o.dst st o.op want ((all[j]?).bind (·.dst))
theorem goX_one {P:Program} [Kd P] {mt:MT} {fz:List Nat} {all:Array Oper} {o:Oper} {os:List Oper} {st:St} {K R:St→Prop} (hw:Q2S all o st=some true)
  (ih:∀ st',R st'→Q35 P mt all os st' K) (h:Q5A P mt fz all os K R o.dst st o.op):Q35 P mt all (o :: os) st K:=by
 refine .inl ⟨hw,?_⟩;unfold Q5A at h;split at h
 ·rename_i x args ts ho;unfold Q7G at h;split at h
  ·rename_i f caps hx;rcases h with (⟨bs,res,h1,h2,h3⟩|⟨h0,args,ms,res,m,Pt,sets,dels,h1,h2,h3,h4,h5,h6⟩|⟨h0,e,h1,h2⟩)|⟨keep,bs,res,h1,h2,h3⟩
   ·exact ⟨_,.call ho rfl hx h1 h2,h3⟩
   ·exact ⟨_,.mcall (Q5P h0 ho hx) ho rfl hx h1 h2 h3 h4 h5,h6⟩
   ·exact ⟨_,.icall (Q5P h0 ho hx) ho rfl hx h1,h2⟩
   exact ⟨_,.fcall ho rfl hx h1 h2,h3⟩
  ·rename_i f rs hx;rcases h with ⟨bs,res,h1,h2,h3⟩|⟨keep,bs,res,h1,h2,h3⟩
   ·exact ⟨_,.callb ho rfl hx h1 h2,h3⟩
   exact ⟨_,.fcallb ho rfl hx h1 h2,h3⟩
  exact h.elim
 ·rename_i x name args ts ho;unfold Q7H at h;split at h
  ·rename_i t cs hx;exact h.elim
  ·rename_i t sz es hx;exact h.elim
  exact h.elim
 ·rename_i t a x ho;unfold Q5b at h;split at h
  ·rename_i c e he;exact ⟨e,.blt (by rw [ho];exact he) h.1,ih _ h.2⟩
  rcases h with (⟨ty,id,i,k,b,sz,es,ds,dels,h1,h2,h3,h4,h5⟩|⟨ty,id,i,az,bs,sz,es,ds,dels,h1,h2,h3,h3',h4,h5⟩)|⟨h0,e,h1,h2⟩
  ·exact ⟨_,.sto ho h1 h2 h3 h4,h5⟩
  ·exact ⟨_,.stg ho h1 h2 h3 h3' h4,h5⟩
  exact ⟨e,.sem (by rw [ho];exact h0) (by rw [ho];exact h1),h2⟩
 ·rename_i args ts ho;unfold Q5b at h;split at h
  ·rename_i c e he;exact ⟨e,Qa1 (fz:=fz) (dst:=o.dst) (by rw [ho];exact he) h.1,ih _ h.2⟩
  obtain ⟨h0,e,h1,h2⟩:=h;exact ⟨e,.sem (by rw [ho];exact h0) (by rw [ho];exact h1),h2⟩
 ·rename_i t x k ok ho;unfold Q5b at h;split at h
  ·rename_i c e he;exact ⟨e,Qa1 (fz:=fz) (dst:=o.dst) (by rw [ho];exact he) h.1,ih _ h.2⟩
  obtain ⟨h0,e,h1,h2⟩:=h;exact ⟨e,.sem (by rw [ho];exact h0) (by rw [ho];exact h1),h2⟩
 ·rename_i t x k y ho;unfold Q5b at h;split at h
  ·rename_i c e he;exact ⟨e,Qa1 (fz:=fz) (dst:=o.dst) (by rw [ho];exact he) h.1,ih _ h.2⟩
  obtain ⟨h0,e,h1,h2⟩:=h;exact ⟨e,.sem (by rw [ho];exact h0) (by rw [ho];exact h1),h2⟩
 ·rename_i args ts ho;obtain ⟨h0,e,h1,h2⟩:=h;exact ⟨e,.sem (by rw [ho];exact h0) (by rw [ho];exact h1),h2⟩
 unfold Q6C at h;split at h
 ·rename_i c e he;exact ⟨e,Qa1 he h.1,ih _ h.2⟩
 exact h.elim
theorem Q2H {P:Program} [Kd P] {mt:MT} {fz:List Nat} {all:Array Oper}:∀ (os:List Oper) (st:St) (K:St→Prop),runX P mt fz all os st K→Q35 P mt all os st K:=by
 intro os
 induction os with
 | nil=>intro st K h;exact h
 | cons o os ih =>
  intro st K h;unfold runX at h;split at h
  ·rename_i hg;exact goX_one (by simp [Q2S,hg]) (fun st'=>ih st' K) h
  rename_i j want hg;unfold Q9M at h;split at h
  ·rename_i t ht;unfold Q8K at h;split at h
   ·rename_i b hb;have hput:∀ b',b=b'→st.put t (.val (.bool b'))=st:=(by rintro _ rfl;exact St.put_get hb (by simp));obtain ⟨h1,h2⟩:=h
    by_cases hbw:b=want
    ·have h1:=h1 hbw;rw [hput _ hbw] at h1;exact goX_one (by simp only [Q2S,hg,ht,hb,hbw,beq_self_eq_true]) (fun st'=>ih st' K) h1
    have hb':b = !want:=(by cases b<;>cases want<;>simp_all);have h2:=h2 hb';rw [hput _ hb'] at h2;refine .inr ⟨?_,ih _ _ h2⟩;have:(b == want)=false:=(by simpa using hbw);simp only [Q2S,hg,ht,hb,this]
   ·rename_i htt;refine .inr ⟨?_,ih _ _ h⟩;simp only [Q2S,hg,ht,htt]
   exact h.elim
  exact h.elim
section
variable {P:Program} [Kd P] {mt:MT} {fz:List Nat} {all:Array Oper} {f:Nat} {az bs:List AV} {res:AV} {dst:Option Nat} {os:List Oper} {st:St} {K:St→Prop}
theorem QS (hc:Contract P f bs res) (hp:PurL st.hp az bs) (h:runX P mt fz all os (st.app dst (unk st.n res)) K):callX P mt all f az dst os st K:=.inl (.inl ⟨bs,res,hp,hc,Q2H _ _ _ h⟩)
theorem Q7I (keep:Bool) (hc:FContract P keep f bs res) (hp:PurK keep st.hp az bs) (h:runX P mt fz all os (st.app dst { v:=res }) K):callX P mt all f az dst os st K:=.inr ⟨keep,bs,res,hp,hc,Q2H _ _ _ h⟩
theorem Q4x {e:Eff} (hc:ICon P f az st.hp st.n e) (h:runX P mt fz all os (st.app dst e) K) (hm:mt.may f=true:=by rfl):callX P mt all f az dst os st K:=.inl (.inr (.inr ⟨hm,e,hc,Q2H _ _ _ h⟩))
theorem Qb6 {op:Op} {t:TypeId} {ty:Tyi} {xv b:AV} {id i k sz:Nat} {es:List (List AV)} {ds:List Nat} (dels:List Nat) (h1:tyi P t=some ty) (h2:ty.sz=1)
  (h3:Sto st.hp st.n id i k xv b sz es ds dels) (h:runX P mt fz all os (st.app dst { v:=.bot,set:=[(id,.row sz (es.set i ((es.getD i []).set k b)))],del:=ds++dels }) K):stoZ P mt all op t (.adr id i k) xv dst os st K :=
 .inl <| .inl ⟨ty,id,i,k,b,sz,es,ds,dels,h1,h2,rfl,h3,Q2H _ _ _ h⟩
theorem Q99 {op:Op} {t:TypeId} {ty:Tyi} {az bs:List AV} {id i sz:Nat} {es:List (List AV)} {ds:List Nat} (dels:List Nat) (h1:tyi P t=some ty) (h2:ty.sz=sz)
  (h3:StoG st.hp st.n id i az bs sz es ds dels) (h:runX P mt fz all os (st.app dst { v:=.bot,set:=[(id,.row sz (es.set i bs))],del:=ds++dels }) K):stoZ P mt all op t (.adr id i 0) (.agg az) dst os st K :=
 .inl <| .inr ⟨ty,id,i,az,bs,sz,es,ds,dels,h1,h2,rfl,rfl,h3,Q2H _ _ _ h⟩
theorem PurK.ofL {h:HP} (hp:PurL h az bs):PurK false h az bs:=hp
end
theorem Qk {P:Program} [Kd P] {F:Fx} {AQ:Exit→St→Prop} {st:St} {id:Nat} {ops:Array Oper} {d:Bool} (fz:List Nat) (hm:P.follows .mixedOrders=true) (hok:(okN F.N ops && (!d || (Q4a false ops && Q2J ops)))=true)
  (h:∀ K:St→Prop,(∀ st',AQ .normal st'→K st')→runX P false fz ops ops.toList st K):Wp P F (.region id ops d) AQ st :=
 Q4W hm hok fun K hK=>Q2H _ _ _ (h K hK)
theorem Q9l {P:Program} [Kd P] {F:Fx} {AQ:Exit→St→Prop} {st:St} {id:Nat} {ops:Array Oper} {d:Bool} (fz:List Nat) (hm:P.follows .mixedOrders=true) (hok:(okN F.N ops && (!d || (Q4a true ops && Q2J ops)))=true)
  (h:∀ K:St→Prop,(∀ st',AQ .normal st'→K st')→runX P true fz ops ops.toList st K):Wp P F (.region id ops d) AQ st :=
 Q4W hm hok fun K hK=>Q2H _ _ _ (h K hK)
theorem w_runXR {P:Program} [Kd P] {F:Fx} {AQ:Exit→St→Prop} {st:St} {id:Nat} {ops:Array Oper} {d:Bool} (lk:Bool) (fz ro:List Nat) (hm:P.follows .mixedOrders=true) (hok:(okN F.N ops && (!d || (Q4a ⟨true,ro,lk,[]⟩ ops && Q2J ops)))=true)
  (h:∀ K:St→Prop,(∀ st',AQ .normal st'→K st')→runX P ⟨true,ro,lk,[]⟩ fz ops ops.toList st K):Wp P F (.region id ops d) AQ st :=
 Q4W hm hok fun K hK=>Q2H _ _ _ (h K hK)
theorem w_runXQ {P:Program} [Kd P] {F:Fx} {AQ:Exit→St→Prop} {st:St} {id:Nat} {ops:Array Oper} {d:Bool} (lk:Bool) (fz ro rd0 rd:List Nat) (hrd:∀ t∈rd0,RoV (st.get t)) (hm:P.follows .mixedOrders=true) (hok:(okN F.N ops && (!d || (Q4a ⟨true,ro,lk,rd⟩ ops && Q2J ops)) && QaL rd0 rd ops)=true)
  (h:∀ K:St→Prop,(∀ st',AQ .normal st'→K st')→runX P ⟨true,ro,lk,rd⟩ fz ops ops.toList st K):Wp P F (.region id ops d) AQ st :=
 Q6r rd0 hrd (Bool.and_eq_true _ _ ▸ hok:_∧_).2 hm (Bool.and_eq_true _ _ ▸ hok:_∧_).1 fun K hK=>Q2H _ _ _ (h K hK)
theorem w_runXP {P:Program} [Kd P] {F:Fx} {AQ:Exit→St→Prop} {st:St} {id:Nat} {ops:Array Oper} {d:Bool} (fz rd0 rd:List Nat) (hrd:∀ t∈rd0,RoV (st.get t)) (hm:P.follows .mixedOrders=true) (hok:(okN F.N ops && (!d || (Q4a ⟨false,[],false,rd⟩ ops && Q2J ops)) && QaL rd0 rd ops)=true)
  (h:∀ K:St→Prop,(∀ st',AQ .normal st'→K st')→runX P ⟨false,[],false,rd⟩ fz ops ops.toList st K):Wp P F (.region id ops d) AQ st :=
 Q6r rd0 hrd (Bool.and_eq_true _ _ ▸ hok:_∧_).2 hm (Bool.and_eq_true _ _ ▸ hok:_∧_).1 fun K hK=>Q2H _ _ _ (h K hK)
def rE (P:Program) [Kd P] (mt:MT) (fz:List Nat) (all:Array Oper) (os:List Oper) (dst:Option Nat) (st:St) (K:St→Prop) (x:Option (Prop × Eff)):Prop:=Q6C (fun st'=>runX P mt fz all os st' K) dst st x
def rS (P:Program) [Kd P] (mt:MT) (fz:List Nat) (all:Array Oper) (os:List Oper) (dst:Option Nat) (st:St) (K:St→Prop) (op:Op) (t:TypeId) (av xv:AV) (x:Option (Prop × Eff)):Prop:=Q5b (fun st'=>runX P mt fz all os st' K) (stoZ P mt all op t av xv dst os st K) dst st x
def rL (P:Program) [Kd P] (mt:MT) (fz:List Nat) (all:Array Oper) (os:List Oper) (dst:Option Nat) (st:St) (K:St→Prop) (op:Op) (x:Option (Prop × Eff)):Prop:=Q5b (fun st'=>runX P mt fz all os st' K) (semA P mt all op dst os st K) dst st x
def rO (P:Program) [Kd P] (mt:MT) (fz:List Nat) (all:Array Oper) (os:List Oper) (dst:Option Nat) (st:St) (K:St→Prop) (op:Op):Prop:=Q5A P mt fz all os K (fun st'=>runX P mt fz all os st' K) dst st op
def gE (P:Program) [Kd P] (mt:MT) (fz:List Nat) (all:Array Oper) (os:List Oper) (dst:Option Nat) (st:St) (K:St→Prop) (op:Op) (t:Nat) (want:Bool) (x:AV):Prop:=Q8K P mt fz all os K (fun st'=>runX P mt fz all os st' K) dst st op t want x
section
variable {P:Program} [Kd P] {mt:MT} {fz:List Nat} {all:Array Oper} {os:List Oper} {dst:Option Nat} {st:St} {K:St→Prop} {op:Op} {ty:TypeId} {pos:String} {af:Array Edge}
@[simp] theorem rE_some {c:Prop} {e:Eff}:rE P mt fz all os dst st K (some (c,e))=(c∧runX P mt fz all os (st.app dst e) K):=rfl
@[simp] theorem callIX_ifc {name:String} {t:Nat} {cs az:List AV}:Q7H P mt all name az dst os st K (.ifc t cs)=callI P mt all (mth P t name) (.agg cs :: az) dst os st K:=rfl
@[simp] theorem callIX_ifs {name:String} {t sz:Nat} {es:List (List AV)} {az:List AV}:Q7H P mt all name az dst os st K (.ifs t sz es)=callI P mt all (mth P t name) (.lst true sz es :: az) dst os st K:=rfl
@[simp] theorem mkI_agg {t:TypeId} {b:Bool} {cs:List AV}:mkI t true b (.agg cs)=some (True,{ v:=.ifc t cs }):=rfl
@[simp] theorem asA_ifs {s t sz:Nat} {es:List (List AV)}:asA P s true (.ifs t sz es)=asB t sz es (tas P s t):=rfl
@[simp] theorem asB_true {t sz:Nat} {es:List (List AV)}:asB t sz es true=some (True,{ v:=.tup [.ifs t sz es,.val (.bool true)] }):=rfl
@[simp] theorem callEX_bnd {f:Nat} {rs az:List AV}:Q7G P mt all az dst os st K (.bnd f rs)=callB P mt all f (rs++az) dst os st K:=rfl
@[simp] theorem callEX_fn {f:Nat} {caps az:List AV}:Q7G P mt all az dst os st K (.fn f caps)=callX P mt all f (az++caps) dst os st K:=rfl
@[simp] theorem rO_call {x:Operand} {args:Array Operand} {ts:Array TypeId}:rO P mt fz all os dst st K (.call ⟨.value x,args,ts⟩)=Q7G P mt all (args.toList.map st.ev) dst os st K (st.ev x):=rfl
@[simp] theorem rO_move {x}:rO P mt fz all os dst st K (.move x)=runX P mt fz all os (st.app dst { v:=st.ev x }) K:=by simp [rO,Q5A,Q6C,opX,opF]
@[simp] theorem rO_assign {x}:rO P mt fz all os dst st K (.assign x)=runX P mt fz all os (st.app dst { v:=st.ev x }) K:=by simp [rO,Q5A,Q6C,opX,opF]
@[simp] theorem rO_pick {c a b}:rO P mt fz all os dst st K (.pick c a b)=rE P mt fz all os dst st K (pick (st.ev c) (st.ev a) (st.ev b)):=rfl
@[simp] theorem rO_alloc {e}:rO P mt fz all os dst st K (.alloc e)=rE P mt fz all os dst st K (Vc.alloc (tyi P e) st.n):=rfl
@[simp] theorem rO_box {t x}:rO P mt fz all os dst st K (.box t x)=rE P mt fz all os dst st K (bif inZ fz dst then boxr (st.ev x) else boxv (st.ev x) st.n):=rfl
@[simp] theorem rO_build {t parts}:rO P mt fz all os dst st K (.build t parts)=rE P mt fz all os dst st K (build (tyi P t) (Q3P P t) (parts.toList.map fun p=>(p.1,st.ev p.2))):=rfl
@[simp] theorem rO_buildSlice {t len parts}:rO P mt fz all os dst st K (.buildSlice t len parts)=rE P mt fz all os dst st K (elmE (fun e=>buildSlice (tyi P e) len (parts.toList.map fun p=>(p.1,st.ev p.2)) st.n) (elm P t)):=by
 simp only [rO,rE,Q5A,opX,opF];cases elm P t<;>rfl
@[simp] theorem rO_load {t a}:rO P mt fz all os dst st K (.load t a)=rE P mt fz all os dst st K (Q3O (tyi P t) (st.ev a) st.hp st.n):=rfl
@[simp] theorem rO_store {t a x}:rO P mt fz all os dst st K (.store t a x)=rS P mt fz all os dst st K (.store t a x) t (st.ev a) (st.ev x) (Q3S (tyi P t) (st.ev a) (st.ev x) st.hp):=rfl
@[simp] theorem rS_some {op:Op} {t:TypeId} {av xv:AV} {c:Prop} {e:Eff}:rS P mt fz all os dst st K op t av xv (some (c,e))=(c∧runX P mt fz all os (st.app dst e) K):=rfl
@[simp] theorem rS_none {op:Op} {t:TypeId} {av xv:AV}:rS P mt fz all os dst st K op t av xv none=stoZ P mt all op t av xv dst os st K:=rfl
@[simp] theorem rO_nilCheck {x}:rO P mt fz all os dst st K (.nilCheck x)=rE P mt fz all os dst st K (nilCheck (st.ev x)):=rfl
@[simp] theorem rO_binOp {o xt x y yt}:rO P mt fz all os dst st K (.binOp o xt x y yt)=rE P mt fz all os dst st K (Q4w (eqT P xt) o (st.ev x) (st.ev y)):=rfl
@[simp] theorem rO_unOp {o t x}:rO P mt fz all os dst st K (.unOp o t x)=rE P mt fz all os dst st K (unop o (st.ev x)):=rfl
@[simp] theorem rO_convert {s d x}:rO P mt fz all os dst st K (.convert s d x)=rE P mt fz all os dst st K (bif inZ fz dst then convS (byS P s d) st.hp (st.ev x) else Q6z (intk P s) (intk P d) (st.ev x)):=rfl
@[simp] theorem rO_makeSlice {t l c}:rO P mt fz all os dst st K (.makeSlice t l c)=rE P mt fz all os dst st K (bif inZ fz dst then Q9S P (elm P t) (st.ev l) (st.ev c) st.n else elmE (fun e=>Q5n (tyi P e) (st.ev l) (st.ev c) st.n) (elm P t)):=by
 simp only [rO,rE,Q5A,opX,opF];cases elm P t<;>rfl
@[simp] theorem makeSX_some {e:TypeId} {l c:AV} {n:Nat}:Q9S P (some e) l c n=Q5o (some (((elm P e).bind (tyi P)).getD ⟨false,1,8,[]⟩)) (tyi P e) l c n:=rfl
attribute [simp] Q5o zc
@[simp] theorem rO_fieldAddr {t x k}:rO P mt fz all os dst st K (.fieldAddr t x k)=rE P mt fz all os dst st K (fieldAddr (fld P t k) (st.ev x)):=rfl
@[simp] theorem rO_field {t x k}:rO P mt fz all os dst st K (.field t x k)=rE P mt fz all os dst st K (Q5X (fld P t k) (st.ev x)):=rfl
@[simp] theorem rO_indexAddr {t x i}:rO P mt fz all os dst st K (.indexAddr t x i)=rE P mt fz all os dst st K (elmE (fun e=>Q1n (tyi P e) (st.ev x) (st.ev i) st.hp) (elm P t)):=by
 simp only [rO,rE,Q5A,opX,opF];cases elm P t<;>rfl
@[simp] theorem rO_extract {x k}:rO P mt fz all os dst st K (.extract x k)=rE P mt fz all os dst st K (Q3h (st.ev x) k):=rfl
@[simp] theorem rO_len {x t}:rO P mt fz all os dst st K (.call ⟨.builtin .len,#[x],#[t]⟩)=rE P mt fz all os dst st K (bif inZ fz dst then lenm (mty P t) (Q3k st.hp (st.ev x)) else elmE (fun _=>lenv (st.ev x)) (elm P t)):=by
 simp only [rO,rE,Q5A,opX];cases inZ fz dst<;>cases elm P t<;>rfl
@[simp] theorem rO_append {x y t u}:rO P mt fz all os dst st K (.call ⟨.builtin .append,#[x,y],#[t,u]⟩)=rL P mt fz all os dst st K (.call ⟨.builtin .append,#[x,y],#[t,u]⟩) (elmE (fun e=>if t=u then (bif inZ fz dst then appM (tyi P e) (st.ev x) (st.ev y) st.hp st.n else Q2r (tyi P e) (st.ev x) (st.ev y) st.hp st.n) else none) (elm P t)):=by
 simp only [rO,rL,Q5A,opX];cases elm P t<;>rfl
@[simp] theorem rO_min {xs ts}:rO P mt fz all os dst st K (.call ⟨.builtin .min,xs,ts⟩)=rE P mt fz all os dst st K (Q4h (fun a b=>if b<a then b else a) (xs.toList.map st.ev)):=rfl
@[simp] theorem rO_max {xs ts}:rO P mt fz all os dst st K (.call ⟨.builtin .max,xs,ts⟩)=rE P mt fz all os dst st K (Q4h (fun a b=>if b > a then b else a) (xs.toList.map st.ev)):=rfl
@[simp] theorem Qbk {t x}:rO P mt fz all os dst st K (.makeInterface t x)=rE P mt fz all os dst st K (mkI t (sty P t) (slt P t) (st.ev x)):=rfl
@[simp] theorem rO_typeAssert {x xt s ok}:rO P mt fz all os dst st K (.typeAssert x xt s ok)=rE P mt fz all os dst st K (asA P s ok (st.ev x)):=rfl
@[simp] theorem rO_invoke {x:Operand} {name:String} {args:Array Operand} {ts:Array TypeId}:rO P mt fz all os dst st K (.call ⟨.invoke x name,args,ts⟩)=Q7H P mt all name (args.toList.map st.ev) dst os st K (st.ev x):=rfl
@[simp] theorem rO_makeFuncB {f r}:rO P mt fz all os dst st K (.makeFunc (.func f) #[r] #[])=rE P mt fz all os dst st K (some (True,{ v:=.bnd f [st.ev r] })):=rfl
@[simp] theorem rO_makeFunc {f caps}:rO P mt fz all os dst st K (.makeFunc (.func f) #[] caps)=rE P mt fz all os dst st K (some (True,{ v:=.fn f (caps.toList.map st.ev) })):=rfl
@[simp] theorem rO_makeMap {t}:rO P mt fz all os dst st K (.makeMap t none)=rE P mt fz all os dst st K (makv (mty P t) st.n):=rfl
@[simp] theorem rL_some {op:Op} {c:Prop} {e:Eff}:rL P mt fz all os dst st K op (some (c,e))=(c∧runX P mt fz all os (st.app dst e) K):=rfl
@[simp] theorem rL_none {op:Op}:rL P mt fz all os dst st K op none=semA P mt all op dst os st K:=rfl
theorem Q6Y {op:Op} {e:Eff} (hs:SemOp P op st.ev st.hp st.n e) (h:runX P mt fz all os (st.app dst e) K) (hm:(mt.on && wrM mt op)=true:=by rfl):semA P mt all op dst os st K:=⟨hm,e,hs,Q2H _ _ _ h⟩
@[simp] theorem rO_clear {args:Array Operand} {ts:Array TypeId}:rO P mt fz all os dst st K (.call ⟨.builtin .clear,args,ts⟩)=semA P mt all (.call ⟨.builtin .clear,args,ts⟩) dst os st K:=rfl
@[simp] theorem MK.plain_ext {x:XP}:(MK.ext x).plain=false:=rfl
@[simp] theorem rO_lookup {t x k ok}:rO P mt fz all os dst st K (.lookup t x k ok)=rL P mt fz all os dst st K (.lookup t x k ok) (Q5x (mty P t) (Q3k st.hp (st.ev x)) (st.ev k) ok):=rfl
@[simp] theorem rO_mapUpdate {t x k y}:rO P mt fz all os dst st K (.mapUpdate t x k y)=rL P mt fz all os dst st K (.mapUpdate t x k y) (updv (mty P t) st.hp (st.ev x) (st.ev k) (st.ev y)):=rfl
@[simp] theorem runX_nil:runX P mt fz all [] st K=K st:=rfl
@[simp] theorem runX_go:runX P mt fz all (⟨dst,op,ty,pos,af,none⟩ :: os) st K=rO P mt fz all os dst st K op:=rfl
@[simp high] theorem gE_tup {t:Nat} {want:Bool}:gE P mt fz all os dst st K op t want (.tup [])=runX P mt fz all os (st.app dst { v:=.tup [] }) K:=rfl
end
section
variable {h:HP} {n:Nat} {sz off m id:Nat} {es:List (List AV)} {kd:MK} {me:List (Value × Value)} {z:Value} {t:Tyi}
def srcME (sz off m:Nat):Option Ent→Option (Prop × List (List AV))
 | some (.mix sz' es)=>if sz'=sz then some (off+m≤es.length,(es.drop off).take m) else none
 | _=>none
def baseME (sz id m:Nat):Option Ent→Option (Prop × List (List AV) × List Nat)
 | some (.mix sz' es)=>if sz'=sz then some (m=es.length,es,[id]) else none
 | _=>none
def mcontE:Option Ent→Option (MK × List (Value × Value))
 | some (.mapE kd es)=>if kd.plain=true then some (kd,es) else none
 | _=>none
noncomputable def updE (kd:MK) (id:Nat) (kv v:Value):Option Ent→Option (Prop × Eff)
 | some (.mapE kd' es)=>if kd'=kd∧kd.is kv=true then some (es.length<1099511627776,{ v:=.bot,set:=[(id,.mapE kd (mset kv v es))] }) else none
 | _=>none
theorem srcM_nil:srcM h sz (.val (.slice none 0 0))=some (True,[]):=rfl
theorem srcM_lst {u:Bool} {sz':Nat}:srcM h sz (.lst u sz' es)=if sz'=sz then some (True,es) else none:=rfl
theorem srcM_E:srcM h sz (.own id off m)=srcME sz off m (h id):=rfl
@[simp] theorem srcME_mix {sz':Nat}:srcME sz off m (some (.mix sz' es))=if sz'=sz then some (off+m≤es.length,(es.drop off).take m) else none:=rfl
theorem baseM_nil:Q6x h sz (.val (.slice none 0 0))=some (True,[],[]):=rfl
theorem baseM_E:Q6x h sz (.own id 0 m)=baseME sz id m (h id):=rfl
@[simp] theorem baseME_mix {sz':Nat}:baseME sz id m (some (.mix sz' es))=if sz'=sz then some (m=es.length,es,[id]) else none:=rfl
def appME (t:Tyi) (n:Nat):Option (Prop × List (List AV) × List Nat)→Option (Prop × List (List AV))→Option (Prop × Eff)
 | some (c1,es,i),some (c2,news)=>some ((0<news.length∨i ≠ [])∧n ∉ i∧c1∧c2∧(es.length+news.length) * t.bytes≤140737488355328∧es.length+news.length≤140737488355328∧0<t.sz,
    { v:=.own n 0 (es.length+news.length),del:=i,new:=[(n,.mix t.sz (es++news))],cnt:=1 })
 | _,_=>none
theorem appM_E {s x:AV}:appM (some t) s x h n=appME t n (Q6x h t.sz s) (srcM h t.sz x):=by
 simp only [appM,appME];cases Q6x h t.sz s with
 | none=>rfl
 | some p=>cases srcM h t.sz x<;>rfl
@[simp] theorem appME_some {c1 c2:Prop} {i:List Nat} {news:List (List AV)}:appME t n (some (c1,es,i)) (some (c2,news))=some ((0<news.length∨i ≠ [])∧n ∉ i∧c1∧c2∧(es.length+news.length) * t.bytes≤140737488355328∧es.length+news.length≤140737488355328∧0<t.sz,
    { v:=.own n 0 (es.length+news.length),del:=i,new:=[(n,.mix t.sz (es++news))],cnt:=1 }):=rfl
theorem mcont_mp:Q3k h (.mp id)=mcontE (h id):=rfl
theorem QaF:Q3k h (.cmap kd me)=some (kd,me):=rfl
@[simp] theorem mcontE_map:mcontE (some (.mapE kd me))=if kd.plain=true then some (kd,me) else none:=rfl
theorem QaB {kd':MK} {kv:Value} {ok:Bool}:Q5x (some (kd,z)) (some (kd',me)) (.val kv) ok=if kd'=kd∧kd.is kv=true then
   some (True,{ v:=bif ok then .tup [.val ((Q1E kv me).getD z),.val (.bool (Q1E kv me).isSome)] else .val ((Q1E kv me).getD z) }) else none:=rfl
theorem lookv_agg {kd':MK} {az:List AV} {ok:Bool}:Q5x (some (kd,z)) (some (kd',me)) (.agg az) ok=(Qt az).elim none fun l=>if kd'=kd∧kd.is (.agg (l.map (Value.int .i64)).toArray)=true then
   some (True,{ v:=bif ok then .tup [.val ((Q1E (.agg (l.map (Value.int .i64)).toArray) me).getD z),.val (.bool (Q1E (.agg (l.map (Value.int .i64)).toArray) me).isSome)] else .val ((Q1E (.agg (l.map (Value.int .i64)).toArray) me).getD z) }) else none:=by
 simp only [Q5x,keyV];cases Qt az<;>rfl
theorem updv_agg {az:List AV} {v:Value}:updv (some (kd,z)) h (.mp id) (.agg az) (.val v)=(Qt az).elim none fun l=>updE kd id (.agg (l.map (Value.int .i64)).toArray) v (h id):=by
 simp only [updv,keyV];cases Qt az<;>rfl
theorem updv_mp {kv v:Value}:updv (some (kd,z)) h (.mp id) (.val kv) (.val v)=updE kd id kv v (h id):=rfl
@[simp] theorem updE_map {kd':MK} {kv v:Value}:updE kd id kv v (some (.mapE kd' me))=if kd'=kd∧kd.is kv=true then some (me.length<1099511627776,{ v:=.bot,set:=[(id,.mapE kd (mset kv v me))] }) else none:=rfl
theorem makv_some:makv (some (kd,z)) n=some (True,{ v:=.mp n,new:=[(n,.mapE kd [])],cnt:=1 }):=rfl
theorem lenm_some {p:MK × Value} {kd':MK}:lenm (some p) (some (kd',me))=some (True,{ v:=.val (.int .i64 me.length) }):=rfl
end
theorem boxr_if {x:AV}:boxr x=if x.cells.all AV.ro && x.shr then some (True,{ v:=.rptr x.cells }) else none:=rfl
attribute [simp] srcM_nil srcM_lst srcM_E baseM_nil baseM_E appM_E mcont_mp QaF QaB updv_mp lookv_agg updv_agg makv_some lenm_some boxr_if inZ AV.ro AV.shr MK.is
attribute [simp] rl
def Em {α β:Type} (ek:α→Value) (ev:β→Value) (xs:List (α × β)):List (Value × Value):=xs.map fun p=>(ek p.1,ev p.2)
def QQ {α β:Type} [DecidableEq α] (k:α):List (α × β)→Option β
 | []=>none
 | (a,v) :: r=>if a=k then some v else QQ k r
def tset {α β:Type} [DecidableEq α] (k:α) (v:β):List (α × β)→List (α × β)
 | []=>[(k,v)]
 | (a,x) :: r=>if a=k then (a,v) :: r else (a,x) :: tset k v r
theorem Q7m {α β:Type} [DecidableEq α] {ek:α→Value} {ev:β→Value} (hi:∀ a b,ek a=ek b→a=b) (k:α):∀ xs:List (α × β),Q1E (ek k) (Em ek ev xs)=(QQ k xs).map ev:=by
 intro xs
 induction xs with
 | nil=>rfl
 | cons p r ih =>
  obtain ⟨a,v⟩:=p;simp only [Em,List.map_cons,Q1E,QQ]
  by_cases h:a=k
  ·subst h;simp
  rw [if_neg (fun h'=>h (hi _ _ h')),if_neg h];exact ih
theorem mset_Em {α β:Type} [DecidableEq α] {ek:α→Value} {ev:β→Value} (hi:∀ a b,ek a=ek b→a=b) (k:α) (v:β):∀ xs:List (α × β),mset (ek k) (ev v) (Em ek ev xs)=Em ek ev (tset k v xs):=by
 intro xs
 induction xs with
 | nil=>rfl
 | cons p r ih =>
  obtain ⟨a,x⟩:=p;simp only [Em,List.map_cons,mset,tset]
  by_cases h:a=k
  ·subst h;simp
  rw [if_neg (fun h'=>h (hi _ _ h')),if_neg h];simp only [List.map_cons];have:mset (ek k) (ev v) (r.map fun p=>(ek p.1,ev p.2))=(tset k v r).map fun p=>(ek p.1,ev p.2):=ih;rw [this]
def vI (x:Int):Value:=.int .i64 x
def Mii (xs:List (Int × Int)):List (Value × Value):=Em vI vI xs
theorem vI_inj (a b:Int) (h:vI a=vI b):a=b:=by cases h;rfl
@[simp] theorem Mii_nil:Mii []=[]:=rfl
@[simp] theorem Mii_length (xs:List (Int × Int)):(Mii xs).length=xs.length:=by simp [Mii,Em]
@[simp] theorem find_Mii (k:Int) (xs:List (Int × Int)):(Q1E (.int .i64 k) (Mii xs)).getD (.int .i64 0) = .int .i64 ((QQ k xs).getD 0):=by
 have:=Q7m (ev:=vI) vI_inj k xs;show ((Q1E (vI k) (Em vI vI xs)).getD (vI 0))=_;rw [this];cases QQ k xs<;>rfl
@[simp] theorem some_Mii (k:Int) (xs:List (Int × Int)):(Q1E (.int .i64 k) (Mii xs)).isSome=(QQ k xs).isSome:=by
 have:=Q7m (ev:=vI) vI_inj k xs;show (Q1E (vI k) (Em vI vI xs)).isSome=_;rw [this];cases QQ k xs<;>rfl
@[simp] theorem set_Mii (k v:Int) (xs:List (Int × Int)):mset (.int .i64 k) (.int .i64 v) (Mii xs)=Mii (tset k v xs):=mset_Em (ev:=vI) vI_inj k v xs
@[simp] theorem set_Mii0 (k v:Int):mset (.int .i64 k) (.int .i64 v) []=Mii [(k,v)]:=rfl
structure RetF (keep:Bool) (ts:List Nat) (st:St) (rs:List AV):Prop where
 len:rs.length=ts.length
 pur:∀ k,k<ts.length→PurTo st.hp (st.get (ts.getD k 0)) (rs.getD k .bot)
 own:keep=false→∀ k,k<ts.length→(match st.get (ts.getD k 0) with|.val _=>True|.mp _=>True|_=>False)
def retFQ (keep:Bool) (ts:List Nat) (rs:List AV):Exit→St→Prop
 | .normal,st=>RetF keep ts st rs
 | .ret,st=>RetF keep ts st rs
 | _,_=>False
theorem Q5W {P:Program} [Kd P] (keep:Bool) {f:Nat} {fn:Func} {c:Code} {args:List AV} {ts:List Nat} {rs:List AV} {res:AV} (hf:P.funcs[f]? = some fn) (hb:fn.body=some c) (hrt:resT fn.results=some ts) (hrs:res=Q1l rs)
  (hname : (fn.name == "runtime.NumGoroutine") = false) (hN : args.length ≤ fn.ntmps) (h : ∀ F : Fx, F.N = fn.ntmps → F.pins = 0 → Wp P F c (retFQ keep ts rs) ⟨Q3v 0 args, [], 0⟩) : FContract P keep f args res := by
 subst hrs;refine ⟨⟨fn,hf,hname,by rw [hb];rfl⟩,fun w R vals hR hsz hx=>?_⟩;refine Q26 hf hb ?_
 let C:Ctx:=⟨w,fun _=>False,fun _=>none,0⟩
 have hrel:Rel C R fn.ntmps { tmps:=vals++Array.replicate (fn.ntmps - vals.size) undef,defers:=[] } w ⟨Q3v 0 args,[],0⟩:=by
  refine ⟨by simp;omega,rfl,(fun id x h=>by cases h),fun _=>none,noρ,⟨fun b hb=>⟨hR b hb,rfl⟩,(fun b L hb=>by cases hb),rfl,⟨rfl,Nat.le_refl _⟩,rfl,Nat.le_refl _,fun b _ _=>rfl⟩,⟨(fun id sz es bk _ hb=>by cases hb),(fun id sz es bk _ hb=>by cases hb),(fun id c i k sz bk _ hb=>by cases hb),(fun id kd es bk _ hb=>by cases hb)⟩,fun t=>?_,(fun id k hk=>by cases hk),(fun id hid=>by cases hid),Nat.le_refl _⟩;simp only [St.get,Q2A]
  by_cases ht:t<args.length
  ·rw [if_pos (by omega)];simp only [Nat.sub_zero,Option.getD_some];have:=hx t ht;have h2:(vals++Array.replicate (fn.ntmps - vals.size) undef).getD t undef=vals.getD t undef:=by
    simp [Array.getElem?_append,show t<vals.size by omega]
   rw [h2];exact this
  rw [if_neg (by omega)];exact .bot
 refine Q49 (fun e a w' hq=>?_) (h ⟨C,R,fn.ntmps,0,rfl⟩ rfl rfl _ w (.of hrel));obtain ⟨st,⟨R',hX,hr⟩,hq⟩:=hq;have fin:RetF keep ts st rs→a.defers=[]∧∃ v,(results fn a.tmps).run P w' = .ok v w'∧∃ v' R1,Ending.returned v = .returned v'∧Blw w.heap.size w w'∧(∀ b,R1 b→b<w'.heap.size∧((keep=true∧R b)∨w.heap.size≤b))∧XRel w' R1 noρ v' (Q1l rs):=by
  intro hA;obtain ⟨_,hdef,_,o,ρ,W,H,hxx,_⟩:=hr
  let R1:Nat→Prop:=if keep then RAll ⟨R',o,ρ⟩ else fun b=>∃ L,o b=some L
  have hown:∀ b L,o b=some L→b<w'.heap.size∧w.heap.size≤b:=fun b L hb=>by
   obtain ⟨q1,q2⟩:=W.o b L hb;exact ⟨q1,q2.resolve_right id⟩
  have hR1:∀ b,R1 b→b<w'.heap.size∧((keep=true∧R b)∨w.heap.size≤b):=fun b hb=>by
   cases keep with
   | true =>
    rcases (show RAll ⟨R',o,ρ⟩ b from hb) with hb|⟨L,hb⟩
    ·exact ⟨(W.R b hb).1,(hX.2 b hb).imp (fun h=>⟨rfl,h⟩) id⟩
    exact ⟨(hown b L hb).1,.inr (hown b L hb).2⟩
   | false =>
    obtain ⟨L,hb⟩:=hb;exact ⟨(hown b L hb).1,.inr (hown b L hb).2⟩
  have hcell:∀ k,k<ts.length→XRel w' R1 noρ (a.tmps.getD (ts.getD k 0) undef) (rs.getD k .bot):=by
   intro k hk;have h1:=hA.pur k hk;have h2:=hxx (ts.getD k 0);cases hkp:keep with
   | true=>subst hkp;exact (Q7s H h1 h2).1
   | false =>
    subst hkp;have h3:=hA.own rfl k hk;generalize st.get (ts.getD k 0)=av at h1 h2 h3;generalize rs.getD k .bot=rv at h1 ⊢;generalize a.tmps.getD (ts.getD k 0) undef=vv at h2 ⊢;cases av with
    | val v =>
     cases h1 with
     | val=>obtain ⟨rfl,hs⟩:=h2.val_eq;exact .r (.val hs)
     | nil=>obtain ⟨rfl,hs⟩:=h2.val_eq;exact .r (.nil (by decide))
    | mp id =>
     cases h1 with
     | mp he hk =>
      obtain ⟨b,rfl,hb⟩:=h2.mp_eq;obtain ⟨b',q1,q2,q3,q4⟩:=(H.map _ _ _ _ he hb).plain hk;simp only [Bk.mk.injEq,Option.some.injEq,and_true] at q1;subst q1;exact .r (.cmap ⟨_,q2⟩ q3 q4)
    | _=>exact h3.elim
  refine ⟨hdef,_,Q3n hrt _,_,R1,rfl,⟨W.os,W.tape,W.output,W.size,fun b hb=>W.keep b hb id⟩,hR1,?_⟩;have hl:=hA.len
  match ts,rs,hl,hcell with
  | [],[],_,_=>exact .tup rfl fun k hk=>by simp at hk
  | [t],[r],_,hcell=>exact hcell 0 (by simp)
  | t :: u :: ts,r :: s :: rs,hl,hcell =>
   simp only [List.map_cons,Q2w,Q1l];refine .tup (by simp at hl;simp;omega) fun k hk=>?_;have hk':k<(t :: u :: ts).length:=(by simp at hl hk;simp;omega);have:=hcell k hk';have h1:((a.tmps.getD t undef :: a.tmps.getD u undef :: ts.map fun t=>a.tmps.getD t undef).toArray).getD k undef=a.tmps.getD ((t :: u :: ts).getD k 0) undef:=by
    have e1:(a.tmps.getD t undef :: a.tmps.getD u undef :: ts.map fun t=>a.tmps.getD t undef)=(t :: u :: ts).map fun t=>a.tmps.getD t undef:=rfl;rw [e1];have hk2:k<(List.map (fun t=>a.tmps.getD t undef) (t :: u :: ts)).toArray.size:=(by simpa using hk');rw [Array.getD_eq_getD_getElem?,Array.getElem?_eq_getElem hk2,Option.getD_some];simp only [List.getElem_toArray,List.getElem_map];rw [List.getD_eq_getElem?_getD,List.getElem?_eq_getElem hk',Option.getD_some]
   rw [h1];exact this
 cases e with
 | normal=>exact fin hq
 | ret=>exact fin hq
 | _=>exact hq.elim
theorem RetF.nil {keep:Bool} {st:St}:RetF keep [] st []:=⟨rfl,fun k hk=>by simp at hk,fun _ k hk=>by simp at hk⟩
theorem RetF.cons {keep:Bool} {t:Nat} {ts:List Nat} {st:St} {r:AV} {rs:List AV} (hp:PurTo st.hp (st.get t) r) (ho:keep=false→(match st.get t with|.val _=>True|.mp _=>True|_=>False)) (h:RetF keep ts st rs):RetF keep (t :: ts) st (r :: rs):=by
 refine ⟨by simp [h.len],fun k hk=>?_,fun hkp k hk=>?_⟩
 ·cases k with
  | zero=>exact hp
  | succ k=>simpa using h.pur k (by simpa using hk)
 cases k with
 | zero=>exact ho hkp
 | succ k=>simpa using h.own hkp k (by simpa using hk)
end
section
attribute [local simp] Qc QC Qq
theorem wp_wk {P:Program} [Kd P] {F:Fx} {c:Code} {AQ:Exit→St→Prop} {st:St} (h:Wp P F c (fun e st=>∃ st',Wk F st st'∧AQ e st') st):Wp P F c AQ st:=by
 intro a w hr;refine Q6v (h a w hr) fun e a w he=>?_;obtain ⟨st1,h1,st2,h2,h3⟩:=he;exact ⟨st2,h2 a w h1,h3⟩
def iretWQ (F:Fx) (ts:List Nat) (H:List (Nat × Ent)) (n:Nat) (e:Eff):Exit→St→Prop
 | .normal,st=>∃ st',Wk F st st'∧IRet ts H n e st'
 | .ret,st=>∃ st',Wk F st st'∧IRet ts H n e st'
 | _,_=>False
theorem Q2I {P:Program} [Kd P] {f:Nat} {fn:Func} {c:Code} {az:List AV} {ts:List Nat} {H:List (Nat × Ent)} {n:Nat} {e:Eff} (hf:P.funcs[f]? = some fn) (hb:fn.body=some c) (hrt:resT fn.results=some ts)
  (hname : (fn.name == "runtime.NumGoroutine") = false) (hN : az.length ≤ fn.ntmps) (hH : ∀ p ∈ H, p.1 < n) (hfine : e.fine n) (hnew : ∀ id, n ≤ id → id < n + e.cnt → id ∈ e.new.map Prod.fst)
  (h:∀ F:Fx,F.N=fn.ntmps→F.pins=n→Wp P F c (iretWQ F ts H n e) ⟨Q3v 0 az,H,n⟩):ICon P f az (fun id=>look id H) n e:=by
 refine Qay hf hb hrt hname hN hH hfine hnew fun F h1 h2=>wp_wk (Wp.mono ?_ (h F h1 h2));intro ex st hq;cases ex with
 | normal=>exact hq
 | ret=>exact hq
 | _=>exact hq.elim
theorem iw_r {F:Fx} {ts:List Nat} {H:List (Nat × Ent)} {n:Nat} {e:Eff} {st st':St} (h:Wk F st st') (h2:IRet ts H n e st'):iretWQ F ts H n e .ret st:=⟨st',h,h2⟩
theorem iw_n {F:Fx} {ts:List Nat} {H:List (Nat × Ent)} {n:Nat} {e:Eff} {st st':St} (h:Wk F st st') (h2:IRet ts H n e st'):iretWQ F ts H n e .normal st:=⟨st',h,h2⟩
structure IRetG (P:Program) (rvs:List ResultVar) (H:List (Nat × Ent)) (n:Nat) (e:Eff) (st:St):Prop where
 res:∃ az,RGet P st rvs az∧Q1l az=e.v
 n:st.n=n+e.cnt
 h:st.h=Q5q e.set (Q4A e.del H)++e.new
def pinsB (n:Nat) (m:List (Nat × Nat)):Bool:=(List.range n).all fun i=>look i m == some i
theorem pins_ok {n:Nat} {m:List (Nat × Nat)} (h:pinsB n m=true):∀ id,id<n→look id m=some id:=by
 intro id hid;unfold pinsB at h;have:=List.all_eq_true.1 h id (List.mem_range.2 hid);simpa using this
theorem Wk.rP {F:Fx} {st st':St} (n:Nat) (m:List (Nat × Nat)) (hP:F.pins=n) (hpin:pinsB n m=true)
  (h:(m.map Prod.fst).Nodup∧(m.map Prod.snd).Nodup∧(∀ p∈m,p.2<st'.n)∧(∀ p∈st'.h,p.1<st'.n)∧(∀ p∈st'.s,p.2=rl m (st.get p.1)∨p.2 = .bot)∧∀ p∈st'.h,hhOk m st.h p.1 p.2):Wk F st st' :=
 Wk.rel m h.1 h.2.1 (by rw [hP];exact pins_ok hpin) h.2.2.1 h.2.2.2.1 h.2.2.2.2.1 h.2.2.2.2.2
theorem Qav {e:Eff} {n:Nat} (h:(∀ p∈e.new,n≤p.1∧p.1<n+e.cnt)∧(e.new.map Prod.fst).Nodup∧(∀ x∈e.del,x<n)∧(e.set.map Prod.fst).Nodup∧∀ p∈e.set,p.1<n):e.fine n:=⟨h.1,h.2.1,h.2.2.1,h.2.2.2⟩
def newB (n cnt:Nat) (l:List Nat):Bool:=(List.range cnt).all fun i=>l.contains (n+i)
theorem newI {e:Eff} {n:Nat} (h:newB n e.cnt (e.new.map Prod.fst)=true):∀ id,n≤id→id<n+e.cnt→id∈e.new.map Prod.fst:=by
 intro id h1 h2;unfold newB at h;have:=List.all_eq_true.1 h (id - n) (List.mem_range.2 (by omega));rw [show n+(id - n)=id by omega] at this;simpa using this
def ownB:AV→Bool
 | .val _=>true
 | .mp _=>true
 | _=>false
theorem RetF.one {t:Nat} {ts:List Nat} {st:St} {r:AV} {rs:List AV} (ho:ownB (st.get t)=true) (hp:PurTo st.hp (st.get t) r) (h:RetF false ts st rs):RetF false (t :: ts) st (r :: rs):=by
 refine .cons hp (fun _=>?_) h
 revert ho
 cases st.get t<;>simp [ownB]
end
section
attribute [local simp] Qc QC Qq
theorem Qaf {op:Op} {P:Program} [Kd P] {mt:MT} {fz:List Nat} {all:Array Oper} {t:TypeId} {ty:Tyi} {xv b:AV} {id i k sz:Nat} {es es2:List (List AV)} {ds:List Nat} {dst:Option Nat} {os:List Oper} {st:St} {K:St→Prop} (dels:List Nat) (h1:tyi P t=some ty) (h2:ty.sz=1)
  (he:look id st.h=some (.row sz es)) (hl:layC st.hp xv=some (b,ds)) (hi:i<es.length) (hk:k<sz) (hn:(id :: ds).Nodup) (hlt:∀ y∈ds++dels,y<st.n) (ha:∀ p∈st.h,Q7g p.2=true→p.1∈dels)
  (h2':es.set i ((es.getD i []).set k b)=es2)
  (h:runX P mt fz all os (st.app dst { v:=.bot,set:=[(id,.row sz es2)],del:=ds++dels }) K):stoZ P mt all op t (.adr id i k) xv dst os st K:=by
 subst h2';exact Qb6 dels h1 h2 ⟨he,hl,hi,hk,hn,hlt,fun id' _ _ _ _ _ h3=>.inl (ha (id',_) (Qs h3) rfl)⟩ h
theorem stoG_row {op:Op} {P:Program} [Kd P] {mt:MT} {fz:List Nat} {all:Array Oper} {t:TypeId} {ty:Tyi} {az bs:List AV} {id i sz:Nat} {es es2:List (List AV)} {ds:List Nat} {dst:Option Nat} {os:List Oper} {st:St} {K:St→Prop} (dels:List Nat) (h1:tyi P t=some ty) (h2:ty.sz=sz)
  (he:look id st.h=some (.row sz es)) (hl:layCs st.hp az=some (bs,ds)) (hi:i<es.length) (hk:az.length=sz) (hn:(id :: ds).Nodup) (hlt:∀ y∈ds++dels,y<st.n) (ha:∀ p∈st.h,Q7g p.2=true→p.1∈dels)
  (h2':es.set i bs=es2)
  (h:runX P mt fz all os (st.app dst { v:=.bot,set:=[(id,.row sz es2)],del:=ds++dels }) K):stoZ P mt all op t (.adr id i 0) (.agg az) dst os st K:=by
 subst h2';exact Q99 dels h1 h2 ⟨he,hl,hi,hk,hn,hlt,fun id' _ _ _ _ _ h3=>.inl (ha (id',_) (Qs h3) rfl)⟩ h
end
section
attribute [local simp] Qc QC Qq
def shm (n cnt:Nat):List (Nat × Nat):=(List.range cnt).map fun i=>(i,n+i)
theorem look_map {n:Nat}:∀ (l:List Nat) (i:Nat),look i (l.map fun i=>(i,n+i))=if i∈l then some (n+i) else none:=by
 intro l
 induction l with
 | nil=>intro i;simp [look]
 | cons a r ih =>
  intro i;simp only [List.map_cons,look,ih,List.mem_cons]
  by_cases h:a=i
  ·subst h;simp
  have:¬ i=a:=fun q=>h q.symm;simp [h,this]
theorem Q4P {n cnt i:Nat}:look i (shm n cnt)=if i<cnt then some (n+i) else none:=by
 unfold shm;rw [look_map];simp
theorem shm_fst (n cnt:Nat):((shm n cnt).map Prod.fst).Nodup:=by
 have:(shm n cnt).map Prod.fst=List.range cnt:=by simp [shm,Function.comp_def]
 rw [this];exact List.nodup_range
theorem shm_snd (n cnt:Nat):((shm n cnt).map Prod.snd).Nodup:=by
 have:(shm n cnt).map Prod.snd=(List.range cnt).map (n + ·):=by simp [shm,Function.comp_def]
 rw [this];exact List.Pairwise.map (R:=fun a b=>a ≠ b) _ (fun a b h e=>h (by omega)) List.nodup_range
theorem ro_rel {w:World} {R:Nat→Prop} {ρ ρ':Nat→Option Bk} {v:Value} {a:AV} (h:XRel w R ρ v a) (ha:AV.ro a=true):XRel w R ρ' v a:=by
 cases h with
 | r h=>exact .r h
 | _=>simp [AV.ro] at ha
def noAli:Ent→Bool
 | .ali _ _ _ _=>false
 | _=>true
theorem ICon.lift {P:Program} [Kd P] {f:Nat} {vs:List AV} {e e':Eff} {h:HP} {n:Nat} (hc:ICon P f vs (fun _=>none) 0 e) (hro:∀ a∈vs,AV.ro a=true) (hs:e.set=[]∧e.del=[]) (hs':e'.set=[]∧e'.del=[]) (hcnt:e'.cnt=e.cnt)
  (hv:e'.v=rl (shm n e.cnt) e.v) (hna:∀ p∈e.new,noAli p.2=true) (hnew:∀ i,i<e.cnt→∃ x y,look i e.new=some x∧rlE (shm n e.cnt) x=some y∧(n+i,y)∈e'.new) (hfine:e'.fine n):ICon P f vs h n e':=by
 refine ⟨hc.enters,fun _=>hfine,fun C w g h' vals hag hnw hlim W H hsz hargs=>?_⟩;have hf0:=hc.fine (fun id x hx=>by cases hx);have W0:WF ⟨w,fun _=>False,fun _=>none,0⟩ w ⟨g.R,fun _=>none,fun _=>none⟩:=⟨fun b hb=>⟨(W.R b hb).1,rfl⟩,(fun b L hb=>by cases hb),rfl,⟨rfl,Nat.le_refl _⟩,rfl,Nat.le_refl _,fun b _ _=>rfl⟩;have H0:HRel w ⟨g.R,fun _=>none,fun _=>none⟩ (fun id=>look id e.new):=⟨(fun id sz es bk _ hb=>by cases hb),(fun id sz es bk _ hb=>by cases hb),(fun id c i k sz bk _ hb=>by cases hb),(fun id kd es bk _ hb=>by cases hb)⟩;refine (hc.calls _ w _ _ vals (fun id hid=>absurd hid (Nat.not_lt_zero _)) (fun p hp=>Q17 hf0.nodup hp) (fun id k hk=>by cases hk) W0 H0 hsz (fun k hk=>ro_rel (hargs k hk) (hro _ (by
  rw [List.getD_eq_getElem?_getD,List.getElem?_eq_getElem hk];exact List.getElem_mem hk)))).mono fun ex w' ⟨v,R',o',ρ',q0,q1,q2,q3,q4,q5,q6,q7⟩=>?_
 rw [Q1x hs.1 hs.2] at q3;have ho':∀ b L,o' b=some L→w.heap.size≤b∧b<w'.heap.size:=fun b L hb=>⟨(q2.o b L hb).2.resolve_right id,(q2.o b L hb).1⟩;have hkeep:∀ b,b<w.heap.size→w'.heap[b]? = w.heap[b]?:=fun b hb=>q2.keep b hb id;have hgo:∀ b L,o' b=some L→g.o b=none:=by
  intro b L hb;cases hg:g.o b with
  | none=>rfl
  | some M=>have:=(W.o b M hg).1;have:=(ho' b L hb).1;omega
 have hm2:=shm_snd n e.cnt;have hrρ:∀ j bk,rlρ (shm n e.cnt) ρ' j=some bk→∃ i,i<e.cnt∧j=n+i∧look i (shm n e.cnt)=some j∧ρ' i=some bk:=by
  intro j bk hj;simp only [rlρ] at hj;split at hj
  ·rename_i i hi;have hl:=Q76 (shm_fst n e.cnt) hi;have hl2:=hl;rw [Q4P] at hl2;split at hl2
   ·rename_i hlt;simp only [Option.some.injEq] at hl2;exact ⟨i,hlt,hl2.symm,hl,hj⟩
   cases hl2
  cases hj
 have hgρ:∀ j bk,rlρ (shm n e.cnt) ρ' j=some bk→g.ρ j=none:=by
  intro j bk hj;obtain ⟨i,hi,rfl,_⟩:=hrρ j bk hj;cases hg:g.ρ (n+i) with
  | none=>rfl
  | some k=>have:=hlim _ _ hg;omega
 let o2:Nat→Option (List Nat):=fun b=>match g.o b with|some L=>some L|none=>rlo (shm n e.cnt) o' b
 let ρ2:Nat→Option Bk:=fun id=>match g.ρ id with|some k=>some k|none=>rlρ (shm n e.cnt) ρ' id
 have ho2:∀ b L,g.o b=some L→o2 b=some L:=fun b L hb=>by simp only [o2,hb]
 have ho3:∀ b i M,i<e.cnt→o' b=some (i :: M)→o2 b=some ((n+i) :: M):=by
  intro b i M hi hb;simp only [o2,hgo b _ hb,rlo,hb,Q4P,if_pos hi]
 have hρ2:∀ id k,g.ρ id=some k→ρ2 id=some k:=fun id k hk=>by simp only [ρ2,hk]
 have hρ3:∀ id k,rlρ (shm n e.cnt) ρ' id=some k→ρ2 id=some k:=fun id k hk=>by simp only [ρ2,hgρ id k hk,hk]
 have hX:∀ v a,XRel w' R' ρ' v a→XRel w' R' ρ2 v (rl (shm n e.cnt) a):=fun v a hx=>(rl_rel hm2 hx).mono (fun b hb=>⟨hb,rfl⟩) hρ3;have hent:∀ id x bk,h' id=some x→g.ρ id=none→ρ2 id=some bk→∃ i y,i<e.cnt∧id=n+i∧ρ' i=some bk∧look i e.new=some y∧rlE (shm n e.cnt) y=some x∧noAli y=true:=by
  intro id x bk hx hg hb;simp only [ρ2,hg] at hb;obtain ⟨i,hi,rfl,_,hr⟩:=hrρ id bk hb;obtain ⟨y,z,h1,h2,h3⟩:=hnew i hi;have:=hnw _ h3;simp only at this;rw [this] at hx;cases hx;exact ⟨i,y,hi,rfl,hr,h1,h2,hna _ (Qs h1)⟩
 have H1:HRel w' ⟨g.R,o2,g.ρ⟩ h':=H.mono (fun b hb=>hkeep b (W.R b hb).1) (fun b L hb=>⟨ho2 b L hb,hkeep b (W.o b L hb).1⟩) (fun _ _ hk=>hk) (fun id sz es bk _ h1 h2=>by rw [h1] at h2;cases h2) (fun id sz es bk _ h1 h2=>by rw [h1] at h2;cases h2)
  (fun id c i k sz bk _ h1 h2=>by rw [h1] at h2;cases h2)
 have H2:HRel w' ⟨R',o2,g.ρ⟩ h':=H1.growR q1.1;have H3:HRel w' ⟨R',o2,ρ2⟩ h':=by
  refine H2.mono (fun _ _=>rfl) (fun b L hb=>⟨hb,rfl⟩) hρ2 (fun id sz es bk he hg hb=>?_) (fun id sz es bk he hg hb=>?_) (fun id c i k sz bk he hg hb=>?_) (fun id kd es bk he hg hb=>?_)
  ·obtain ⟨i,y,hi,rfl,hr,h1,h2,h3⟩:=hent id _ bk he hg hb;cases y with
   | mix s2 e2 =>
    simp only [rlE,Option.some.injEq,Ent.mix.injEq] at h2;obtain ⟨rfl,rfl⟩:=h2;rcases (q3.mix i _ _ bk h1 hr).ex0 with ⟨rfl,h0⟩|⟨b,cur,el,us,cpm,p1,p2,p3,p4,p5,p5',p6,p7,p8,p9⟩
    ·exact ⟨.inl ⟨rfl,h0⟩⟩
    refine .mk' ⟨b,cur,el,us,cpm,p1,ho3 b i [] hi p2,p3,p4,by rw [Q1e];exact p5,p5',fun j hj=>?_,fun j l hj hl=>?_,fun j l hj hl=>?_,fun j l hj hl=>?_⟩
    ·rw [Q1e] at hj;rw [Q4L,QE];exact p6 j hj
    ·rw [Q1e] at hj;exact p7 j l hj hl
    ·rw [Q1e] at hj;exact p8 j l hj hl
    rw [Q1e] at hj;rw [Q4L,Q2i];exact hX _ _ (p9 j l hj hl)
   | row=>simp [rlE] at h2
   | mapE=>simp [rlE] at h2
   | ali=>cases h3
  ·obtain ⟨i,y,hi,rfl,hr,h1,h2,h3⟩:=hent id _ bk he hg hb;cases y with
   | mix=>simp [rlE] at h2
   | row s2 e2 =>
    simp only [rlE,Option.some.injEq,Ent.row.injEq] at h2;obtain ⟨rfl,rfl⟩:=h2;obtain ⟨v,hv,hh2⟩:=q3.row i _ _ bk h1 hr;exact ⟨v,hv.mono (R':=R') [n+i] fun b M hbo=>⟨ho3 b i M hi hbo,rfl⟩,hh2⟩
   | mapE=>simp [rlE] at h2
   | ali=>cases h3
  ·obtain ⟨i0,y,hi,rfl,hr,h1,h2,h3⟩:=hent id _ bk he hg hb;cases y with
   | mix=>simp [rlE] at h2
   | row=>simp [rlE] at h2
   | mapE=>simp [rlE] at h2
   | ali=>cases h3
  obtain ⟨i,y,hi,rfl,hr,h1,h2,h3⟩:=hent id _ bk he hg hb;cases y with
  | mix=>simp [rlE] at h2
  | row=>simp [rlE] at h2
  | mapE kd2 e2 =>
   simp only [rlE,Option.some.injEq,Ent.mapE.injEq] at h2;obtain ⟨rfl,rfl⟩:=h2;exact (q3.map i _ _ bk h1 hr).move (fun b hb=>⟨hb,rfl⟩) fun b M p2=>⟨ho3 b i M hi p2,rfl⟩
  | ali=>cases h3
 refine ⟨v,R',o2,ρ2,q0,⟨q1.1,fun b hb=>(q1.2 b hb).imp id (Nat.le_trans W.size)⟩,⟨fun b hb=>⟨(q2.R b hb).1,?_⟩,fun b L hb=>?_,q2.os.trans W.os,tpt q2.tape W.tape,q2.output.trans W.output,Nat.le_trans W.size q2.size,fun b hb hw=>(hkeep b (Nat.lt_of_lt_of_le hb W.size)).trans (W.keep b hb hw)⟩,by rw [Q1x hs'.1 hs'.2];exact H3,hρ2,fun id k hk=>?_,by rw [hv];exact hX _ _ q6,q7⟩
 ·have h1:o' b=none:=(q2.R b hb).2;show o2 b=none;rcases q1.2 b hb with hg|hg
  ·simp only [o2,show g.o b=none from (W.R b hg).2,rlo,h1]
  have hg':g.o b=none:=by
   cases hq:g.o b with
   | none=>rfl
   | some M=>have:=(W.o b M hq).1;simp only at hg;omega
  simp only [o2,hg',rlo,h1]
 ·have hb':o2 b=some L:=hb;cases hq:g.o b with
  | some M=>exact ⟨Nat.lt_of_lt_of_le (W.o b M hq).1 q2.size,(W.o b M hq).2⟩
  | none =>
   simp only [o2,hq,rlo] at hb';split at hb'
   ·rename_i x M hx;exact ⟨(ho' b _ hx).2,.inl (Nat.le_trans W.size (ho' b _ hx).1)⟩
   cases hb'
 have hk':ρ2 id=some k:=hk;cases hg:g.ρ id with
 | some k2=>simp only [ρ2,hg] at hk';exact .inl hk'
 | none =>
  simp only [ρ2,hg] at hk';obtain ⟨i,hi,rfl,_⟩:=hrρ id k hk';exact .inr ⟨by omega,by omega⟩
def rlE' (m:List (Nat × Nat)) (x:Ent):Ent:=(rlE m x).getD x
@[simp] theorem rlE'_mix {m:List (Nat × Nat)} {sz:Nat} {es:List (List AV)}:rlE' m (.mix sz es) = .mix sz (rlLL m es):=rfl
@[simp] theorem rlE'_row {m:List (Nat × Nat)} {sz:Nat} {es:List (List AV)}:rlE' m (.row sz es) = .row sz es:=rfl
@[simp] theorem rlE'_map {m:List (Nat × Nat)} {kd:MK} {es:List (Value × Value)}:rlE' m (.mapE kd es) = .mapE kd es:=rfl
theorem ICon.liftL {P:Program} [Kd P] {f:Nat} {vs:List AV} {e e':Eff} {h:HP} {n:Nat} (hc:ICon P f vs (fun _=>none) 0 e) (hro:∀ a∈vs,AV.ro a=true) (hs:e.set=[]∧e.del=[]) (hs':e'.set=[]∧e'.del=[]) (hcnt:e'.cnt=e.cnt)
  (hv:e'.v=rl (shm n e.cnt) e.v) (hna:∀ p∈e.new,noAli p.2=true) (hcomp:newB 0 e.cnt (e.new.map Prod.fst)=true) (hn:e'.new=e.new.map fun p=>(n+p.1,rlE' (shm n e.cnt) p.2)) (hfine:e'.fine n):ICon P f vs h n e':=by
 refine hc.lift hro hs hs' hcnt hv hna (fun i hi=>?_) hfine;have hm:=newI (n:=0) (e:=e) hcomp i (Nat.zero_le _) (by omega);obtain ⟨p,hp,rfl⟩:=List.mem_map.1 hm;have hf0:=hc.fine (fun id x hx=>by cases hx);refine ⟨p.2,rlE' (shm n e.cnt) p.2,Q17 hf0.nodup hp,?_,by rw [hn];exact List.mem_map.2 ⟨p,hp,rfl⟩⟩;have:=hna p hp;generalize p.2=x at this;cases x with
 | ali=>cases this
 | _=>rfl
end
section
attribute [local simp] Qc QC Qq
theorem Contract.toF {P:Program} [Kd P] {f:Nat} {args az:List AV} (hc:Contract P f args (.agg az)):FContract P false f args (.agg az):=by
 refine ⟨hc.enters,fun w R vals hR hsz hx=>?_⟩;refine (hc.calls w R vals hR hsz hx).mono fun e w' ⟨v,o,he,hb,ho,hres⟩=>?_;refine ⟨v,fun b=>∃ L,o b=some L,he,hb,fun b ⟨L,hL⟩=>⟨(ho b L hL).2,.inr (ho b L hL).1⟩,?_⟩;obtain ⟨cs,rfl,hl⟩:∃ cs:Array Value,v = .agg cs∧cs.size=az.length:=hres.sh;have hk:∀ k,k<az.length→TRel w' (fun _=>False) o [k] (cs.getD k undef) (az.getD k .bot):=by
  intro k hk;have h:=hres.cell k (by simpa [flat,AV.cells] using hk);have e1:(Q28 (.agg cs)).getD k undef=cs.getD k undef:=by
   simp [Q28,Value.cells,List.getD_eq_getElem?_getD]
  have e2:(flat (.agg az)).getD k .bot=az.getD k .bot:=rfl;rw [e1,e2] at h;exact h
 exact .agg hl (fun k h=>(hk k h).one) fun k h=>.r ((hk k h).pure fun b hb=>hb.resolve_left id)
theorem Wk.frz {F:Fx} {st st':St} (hW:∀ b,¬ F.C.wrb b) (fz:List (Nat × List AV)) (m:List (Nat × Nat)) (hz:∀ q∈fz,look q.1 m=none∧look q.1 st.h=some (.mix q.2.length [q.2])∧∀ c∈q.2,c.ro=true)
  (h:(m.map Prod.fst).Nodup∧(m.map Prod.snd).Nodup∧(∀ id,id<F.pins→look id m=some id)∧(∀ p∈m,p.2<st'.n)∧(∀ p∈st'.h,p.1<st'.n)∧(∀ p∈st'.s,p.2=rl m (st.get p.1)∨p.2 = .bot∨∃ q∈fz,st.get p.1 = .adr q.1 0 0∧p.2 = .rptr q.2)∧∀ p∈st'.h,hhOk m st.h p.1 p.2):Wk F st st':=by
 obtain ⟨h1,h2,hpin,hn,hok,hs,hh⟩:=h;refine Wk.relabelZ fz (.inr hW) m (fun q hq=>⟨(hz q hq).1,(hz q hq).2.1,fun c hc {_ _ _ _} hx=>hx.toR ((hz q hq).2.2 c hc)⟩) h1 h2 (Qa3 h1 h2 hpin hn).1 (Qa3 h1 h2 hpin hn).2 hn hok hs fun p hp=>?_;have:=hh p hp;unfold hhOk at this;obtain ⟨e,he,hr⟩:=Option.bind_eq_some_iff.1 this;obtain ⟨i,hi,hl⟩:=Option.bind_eq_some_iff.1 he;exact ⟨i,e,Q76 h1 hi,hl,hr⟩
end
section
attribute [local simp] Qc QC Qq
inductive PreL:List AV→List AV→Prop
 | nil:PreL [] []
 | eq {a az bs}:PreL az bs→PreL (a :: az) (a :: bs)
 | pre {xs cs az bs}:xs.take cs.length=cs→PreL az bs→PreL (.rptr xs :: az) (.rptr cs :: bs)
 | nl {id u sz az bs}:PreL az bs→PreL (.own id 0 0 :: az) (.lst u sz [] :: bs)
theorem PreL.at {az bs:List AV} (h:PreL az bs):az.length=bs.length∧∀ k,k<az.length→∀ {w:World} {R:Nat→Prop} {ρ:Nat→Option Bk} {v:Value},XRel w R ρ v (az.getD k .bot)→XRel w R ρ v (bs.getD k .bot):=by
 induction h with
 | nil=>exact ⟨rfl,fun k hk=>by simp at hk⟩
 | eq _ ih =>
  refine ⟨by simp [ih.1],fun k hk=>?_⟩;cases k with
  | zero=>intro w R ρ v hx;exact hx
  | succ k=>intro w R ρ v hx;exact ih.2 k (by simpa using hk) hx
 | @pre xs cs az bs e _ ih =>
  refine ⟨by simp [ih.1],fun k hk=>?_⟩;cases k with
  | succ k=>intro w R ρ v hx;exact ih.2 k (by simpa using hk) hx
  | zero =>
   intro w R ρ v hx;have hx':XRel w R ρ v (.rptr xs):=hx;obtain ⟨b,x,cur,el,fr,us,h1,h2,h3,h4,h5,h6⟩:=hx'.rptr_eq;have hl:cs.length≤xs.length:=by
    have:=congrArg List.length e;simp at this;omega
   subst h1;show XRel w R ρ _ (.rptr cs);refine .r (.rptr us h2 h3 (fun k hk=>h4 k (by omega)) (fun k hk=>h5 k (by omega)) fun k hk=>?_);have:=h6 k (by omega);have e2:cs.getD k .bot=xs.getD k .bot:=by
    rw [← e];simp [List.getD_eq_getElem?_getD,hk]
   rw [e2];exact this
 | @nl id u sz az bs _ ih =>
  refine ⟨by simp [ih.1],fun k hk=>?_⟩;cases k with
  | succ k=>intro w R ρ v hx;exact ih.2 k (by simpa using hk) hx
  | zero =>
   intro w R ρ v hx;have hx':XRel w R ρ v (.own id 0 0):=hx;show XRel w R ρ _ (.lst u sz []);rcases hx'.own_eq with ⟨_,_,_,e2,_,_⟩|⟨b,_,cap,cc,x,_,e2,e3,_,_,_,e7⟩
   ·rw [e2];exact .r (.nil (by simp))
   rw [e2];exact .r (.nil (by omega))
end
section
attribute [local simp] Qc QC Qq
structure RetFG (P:Program) (rvs:List ResultVar) (st:St) (rs:List AV):Prop where
 ex:∃ az,RGet P st rvs az∧PurL st.hp az rs
theorem RetFG.mk' {P:Program} [Kd P] {rvs:List ResultVar} {st:St} {az rs:List AV} (hg:RGet P st rvs az) (hp:PurL st.hp az rs):RetFG P rvs st rs:=⟨_,hg,hp⟩
def pko (p i k j:Nat) (o:Nat→Option (List Nat)):Nat→Option (List Nat):=fun b=>match o b with
 | some (x :: M)=>if x=p then (match M with
  | i' :: k' :: M'=>if i'=i∧k'=k then some (j :: M') else none
  | _=>none) else some (x :: M)
 | _=>none
theorem Q69 {p i k j:Nat} {o:Nat→Option (List Nat)} {b x:Nat} {M:List Nat} (h:o b=some (x :: M)) (hx:x ≠ p):pko p i k j o b=some (x :: M):=by
 simp only [pko,h,if_neg hx]
theorem pko_cell {p i k j:Nat} {o:Nat→Option (List Nat)} {b:Nat} {M:List Nat} (h:o b=some (p :: i :: k :: M)):pko p i k j o b=some (j :: M):=by
 simp [pko,h]
theorem pko_some {p i k j:Nat} {o:Nat→Option (List Nat)} {b:Nat} {L:List Nat} (h:pko p i k j o b=some L):∃ L',o b=some L':=by
 unfold pko at h;split at h
 ·rename_i hb;exact ⟨_,hb⟩
 cases h
theorem Wk.pick {F:Fx} {st st':St} {p j i k sz sz2:Nat} {es es2:List (List AV)} (hp:look p st.h=some (.row sz es)) (hj:look j st.h=some (.ali p i k sz2)) (hi:i<es.length) (hk:k<sz) (hc:(es.getD i []).getD k .bot = .lst true sz2 es2)
  (hs:∀ q∈st'.s,st.get q.1=q.2∨q.2 = .bot) (hn:st'.n=st.n) (hh:∀ q∈st'.h,q=(j,.row sz2 es2)∨(q.1 ≠ p∧look q.1 st.h=some q.2∧(match q.2 with|.ali _ _ _ _=>False|_=>True))):Wk F st st':=by
 intro a w ⟨R,hX,hr⟩;obtain ⟨r1,r2,r3,o,ρ,W,H,hx,hρ,hpn⟩:=hr;have hent:∀ id e,st'.hp id=some e→(id=j∧e = .row sz2 es2)∨(id ≠ p∧st.hp id=some e∧(match e with|.ali _ _ _ _=>False|_=>True)):=fun id e h=>by
  rcases hh (id,e) (Qs h) with q|q
  ·simp only [Prod.mk.injEq] at q;exact .inl q
  exact .inr q
 refine ⟨R,hX,r1,r2,fun id x hx'=>?_,pko p i k j o,ρ,⟨fun b hb=>⟨(W.R b hb).1,?_⟩,fun b L hb=>?_,W.os,W.tape,W.output,W.size,W.keep⟩,⟨fun id z xs bk h1 h2=>?_,fun id z xs bk h1 h2=>?_,fun id c i' k' z bk h1 h2=>?_,fun id kd xs bk h1 h2=>?_⟩,fun t=>?_,fun id kk hk'=>?_,fun id hid=>hpn.1 id hid,by rw [hn];exact hpn.2⟩
 ·rw [hn];rcases hent id x hx' with ⟨rfl,_⟩|⟨_,q,_⟩
  ·exact r3 _ _ hj
  exact r3 _ _ q
 ·have h3:o b=none:=(W.R b hb).2;simp only [pko,h3]
 ·obtain ⟨L',h3⟩:=pko_some hb;exact W.o b L' h3
 ·rcases hent id _ h1 with ⟨_,q⟩|⟨q1,q2,_⟩
  ·cases q
  rcases (H.mix id z xs bk q2 h2).ex0 with h0|⟨b,cur,el,us,cp,p1,p2,p3⟩
  ·exact ⟨.inl h0⟩
  exact .mk' ⟨b,cur,el,us,cp,p1,Q69 p2 q1,p3⟩
 ·rcases hent id _ h1 with ⟨rfl,q⟩|⟨q1,q2,_⟩
  ·simp only [Ent.row.injEq] at q;obtain ⟨rfl,rfl⟩:=q;obtain ⟨e1,bkc,e2,e3⟩:=H.ali id p i k z bk hj h2;obtain ⟨bc,cur,el,v,c1,c2,c3,c4⟩:=e3 1 sz es (by simp only [cont];rw [show st.hp p=some (.row sz es) from hp]) (by rw [show st.hp p=some (.row sz es) from hp];rfl) hi hk;obtain ⟨vp,t1,t2⟩:=H.row p sz es bkc hp e2;generalize hL:([p]:List Nat)=L at t1;cases t1 with
   | nil=>simp at hi
   | @own _ _ _ b cap cur' el' us u1 u2 u3 u4 u5 u6 u7 u8 u9 =>
    subst hL;cases t2;simp only [Option.some.injEq] at c1;subst c1;rw [u2] at c2;simp only [Option.some.injEq,Obj.cells.injEq] at c2;obtain ⟨rfl,_,_⟩:=c2;have hv:us i k=v:=by
     have:=u7 i k hi hk;rw [c3] at this;exact (Option.some.inj this).symm
    have T:=u9 i k hi hk;rw [hc,hv] at T;refine ⟨v,T.mono [id] fun b' M hb'=>⟨?_,rfl⟩,?_⟩
    ·have:o b'=some (p :: i :: k :: M):=(by simpa using hb');simpa using pko_cell (j:=id) this
    rcases c4 with c4|c4
    ·exact c4
    exact (T.scn_lst c4).elim
  obtain ⟨v,t1,t2⟩:=H.row id z xs bk q2 h2;exact ⟨v,t1.same fun b M hb=>⟨by
   have h3:o b=some (id :: M):=(by simpa using hb);simpa using Q69 h3 q1,rfl⟩,t2⟩
 ·rcases hent id _ h1 with ⟨_,q⟩|⟨_,_,q⟩
  ·cases q
  exact q.elim
 ·rcases hent id _ h1 with ⟨_,q⟩|⟨q1,q2,_⟩
  ·cases q
  exact (H.map id kd xs bk q2 h2).move (fun b hb=>⟨hb,rfl⟩) fun b M p2=>⟨Q69 p2 q1,rfl⟩
 ·cases hl:look t st'.s with
  | none=>simp only [St.get,hl,Option.getD_none];exact .bot
  | some v =>
   simp only [St.get,hl,Option.getD_some];rcases hs _ (Qs hl) with h|h
   ·simp only at h;rw [← h];exact hx t
   simp only at h;rw [h];exact .bot
 rw [hn];exact hρ id kk hk'
end
section
attribute [local simp] Qc QC Qq
def pkt (p i k j:Nat) (o:Nat→Option (List Nat)):Nat→Option (List Nat):=fun b=>match o b with
 | some (x :: M)=>if x=p then (match M with
  | []=>some [p]
  | i' :: k' :: M'=>if i'=i∧k'=k then some (j :: M') else none
  | _=>none) else some (x :: M)
 | _=>none
theorem Q6a {p i k j:Nat} {o:Nat→Option (List Nat)} {b x:Nat} {M:List Nat} (h:o b=some (x :: M)) (hx:x ≠ p):pkt p i k j o b=some (x :: M):=by
 simp only [pkt,h,if_neg hx]
theorem pkt_cell {p i k j:Nat} {o:Nat→Option (List Nat)} {b:Nat} {M:List Nat} (h:o b=some (p :: i :: k :: M)):pkt p i k j o b=some (j :: M):=by
 simp [pkt,h]
theorem pkt_root {p i k j:Nat} {o:Nat→Option (List Nat)} {b:Nat} (h:o b=some [p]):pkt p i k j o b=some [p]:=by
 simp [pkt,h]
theorem pkt_some {p i k j:Nat} {o:Nat→Option (List Nat)} {b:Nat} {L:List Nat} (h:pkt p i k j o b=some L):∃ L',o b=some L':=by
 unfold pkt at h;split at h
 ·rename_i hb;exact ⟨_,hb⟩
 cases h
theorem Wk.take {F:Fx} {st st':St} {p j i k sz sz2:Nat} {es es2 es':List (List AV)} (hp:look p st.h=some (.row sz es)) (hj:look j st.h=some (.ali p i k sz2)) (hpj:p ≠ j) (hi:i<es.length) (hk:k<sz) (hc:(es.getD i []).getD k .bot = .lst true sz2 es2)
  (hl:es'.length=es.length) (hz:∀ i,i<es.length→(es'.getD i []).length=sz) (hb:∀ i k,(es'.getD i []).getD k .bot = .bot)
  (hs:∀ q∈st'.s,st.get q.1=q.2∨q.2 = .bot) (hn:st'.n=st.n) (hh:∀ q∈st'.h,q=(j,.row sz2 es2)∨q=(p,.mix sz es')∨(q.1 ≠ p∧look q.1 st.h=some q.2∧(match q.2 with|.ali _ _ _ _=>False|_=>True))):Wk F st st':=by
 intro a w ⟨R,hX,hr⟩;obtain ⟨r1,r2,r3,o,ρ,W,H,hx,hρ,hpn⟩:=hr;have hent:∀ id e,st'.hp id=some e→(id=j∧e = .row sz2 es2)∨(id=p∧e = .mix sz es')∨(id ≠ p∧st.hp id=some e∧(match e with|.ali _ _ _ _=>False|_=>True)):=fun id e h=>by
  rcases hh (id,e) (Qs h) with q|q|q
  ·simp only [Prod.mk.injEq] at q;exact .inl q
  ·simp only [Prod.mk.injEq] at q;exact .inr (.inl q)
  exact .inr (.inr q)
 refine ⟨R,hX,r1,r2,fun id x hx'=>?_,pkt p i k j o,ρ,⟨fun b hb=>⟨(W.R b hb).1,?_⟩,fun b L hb=>?_,W.os,W.tape,W.output,W.size,W.keep⟩,⟨fun id z xs bk h1 h2=>?_,fun id z xs bk h1 h2=>?_,fun id c i' k' z bk h1 h2=>?_,fun id kd xs bk h1 h2=>?_⟩,fun t=>?_,fun id kk hk'=>?_,fun id hid=>hpn.1 id hid,by rw [hn];exact hpn.2⟩
 ·rw [hn];rcases hent id x hx' with ⟨rfl,_⟩|⟨rfl,_⟩|⟨_,q,_⟩
  ·exact r3 _ _ hj
  ·exact r3 _ _ hp
  exact r3 _ _ q
 ·have h3:o b=none:=(W.R b hb).2;simp only [pkt,h3]
 ·obtain ⟨L',h3⟩:=pkt_some hb;exact W.o b L' h3
 ·rcases hent id _ h1 with ⟨_,q⟩|⟨rfl,q⟩|⟨q1,q2,_⟩
  ·cases q
  ·simp only [Ent.mix.injEq] at q;obtain ⟨rfl,rfl⟩:=q;obtain ⟨vp,t1,t2⟩:=H.row id z es bk hp h2;generalize hL:([id]:List Nat)=L at t1;cases t1 with
   | nil=>simp at hi
   | @own _ _ _ b cap cur' el' us u1 u2 u3 u4 u5 u6 u7 u8 u9 =>
    subst hL;cases t2;exact .mk' ⟨b,cur',el',us,cap,rfl,pkt_root u1,u2,u3,by omega,u5,fun i hi=>hz i (by omega),fun i k hi hk=>u7 i k (by omega) hk,fun i k hi hk=>u8 i k (by omega) hk,fun i k hi hk=>by rw [hb i k];exact .bot⟩
  rcases (H.mix id z xs bk q2 h2).ex0 with h0|⟨b,cur,el,us,cp,p1,p2,p3⟩
  ·exact ⟨.inl h0⟩
  exact .mk' ⟨b,cur,el,us,cp,p1,Q6a p2 q1,p3⟩
 ·rcases hent id _ h1 with ⟨rfl,q⟩|⟨_,q⟩|⟨q1,q2,_⟩
  ·simp only [Ent.row.injEq] at q;obtain ⟨rfl,rfl⟩:=q;obtain ⟨e1,bkc,e2,e3⟩:=H.ali id p i k z bk hj h2;obtain ⟨bc,cur,el,v,c1,c2,c3,c4⟩:=e3 1 sz es (by simp only [cont];rw [show st.hp p=some (.row sz es) from hp]) (by rw [show st.hp p=some (.row sz es) from hp];rfl) hi hk;obtain ⟨vp,t1,t2⟩:=H.row p sz es bkc hp e2;generalize hL:([p]:List Nat)=L at t1;cases t1 with
   | nil=>simp at hi
   | @own _ _ _ b cap cur' el' us u1 u2 u3 u4 u5 u6 u7 u8 u9 =>
    subst hL;cases t2;simp only [Option.some.injEq] at c1;subst c1;rw [u2] at c2;simp only [Option.some.injEq,Obj.cells.injEq] at c2;obtain ⟨rfl,_,_⟩:=c2;have hv:us i k=v:=by
     have:=u7 i k hi hk;rw [c3] at this;exact (Option.some.inj this).symm
    have T:=u9 i k hi hk;rw [hc,hv] at T;refine ⟨v,T.mono [id] fun b' M hb'=>⟨?_,rfl⟩,?_⟩
    ·have:o b'=some (p :: i :: k :: M):=(by simpa using hb');simpa using pkt_cell (j:=id) this
    rcases c4 with c4|c4
    ·exact c4
    exact (T.scn_lst c4).elim
  ·cases q
  obtain ⟨v,t1,t2⟩:=H.row id z xs bk q2 h2;exact ⟨v,t1.same fun b M hb=>⟨by
   have h3:o b=some (id :: M):=(by simpa using hb);simpa using Q6a h3 q1,rfl⟩,t2⟩
 ·rcases hent id _ h1 with ⟨_,q⟩|⟨_,q⟩|⟨_,_,q⟩
  ·cases q
  ·cases q
  exact q.elim
 ·rcases hent id _ h1 with ⟨_,q⟩|⟨_,q⟩|⟨q1,q2,_⟩
  ·cases q
  ·cases q
  exact (H.map id kd xs bk q2 h2).move (fun b hb=>⟨hb,rfl⟩) fun b M p2=>⟨Q6a p2 q1,rfl⟩
 ·cases hl:look t st'.s with
  | none=>simp only [St.get,hl,Option.getD_none];exact .bot
  | some v =>
   simp only [St.get,hl,Option.getD_some];rcases hs _ (Qs hl) with h|h
   ·simp only at h;rw [← h];exact hx t
   simp only at h;rw [h];exact .bot
 rw [hn];exact hρ id kk hk'
end
section
attribute [local simp] Qc QC Qq
theorem WF.labels {C:Ctx} {w:World} {g:Gh} (W:WF C w g) {o':Nat→Option (List Nat)} {ρ':Nat→Option Bk} (h0:∀ b,g.o b=none→o' b=none) (h1:∀ b L,o' b=some L→∃ L',g.o b=some L'):WF C w ⟨g.R,o',ρ'⟩ :=
 ⟨fun b hb=>⟨(W.R b hb).1,h0 b (W.R b hb).2⟩,fun b L hb=>by obtain ⟨L',h2⟩:=h1 b L hb;exact W.o b L' h2,W.os,W.tape,W.output,W.size,W.keep⟩
def Q3D (es:List (List AV)) (i k:Nat):List (List AV):=es.set i ((es.getD i []).set k .bot)
theorem Q1k (es:List (List AV)) (i k:Nat):(Q3D es i k).length=es.length:=by simp [Q3D]
theorem holed_row (es:List (List AV)) (i k j:Nat):((Q3D es i k).getD j []).length=(es.getD j []).length:=by
 unfold Q3D
 by_cases h:i=j
 ·subst h
  by_cases hi:i<es.length
  ·simp [List.getD_eq_getElem?_getD,hi]
  simp [List.getD_eq_getElem?_getD,hi]
 simp [List.getD_eq_getElem?_getD,h]
theorem Q6O (es:List (List AV)) {i k i' k':Nat} (h:(i',k') ≠ (i,k)):((Q3D es i k).getD i' []).getD k' .bot=(es.getD i' []).getD k' .bot:=by
 unfold Q3D
 by_cases e:i=i'
 ·subst e;have hk:k ≠ k':=fun q=>h (by rw [q])
  by_cases hi:i<es.length
  ·simp [List.getD_eq_getElem?_getD,hi,hk]
  simp [List.getD_eq_getElem?_getD,hi]
 simp [List.getD_eq_getElem?_getD,e]
theorem Q7V (es:List (List AV)) (i k:Nat):((Q3D es i k).getD i []).getD k .bot = .bot:=by
 unfold Q3D
 by_cases hi:i<es.length
 ·by_cases hk:k<(es.getD i []).length
  ·simp only [List.getD_eq_getElem?_getD,List.getElem?_eq_getElem hi,Option.getD_some] at hk;simp [List.getD_eq_getElem?_getD,hi,hk]
  simp only [List.getD_eq_getElem?_getD,List.getElem?_eq_getElem hi,Option.getD_some] at hk;simp [List.getD_eq_getElem?_getD,hi,hk]
 simp [List.getD_eq_getElem?_getD,hi]
def tkl (p i k j:Nat) (o:Nat→Option (List Nat)):Nat→Option (List Nat):=fun b=>match o b with
 | some (x :: i' :: k' :: M)=>if x=p∧i'=i∧k'=k then some (j :: M) else some (x :: i' :: k' :: M)
 | y=>y
theorem Q6o {p i k j:Nat} {o:Nat→Option (List Nat)} {b x:Nat} {M:List Nat} (h:o b=some (x :: M)) (hx:x ≠ p):tkl p i k j o b=some (x :: M):=by
 unfold tkl;rw [h];cases M with
 | nil=>rfl
 | cons y M =>
  cases M with
  | nil=>rfl
  | cons z M=>simp [hx]
theorem tkl_root {p i k j:Nat} {o:Nat→Option (List Nat)} {b:Nat} (h:o b=some [p]):tkl p i k j o b=some [p]:=by simp [tkl,h]
theorem tkl_cell {p i k j:Nat} {o:Nat→Option (List Nat)} {b:Nat} {M:List Nat} (h:o b=some (p :: i :: k :: M)):tkl p i k j o b=some (j :: M):=by simp [tkl,h]
theorem tkl_rest {p i k j i' k':Nat} {o:Nat→Option (List Nat)} {b:Nat} {M:List Nat} (h:o b=some (p :: i' :: k' :: M)) (hne:(i',k') ≠ (i,k)):tkl p i k j o b=some (p :: i' :: k' :: M):=by
 simp only [tkl,h];rw [if_neg]
 rintro ⟨_,rfl,rfl⟩
 exact hne rfl
theorem Qal {p i k j:Nat} {o:Nat→Option (List Nat)} {b:Nat} (h:o b=none):tkl p i k j o b=none:=by simp [tkl,h]
theorem tkl_some {p i k j:Nat} {o:Nat→Option (List Nat)} {b:Nat} {L:List Nat} (h:tkl p i k j o b=some L):∃ L',o b=some L':=by
 cases hb:o b with
 | none=>rw [Qal hb] at h;cases h
 | some L'=>exact ⟨L',rfl⟩
def Q1m (h:HP) (p i k j sz sz2:Nat) (es es2:List (List AV)):HP:=fun c=>if c=p then some (.row sz (Q3D es i k)) else if c=j then some (.row sz2 es2) else h c
theorem Q7T {h:HP} {p i k j sz sz2:Nat} {es es2:List (List AV)} (hp:h p=some (.row sz es)) (hj:h j=some (.ali p i k sz2)) (c:Nat):QD (Q1m h p i k j sz sz2 es es2 c)=QD (h c):=by
 unfold Q1m;split
 ·rename_i e;subst e;rw [hp];rfl
 split
 ·rename_i e;subst e;rw [hj];rfl
 rfl
theorem cont_take {h:HP} {p i k j sz sz2:Nat} {es es2:List (List AV)} (hp:h p=some (.row sz es)) (hj:h j=some (.ali p i k sz2)) (hpj:p ≠ j) (hc:(es.getD i []).getD k .bot = .lst true sz2 es2) :
  ∀ (d c:Nat) (q:Nat × List (List AV)),cont (Q1m h p i k j sz sz2 es es2) d c=some q→(c=p∧q=(sz,Q3D es i k))∨∃ d',cont h d' c=some q:=by
 intro d
 induction d with
 | zero=>intro c q hx;simp [cont] at hx
 | succ d ih =>
  intro c q hx
  by_cases hcp:c=p
  ·subst hcp;refine .inl ⟨rfl,?_⟩;simpa [cont,Q1m,eq_comm] using hx
  by_cases hcj:c=j
  ·subst hcj;have e1:Q1m h p i k c sz sz2 es es2 c=some (.row sz2 es2):=(by simp [Q1m,hcp]);unfold cont at hx;rw [e1] at hx;simp only [Option.some.injEq] at hx;subst hx;refine .inr ⟨2,?_⟩;have h1:cont h 1 p=some (sz,es):=(by simp [cont,hp]);have h2:QD (h p)=false:=(by rw [hp];rfl);rw [cont,hj];simp only [h1,h2,Bool.false_eq_true,if_false,hc,if_true]
  have e1:Q1m h p i k j sz sz2 es es2 c=h c:=by simp [Q1m,hcp,hcj]
  unfold cont at hx;rw [e1] at hx;cases he:h c with
  | none=>simp [he] at hx
  | some x =>
   cases x with
   | mix=>exact .inr ⟨1,by simpa [cont,he] using hx⟩
   | row=>exact .inr ⟨1,by simpa [cont,he] using hx⟩
   | mapE=>simp [he] at hx
   | ali c2 i2 k2 s2 =>
    simp only [he] at hx;split at hx
    ·cases hx
    rename_i hm;rw [Q7T hp hj] at hm;cases hcc:cont (Q1m h p i k j sz sz2 es es2) d c2 with
    | none=>simp [hcc] at hx
    | some q2 =>
     rw [hcc] at hx;rcases ih c2 q2 hcc with ⟨rfl,rfl⟩|⟨d',i1⟩
     ·by_cases hik:(i2,k2)=(i,k)
      ·cases hik;simp only [Q7V] at hx;cases hx
      refine .inr ⟨2,?_⟩;simp only [Q6O es hik] at hx;have h1:cont h 1 c2=some (sz,es):=(by simp [cont,hp]);rw [cont,he];simp only [h1,if_neg hm];exact hx
     refine .inr ⟨d' + 1,?_⟩;unfold cont;rw [he];simp only;rw [if_neg hm,i1];exact hx
theorem HRel.takeA {C:Ctx} {w:World} {g:Gh} {h:HP} (W:WF C w g) (H:HRel w g h) {p i k j sz sz2:Nat} {es es2:List (List AV)} (hp:h p=some (.row sz es)) (hj:h j=some (.ali p i k sz2)) (hpj:p ≠ j) (hi:i<es.length) (hk:k<sz)
  (hc:(es.getD i []).getD k .bot = .lst true sz2 es2):WF C w ⟨g.R,tkl p i k j g.o,g.ρ⟩∧HRel w ⟨g.R,tkl p i k j g.o,g.ρ⟩ (Q1m h p i k j sz sz2 es es2):=by
 refine ⟨W.labels (fun b hb=>Qal hb) fun b L hb=>tkl_some hb,⟨fun id z xs bk he hb=>?_,fun id z xs bk he hb=>?_,fun id c i' k' z bk he hb=>?_,fun id kd xs bk he hb=>?_⟩⟩
 ·have hidp:id ≠ p:=by rintro rfl;simp [Q1m] at he
  have hidj:id ≠ j:=by rintro rfl;simp [Q1m,hidp] at he
  have he':h id=some (.mix z xs):=by simpa [Q1m,hidp,hidj] using he
  exact (H.mix id z xs bk he' hb).mono (fun _ _=>rfl) (fun _ _ h=>h) fun b hb=>⟨Q6o hb hidp,rfl⟩
 ·by_cases hidp:id=p
  ·subst hidp;have:z=sz∧xs=Q3D es i k:=(by simpa [Q1m,eq_comm] using he);obtain ⟨rfl,rfl⟩:=this;obtain ⟨vp,t1,t2⟩:=H.row id z es bk hp hb;refine ⟨vp,?_,t2⟩;generalize hL:([id]:List Nat)=L at t1;cases t1 with
   | nil=>simp at hi
   | @own _ _ _ b cap cur' el' us u1 u2 u3 u4 u5 u6 u7 u8 u9 =>
    subst hL;have:=TRel.own (w:=w) (R:=g.R) (o:=tkl id i k j g.o) (L:=[id]) (sz:=z) (es:=Q3D es i k) (b:=b) (cap:=cap) (cur:=cur') (e:=el') us (tkl_root u1) u2 u3 (by rw [Q1k];exact u4) u5
     (fun i' hi'=>by rw [Q1k] at hi';rw [holed_row];exact u6 i' hi') (fun i' k' hi' hk'=>by rw [Q1k] at hi';exact u7 i' k' hi' hk') (fun i' k' hi' hk'=>by rw [Q1k] at hi';exact u8 i' k' hi' hk')
     (fun i' k' hi' hk'=>by
      rw [Q1k] at hi'
      by_cases hik:(i',k')=(i,k)
      ·cases hik;rw [Q7V];exact .bot (u8 _ _ hi' hk')
      rw [Q6O es hik];refine (u9 i' k' hi' hk').mono [id,i',k'] fun b' M hb'=>⟨?_,rfl⟩;have:g.o b'=some (id :: i' :: k' :: M):=(by simpa using hb');simpa using tkl_rest (j:=j) this hik)
    rw [Q1k] at this;exact this
  by_cases hidj:id=j
  ·subst hidj;have:z=sz2∧xs=es2:=(by simpa [Q1m,hidp,eq_comm] using he);obtain ⟨rfl,rfl⟩:=this;obtain ⟨e1,bkc,e2,e3⟩:=H.ali id p i k z bk hj hb;obtain ⟨bc,cur,el,v,c1,c2,c3,c4⟩:=e3 1 sz es (by simp [cont,hp]) (by rw [hp];rfl) hi hk;obtain ⟨vp,t1,t2⟩:=H.row p sz es bkc hp e2;generalize hL:([p]:List Nat)=L at t1;cases t1 with
   | nil=>simp at hi
   | @own _ _ _ b cap cur' el' us u1 u2 u3 u4 u5 u6 u7 u8 u9 =>
    subst hL;cases t2;simp only [Option.some.injEq] at c1;subst c1;rw [u2] at c2;simp only [Option.some.injEq,Obj.cells.injEq] at c2;obtain ⟨rfl,_,_⟩:=c2;have hv:us i k=v:=by
     have:=u7 i k hi hk;rw [c3] at this;exact (Option.some.inj this).symm
    have T:=u9 i k hi hk;rw [hc,hv] at T;refine ⟨v,T.mono [id] fun b' M hb'=>⟨?_,rfl⟩,?_⟩
    ·have:g.o b'=some (p :: i :: k :: M):=(by simpa using hb');simpa using tkl_cell (j:=id) this
    rcases c4 with c4|c4
    ·exact c4
    exact (T.scn_lst c4).elim
  have he':h id=some (.row z xs):=by simpa [Q1m,hidp,hidj] using he
  obtain ⟨v,t1,t2⟩:=H.row id z xs bk he' hb;exact ⟨v,t1.same fun b M hb=>⟨by
   have h3:g.o b=some (id :: M):=(by simpa using hb);simpa using Q6o h3 hidp,rfl⟩,t2⟩
 ·have hidp:id ≠ p:=by rintro rfl;simp [Q1m] at he
  have hidj:id ≠ j:=by rintro rfl;simp [Q1m,hidp] at he
  have he':h id=some (.ali c i' k' z):=by simpa [Q1m,hidp,hidj] using he
  obtain ⟨e1,bkc,e2,e3⟩:=H.ali id c i' k' z bk he' hb;refine ⟨e1,bkc,e2,fun d szc esc hcc hm hi' hk'=>?_⟩;rw [Q7T hp hj] at hm;rcases cont_take hp hj hpj hc d c _ hcc with ⟨rfl,q⟩|⟨d',q1⟩
  ·cases q;rw [Q1k] at hi';exact e3 1 _ es (by simp [cont,hp]) hm hi' hk'
  exact e3 d' szc esc q1 hm hi' hk'
 have hidp:id ≠ p:=by rintro rfl;simp [Q1m] at he
 have hidj:id ≠ j:=by rintro rfl;simp [Q1m,hidp] at he
 have he':h id=some (.mapE kd xs):=by simpa [Q1m,hidp,hidj] using he
 exact (H.map id kd xs bk he' hb).move (fun b hb=>⟨hb,rfl⟩) fun b M hb=>⟨Q6o hb hidp,rfl⟩
theorem Qax {h h':HP} {p i k j sz sz2:Nat} {es es2:List (List AV)} (hs:∀ id x,h id=some x→h' id=some x):∀ id x,Q1m h p i k j sz sz2 es es2 id=some x→Q1m h' p i k j sz sz2 es es2 id=some x:=by
 intro id x hx
 by_cases h0:id=p
 ·simpa [Q1m,h0] using hx
 by_cases h1:id=j
 ·simpa [Q1m,h0,h1] using hx
 have:h id=some x:=by simpa [Q1m,h0,h1] using hx
 simpa [Q1m,h0,h1] using hs _ _ this
open Classical in
theorem sem_apa {P:Program} [Kd P] {op:Op} {ev:Operand→AV} {h:HP} {n:Nat} {c:Prop} {e:Eff} {s x:Operand} {t:TypeId} {p j i k sz sz2:Nat} {es es2:List (List AV)} (ho:op = .call ⟨.builtin .append,#[s,x],#[t,t]⟩)
  (hj:h j=some (.ali p i k sz2)) (hp:h p=some (.row sz es)) (hpj:p ≠ j) (hi:i<es.length) (hk:k<sz) (hc:(es.getD i []).getD k .bot = .lst true sz2 es2) (hpn:p<n)
  (he:opF P op ev (Q1m h p i k j sz sz2 es es2) n=some (c,e)) (hcc:c) (hse:e.set=[]) (hpd:p ∉ e.del) (hjd:j∈e.del) (hf:e.fine n) :
  SemOp P op ev h n { v:=e.v,set:=[(p,.row sz (Q3D es i k))],del:=e.del,new:=e.new,cnt:=e.cnt }:=by
 subst ho;have up:∀ {g:Gh} {w:World} {a:Act} {h':HP},(∀ id x,h id=some x→h' id=some x)→(∀ y∈(Op.call ⟨.builtin .append,#[s,x],#[t,t]⟩).operands,XRel w g.R g.ρ (a.eval y) (ev y)) →
   ∃ ev':Operand→AV,(∀ y,XRel w g.R g.ρ (a.eval y) (ev' y))∧opF P (.call ⟨.builtin .append,#[s,x],#[t,t]⟩) ev' (Q1m h' p i k j sz sz2 es es2) n=some (c,e):=by
  intro g w a h' q2 q5;refine ⟨fun y=>if y=s∨y=x then ev y else .bot,fun y=>?_,?_⟩
  ·simp only;split
   ·rename_i hy;exact q5 y (by rcases hy with rfl|rfl<;>simp [Op.operands,Call.operands])
   exact .bot
  rw [← Q8a (ev:=ev) (fun y hy=>by
   have hy':y=s∨y=x:=(by simpa [Op.operands,Call.operands] using hy);exact (if_pos hy').symm)]
  exact opF_up (Qax q2) he
 refine ⟨by simp [Q1R],⟨hf.new,hf.nodup,hf.del,by simp [hpn]⟩,fun {C o a w g h'} q1 q2 q3 q4 q5 W H q6 q7=>?_,fun {C o a w g h'} q1 q2 q3 q4 q5 W H q6 q7=>?_⟩;rotate_left
 ·obtain ⟨ev',u1,u2⟩:=up (g:=g) (w:=w) (a:=a) q2 q5;exact Q7q (g:=g) (ev:=ev') (h:=Q1m h' p i k j sz sz2 es es2) (n:=n) (c:=c) (e:=e) u1 (by rw [q1];exact u2)
 obtain ⟨W1,H1⟩:=HRel.takeA W H (q2 _ _ hp) (q2 _ _ hj) hpj hi hk hc;have hjn:j<n:=hf.del j hjd;obtain ⟨ev',hev,he2⟩:=up (g:=g) (w:=w) (a:=a) q2 q5;have St:=Qa0 (g:=⟨g.R,tkl p i k j g.o,g.ρ⟩) (a:=a) (ev:=ev') hev W1 H1 (e:=e) (c:=c) (n:=n) (fun p0 hp0=>by
  have h0:=(hf.new p0 hp0).1;have h1:p0.1 ≠ p:=by omega
  have h2:p0.1 ≠ j:=by omega
  simp only [Q1m,if_neg h1,if_neg h2];exact q6 p0 hp0) q7 (o:=o) (by rw [q1];exact he2) hcc
 have hh:happ e (Q1m h' p i k j sz sz2 es es2)=happ { v:=e.v,set:=[(p,.row sz (Q3D es i k))],del:=e.del,new:=e.new,cnt:=e.cnt } h':=by
  funext y
  simp only [happ,hse,look]
  by_cases h0:p=y
  ·subst h0;simp [hpd,Q1m]
  rw [if_neg h0];simp only
  by_cases h1:y=j
  ·subst h1;simp [hjd]
  simp [Q1m,Ne.symm h0,h1]
 intro K Q kk;refine St.step K Q fun v w' R' o' ρ' r1 r2 r3 r4 r5 r6 r7=>kk v w' R' o' ρ' r1 r2 ?_ r4 r5 r6 r7;rw [← hh];exact r3
theorem sem_apaE {P:Program} [Kd P] {op:Op} {ev:Operand→AV} {h:HP} {n:Nat} {s x:Operand} {t et:TypeId} {ty:Tyi} {p j i k sz sz2 m:Nat} {es es2 news es3:List (List AV)} {d2:List Nat} {c2:Prop}
  (ho:op = .call ⟨.builtin .append,#[s,x],#[t,t]⟩) (hel:elm P t=some et) (hty:tyi P et=some ty) (hsz:ty.sz=sz2) (h0:0<sz2) (hs:ev s = .own j 0 m) (hm:m=es2.length) (hj:h j=some (.ali p i k sz2)) (hp:h p=some (.row sz es))
  (hx:src (Q1m h p i k j sz sz2 es es2) sz2 (ev x)=some (c2,news,d2)) (hc2:c2) (hi:i<es.length) (hk:k<sz) (hc:(es.getD i []).getD k .bot = .lst true sz2 es2)
  (hb:es3.length * ty.bytes≤140737488355328) (hb':es3.length≤140737488355328) (hpn:p<n) (hnd:(n :: p :: j :: d2).Nodup) (hd:∀ y∈j :: d2,y<n) (he3:es2++news=es3) :
  SemOp P op ev h n { v:=.own n 0 es3.length,set:=[(p,.row sz (Q3D es i k))],del:=j :: d2,new:=[(n,.row sz2 es3)],cnt:=1 }:=by
 subst he3 hm;have hpj:p ≠ j:=by
  have:=(List.nodup_cons.1 hnd).2;simp only [List.nodup_cons,List.mem_cons,not_or] at this;exact this.1.1
 have hnd':(n :: ([j]++([]++d2))).Nodup:=by
  simp only [List.nodup_cons,List.mem_cons,not_or] at hnd ⊢;simp only [List.nil_append,List.singleton_append,List.mem_cons,not_or,List.nodup_cons];exact ⟨⟨hnd.1.2.1,hnd.1.2.2⟩,hnd.2.2⟩
 have hhj:Q1m h p i k j sz sz2 es es2 j=some (.row sz2 es2):=by simp [Q1m,Ne.symm hpj]
 have key:=sem_apa (P:=P) (ev:=ev) (n:=n) (c:=(es2.length≤es2.length)∧c2∧(es2.length+news.length) * ty.bytes≤140737488355328∧es2.length+news.length≤140737488355328∧0<ty.sz) (e:={ v:=.own n 0 (es2.length+news.length),del:=[j]++([]++d2),new:=[(n,.row ty.sz (es2++news))],cnt:=1 }) ho hj hp hpj hi hk hc hpn
  (by
   subst ho;simp only [opF,bltF,hel,if_true,hty,hs,Q2r];simp only [base,hhj,hsz,hx,if_true,hnd',List.take_length])
  (by simp only [List.length_append] at hb hb';exact ⟨Nat.le_refl _,hc2,hb,hb',by omega⟩) rfl (by
   simp only [List.nodup_cons,List.mem_cons,not_or] at hnd;simpa using hnd.2.1) (by simp) ⟨by simp,by simp,by simpa using hd,by simp⟩
 simpa [hsz] using key
theorem holed_set {es:List (List AV)} {i k:Nat} {b:AV} {es2:List (List AV)} (h:es.set i ((es.getD i []).set k b)=es2):(Q3D es i k).set i (((Q3D es i k).getD i []).set k b)=es2:=by
 rw [← h];unfold Q3D
 by_cases hi:i<es.length
 ·simp [List.getD_eq_getElem?_getD,hi]
 simp [hi]
end
section
attribute [local simp] Qc QC Qq
attribute [simp] Q1k
theorem HRel.sub {w:World} {g:Gh} {h h2:HP} (H:HRel w g h) (hs:∀ id x,h2 id=some x→h id=some x):HRel w g h2:=by
 refine ⟨fun id sz es bk he hb=>H.mix id sz es bk (hs _ _ he) hb,fun id sz es bk he hb=>H.row id sz es bk (hs _ _ he) hb,fun id c i k sz bk he hb=>?_,fun id kd es bk he hb=>H.map id kd es bk (hs _ _ he) hb⟩;obtain ⟨e1,bkc,e2,e3⟩:=H.ali id c i k sz bk (hs _ _ he) hb;refine ⟨e1,bkc,e2,fun d szc esc hcc hm hi hk=>e3 d szc esc (Q1L hs hcc) ?_ hi hk⟩;cases hc:h2 c with
 | none =>
  cases d with
  | zero=>simp [cont] at hcc
  | succ d=>simp [cont,hc] at hcc
 | some x=>rw [hs _ _ hc,← hc];exact hm
end
section
attribute [local simp] Qc QC Qq
theorem HRel.beyond {w:World} {g:Gh} {h1 h2:HP} (H:HRel w g h1) (he:∀ id bk,g.ρ id=some bk→h2 id=h1 id):HRel w g h2:=by
 have hc:∀ (d c:Nat) (bk:Bk),g.ρ c=some bk→cont h2 d c=cont h1 d c:=by
  intro d
  induction d with
  | zero=>intro c bk _;rfl
  | succ d ih =>
   intro c bk hb;have e:=he c bk hb;unfold cont;rw [e];cases hx:h1 c with
   | none=>rfl
   | some x =>
    cases x with
    | ali c2 i k sz =>
     obtain ⟨_,bkc,e2,_⟩:=H.ali c c2 i k sz bk hx hb;simp only;rw [he c2 bkc e2,ih c2 bkc e2]
    | _=>rfl
 refine ⟨fun id sz es bk hx hb=>H.mix id sz es bk (by rw [← he id bk hb];exact hx) hb,fun id sz es bk hx hb=>H.row id sz es bk (by rw [← he id bk hb];exact hx) hb,fun id c i k sz bk hx hb=>?_,fun id kd es bk hx hb=>H.map id kd es bk (by rw [← he id bk hb];exact hx) hb⟩;obtain ⟨e1,bkc,e2,e3⟩:=H.ali id c i k sz bk (by rw [← he id bk hb];exact hx) hb;exact ⟨e1,bkc,e2,fun d szc esc hcc hm=>e3 d szc esc (by rw [← hc d c bkc e2];exact hcc) (by rw [← he c bkc e2];exact hm)⟩
def opl (p N:Nat) (o:Nat→Option (List Nat)):Nat→Option (List Nat):=fun b=>match o b with
 | some (x :: i :: k :: M)=>if x=p∧k=0 then some ((N+i) :: M) else some (x :: i :: k :: M)
 | y=>y
theorem Q68 {p N:Nat} {o:Nat→Option (List Nat)} {b x:Nat} {M:List Nat} (h:o b=some (x :: M)) (hx:x ≠ p):opl p N o b=some (x :: M):=by
 unfold opl;rw [h];cases M with
 | nil=>rfl
 | cons y M =>
  cases M with
  | nil=>rfl
  | cons z M=>simp [hx]
theorem opl_cell {p N i:Nat} {o:Nat→Option (List Nat)} {b:Nat} {M:List Nat} (h:o b=some (p :: i :: 0 :: M)):opl p N o b=some ((N+i) :: M):=by simp [opl,h]
theorem Qa2 {p N:Nat} {o:Nat→Option (List Nat)} {b:Nat} (h:o b=none):opl p N o b=none:=by simp [opl,h]
theorem opl_some {p N:Nat} {o:Nat→Option (List Nat)} {b:Nat} {L:List Nat} (h:opl p N o b=some L):∃ L',o b=some L':=by
 cases hb:o b with
 | none=>rw [Qa2 hb] at h;cases h
 | some L'=>exact ⟨L',rfl⟩
theorem HRel.opl {w:World} {g:Gh} {h:HP} {p:Nat} (N:Nat) (H:HRel w g h) (hp:h p=none):HRel w ⟨g.R,opl p N g.o,g.ρ⟩ h:=by
 have hne:∀ {id:Nat} {x:Ent},h id=some x→id ≠ p:=fun hx hq=>by rw [hq,hp] at hx;cases hx
 refine ⟨fun id sz es bk hx hb=>(H.mix id sz es bk hx hb).mono (fun _ _=>rfl) (fun _ _ h=>h) fun b h2=>⟨Q68 h2 (hne hx),rfl⟩,fun id sz es bk hx hb=>?_,fun id c i k sz bk hx hb=>H.ali id c i k sz bk hx hb,fun id kd es bk hx hb=>(H.map id kd es bk hx hb).move (fun b h2=>⟨h2,rfl⟩) fun b M h2=>⟨Q68 h2 (hne hx),rfl⟩⟩;obtain ⟨v,t1,t2⟩:=H.row id sz es bk hx hb;exact ⟨v,t1.same fun b M h2=>⟨by
  have h3:g.o b=some (id :: M):=by simpa using h2
  simpa using Q68 h3 (hne hx),rfl⟩,t2⟩
theorem QaI (N:Nat):∀ k,((List.range k).map fun i=>N+i).Nodup:=by
 intro k;exact List.pairwise_map.2 (List.Pairwise.imp (fun {a b} h h2=>h (by omega)) (List.nodup_range (n:=k)))
open Classical in
theorem sem_apr {P:Program} [Kd P] {op:Op} {ev:Operand→AV} {h:HP} {n:Nat} {s x:Operand} {t et:TypeId} {ty:Tyi} {j p m mx:Nat} {es news es3:List (List AV)}
  (ho:op = .call ⟨.builtin .append,#[s,x],#[t,t]⟩) (hel:elm P t=some et) (hty:tyi P et=some ty) (hsz:ty.sz=1) (hs:ev s = .own j 0 m) (hm:m=es.length) (hj:h j=some (.row 1 es))
  (hx:ev x = .own p 0 mx) (hmx:mx=news.length) (hp:h p=some (.row 1 news)) (hb:es3.length * ty.bytes≤140737488355328) (hb':es3.length≤140737488355328) (hjp:j ≠ p) (hjn:j<n) (hpn:p<n) (he3:es++news=es3) :
  SemOp P op ev h n { v:=.own n 0 es3.length,del:=[j,p],new:=[(n,.row 1 es3)],cnt:=1 }:=by
 subst ho he3 hm hmx;refine ⟨by simp [Q1R],⟨by simp,by simp,by simp;omega,by simp⟩,fun {C o a w g h'} q1 q2 q3 q4 q5 W H q6 q7=>?_,fun {C o a w g h'} q1 q2 q3 q4 q5 W H q6 q7=>?_⟩;rotate_left
 ·let ev':Operand→AV:=fun y=>if y=s∨y=x then ev y else .bot
  have hev:∀ y,XRel w g.R g.ρ (a.eval y) (ev' y):=by
   intro y;simp only [ev'];split
   ·rename_i hy;exact q5 y (by rcases hy with rfl|rfl<;>simp [Op.operands,Call.operands])
   exact .bot
  have e1:ev' s = .own j 0 es.length:=by simp only [ev',true_or,if_true];exact hs
  have e2:ev' x = .own p 0 news.length:=by simp only [ev',or_true,if_true];exact hx
  have hex:∃ r,opF P o.op ev' (fun id=>if id=p then some (.row 1 []) else if id=j then some (.row 1 []) else none) n=some r:=by
   rw [q1];simp only [opF,bltF,hel,if_true,hty,e1,e2,Q2r,base,src,hjp,if_false,hsz];simp only [depth,cont,if_true,List.nil_append,List.append_nil];have hn2:([n,j]:List Nat).Nodup:=(by simp;omega);rw [if_pos (by simpa using hn2)];exact ⟨_,rfl⟩
  obtain ⟨⟨c,e⟩,he⟩:=hex;exact Q7q (g:=g) hev he
 let ev':Operand→AV:=fun y=>if y=s∨y=x then ev y else .bot
 have hev:∀ y,XRel w g.R g.ρ (a.eval y) (ev' y):=by
  intro y;simp only [ev'];split
  ·rename_i hy;exact q5 y (by rcases hy with rfl|rfl<;>simp [Op.operands,Call.operands])
  exact .bot
 have e1:ev' s = .own j 0 es.length:=by simp only [ev',true_or,if_true];exact hs
 have hxr:=q5 x (by simp [Op.operands,Call.operands]);rw [hx] at hxr
 let h2:HP:=fun id=>if id=p then none else if id≤n then h' id else none
 have hsub:∀ id y,h2 id=some y→h' id=some y:=by
  intro id y hy;simp only [h2] at hy;split at hy
  ·cases hy
  split at hy
  ·exact hy
  cases hy
 have H2:HRel w ⟨g.R,opl p (n+1) g.o,g.ρ⟩ h2:=(H.sub hsub).opl (n+1) (by simp [h2]);have W2:WF C w ⟨g.R,opl p (n+1) g.o,g.ρ⟩:=W.labels (fun b hb=>Qa2 hb) fun b L hb=>opl_some hb;have hbase:base h2 ty.sz (ev' s)=some (es.length≤es.length,es,[j],[]):=by
  have hj2:h2 j=some (.row 1 es):=by
   simp only [h2,if_neg hjp,if_pos (Nat.le_of_lt hjn)];exact q2 _ _ hj
  rw [e1,hsz];simp only [base,hj2,if_true,List.take_length]
 have hsrc:∃ (ad:Option Addr) (cx:Nat) (us2:Nat→Nat→Value),a.eval x = .slice ad news.length cx∧(∀ j,j<news.length→(news.getD j []).length=1) ∧
   (∀ j k,j<news.length→k<1→∃ b x0,ad=some ⟨b,x0,none⟩∧w.cell? ⟨b,x0+(j * 1+k),none⟩=some (us2 j k))∧(∀ j k,j<news.length→k<1→one (us2 j k)) ∧
   ∀ j k,j<news.length→k<1→TRel w g.R g.o [p,j,k] (us2 j k) ((news.getD j []).getD k .bot):=by
  rcases hxr.own_eq with ⟨sz,cap,r1,r2,r3,r4⟩|⟨b,sz,cap,cc,x0,r1,r2,r3,r4,r5,r6,r7⟩
  ·have hn:news=[]:=List.eq_nil_of_length_eq_zero r4;subst hn;exact ⟨none,0,fun _ _=>undef,r2,by simp,by simp,by simp,by simp⟩
  obtain ⟨v,t1,t2⟩:=H.row p 1 news _ (q2 _ _ hp) r1;have hx0:x0=0:=r6 rfl;subst hx0;generalize hL:([p]:List Nat)=L at t1;cases t1 with
  | nil=>exact ⟨some ⟨b,0,none⟩,cc,fun _ _=>undef,r2,by simp,by simp,by simp,by simp⟩
  | @own _ _ _ b' cap' cur el us u1 u2 u3 u4 u5 u6 u7 u8 u9 =>
   subst hL;cases t2;refine ⟨some ⟨b,0,none⟩,cc,us,r2,u6,fun j k hj hk=>⟨b,0,rfl,?_⟩,u8,fun j k hj hk=>by simpa using u9 j k hj hk⟩;have:=u7 j k hj hk;simp only [Nat.zero_add,World.cell?,u2];simpa using this
 obtain ⟨ad,cx,us2,hxv,s1,s2,s3,s4⟩:=hsrc;have hd2:((List.range news.length).map fun i=>(n+1+i,[n,es.length+i,0])).map Prod.fst=(List.range news.length).map fun i=>n+1+i:=by simp [Function.comp_def]
 have St:=Q5r (g:=⟨g.R,opl p (n+1) g.o,g.ρ⟩) (a:=a) (ev:=ev') (h:=h2) (n:=n) (C:=C) (o:=o) (e:={ v:=.own n 0 (es.length+news.length),del:=[j]++([]++(List.range news.length).map fun i=>n+1+i),new:=[(n,.row ty.sz (es++news))],cnt:=1 })
  hev W2 H2 (fun q hq=>by
   have hq':q=(n,.row ty.sz (es++news)):=(by simpa using hq);subst hq';have:=q6 (n,.row 1 (es++news)) (by simp);simp only [h2,if_neg (show n ≠ p by omega),Nat.le_refl,if_true,hsz];exact this) q7 q1 hel hty hbase (Nat.le_refl _) hxv (by rw [hsz];exact s1) (by rw [hsz];exact s2) (by rw [hsz];exact s3) hd2
  (fun j' k hj' hk=>by
   rw [hsz] at hk;have hk0:k=0:=(by omega);subst hk0;intro w' o' hR hky;refine (s4 j' 0 hj' hk).mono [n,es.length+j',0] fun b M hM=>?_;have h3:opl p (n+1) g.o b=some ((n+1+j') :: M):=opl_cell (by simpa using hM);exact hky (n+1+j',[n,es.length+j',0]) (List.mem_map.2 ⟨j',by simpa using hj',rfl⟩) b M h3)
  (by
   simp only [List.nil_append,List.singleton_append,List.nodup_cons,List.mem_cons,List.mem_map,List.mem_range,not_or];refine ⟨⟨by omega,?_⟩,?_,QaI _ _⟩
   ·rintro ⟨i,_,hi⟩;omega
   rintro ⟨i,_,hi⟩;omega)
  (by simpa using hb) (by simpa using hb') (by omega) rfl
 intro K Q kk;refine St.step K Q fun v w' R' o' ρ' r1 r2 r3 r4 r5 r6 r7=>kk v w' R' o' ρ' r1 r2 ?_ r4 r5 (by simpa using r6) r7;refine r3.beyond fun id bk hbk=>?_;have hle:id≤n:=by
  rcases r5 id bk hbk with h3|h3
  ·have:=q4 id bk h3;omega
  have:=h3.2;simp only at this;omega
 simp only [happ,look];have hnm:id ∉ (List.range news.length).map fun i=>n+1+i:=by
  simp only [List.mem_map,List.mem_range]
  rintro ⟨i,_,hi⟩
  omega
 by_cases h3:id=j
 ·subst h3;simp
 by_cases h4:id=p
 ·subst h4;simp [h3,hnm,h2]
 simp [h3,h4,hnm,h2,hle]
@[simp] theorem baseME_row {sz id m sz':Nat} {es:List (List AV)}:baseME sz id m (some (.row sz' es))=none:=rfl
@[simp] theorem srcME_row {sz off m sz':Nat} {es:List (List AV)}:srcME sz off m (some (.row sz' es))=none:=rfl
@[simp] theorem appME_no {t:Tyi} {n:Nat} {q:Option (Prop × List (List AV))}:appME t n none q=none:=rfl
end
end Go.Vc
