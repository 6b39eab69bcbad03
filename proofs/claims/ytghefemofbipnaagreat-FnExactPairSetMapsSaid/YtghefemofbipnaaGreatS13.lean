/- A part of the proof: a verified generator of conditions, and what each function of the program does. -/
import Derived.Test.YtghefemofbipnaaGreatS12
import Derived.IntWalk
import Derived.Laws.BytesString
import Derived.Scope
set_option maxRecDepth 100000
set_option maxHeartbeats 4000000
set_option linter.unusedSimpArgs false
set_option linter.unusedVariables false
set_option linter.unusedSectionVars false
set_option linter.unnecessarySimpa false

namespace Go.Vc
open Go
inductive Good:AV→Prop
 | val {v}:sc v→Good (.val v)
 | lst {u sz es}:es.length≤maxLen→(∀ i,i<es.length→(es.getD i []).length=sz)→(∀ i k,i<es.length→k<sz→Good ((es.getD i []).getD k .bot))→Good (.lst u sz es)
 | rptr {cs}:(∀ k,k<cs.length→Good (cs.getD k .bot))→Good (.rptr cs)
 | agg {cs}:(∀ k,k<cs.length→Good (cs.getD k .bot))→Good (.agg cs)
 | other {a}:(match a with|.val _|.lst _ _ _|.rptr _|.agg _=>False|_=>True)→Good a
theorem RRel.good {w:World} {R:Nat→Prop} {v:Value} {a:AV} (h:RRel w R v a):Good a:=by
 induction h with
 | val h=>exact .val h
 | nil=>exact .lst (by simp) (fun i hi=>by simp at hi) (fun i k hi=>by simp at hi)
 | lst us _ _ h1 h2 h3 _ _ _ ih=>exact .lst (by omega) h3 ih
 | rptr us _ _ _ _ _ ih=>exact .rptr ih
 | fn=>exact .other trivial
 | bnd=>exact .other trivial
 | ifc=>exact .other trivial
 | ifs=>exact .other trivial
 | cmap=>exact .other trivial
 | bot=>exact .other trivial
theorem XRel.good {w:World} {R:Nat→Prop} {ρ:Nat→Option Bk} {v:Value} {a:AV} (h:XRel w R ρ v a):Good a:=by
 induction h with
 | r h=>exact h.good
 | agg _ _ _ ih=>exact .agg ih
 | _=>exact .other trivial
section
variable {P:Program} [Kd P] {F:Fx} {AQ:Exit→St→Prop} {st:St} {c:Code}
theorem Q4l (t:Nat) (h:Good (st.get t)→Wp P F c AQ st):Wp P F c AQ st:=by
 intro a w hr;have:Good (st.get t):=by
  obtain ⟨_,_,_,_,_,o,ρ,_,_,hx,_⟩:=hr;exact (hx t).good
 exact h this a w hr
theorem w_sr {id:Nat} {ops:Array Oper} {d:Bool} {y:Code} (hm:P.follows .mixedOrders=true) (hok:(okN F.N ops && (!d || (Q4a false ops && Q2L ops)))=true)
  (h:∀ K:St→Prop,(∀ st',Wp P F y AQ st'→K st')→QM P false ops ops.toList st K):Wp P F (.seq (.region id ops d) y) AQ st :=
 Q3 (w_run hm hok fun K hK=>h K fun st' h'=>hK st' h')
theorem Q4D {id:Nat} {ops:Array Oper} {d:Bool} {y:Code} (hm:P.follows .mixedOrders=true) (hok:(okN F.N ops && (!d || (Q4a true ops && Q2L ops)))=true)
  (h:∀ K:St→Prop,(∀ st',Wp P F y AQ st'→K st')→QM P true ops ops.toList st K):Wp P F (.seq (.region id ops d) y) AQ st :=
 Q3 (w_runM hm hok fun K hK=>h K fun st' h'=>hK st' h')
end
def Is (xs:List Int):List (List AV):=xs.map fun x=>[.val (.int .i64 x)]
@[simp] theorem Is_length (xs:List Int):(Is xs).length=xs.length:=by simp [Is]
@[simp] theorem Is_nil:Is []=[]:=rfl
theorem Is_get (xs:List Int) (i:Nat) (h:i<xs.length):(Is xs).getD i []=[.val (.int .i64 (xs.getD i 0))]:=by
 simp [Is,List.getD_eq_getElem?_getD,h]
theorem Is_append (xs ys:List Int):Is (xs++ys)=Is xs++Is ys:=by simp [Is]
def B64 (x:Int):Prop:=-9223372036854775808≤x∧x≤9223372036854775807
theorem Good.is {u:Bool} {xs:List Int} (h:Good (.lst u 1 (Is xs))):xs.length≤9223372036854775807∧∀ x∈xs,B64 x:=by
 cases h with
 | lst h1 h2 h3 =>
  refine ⟨by rw [Is_length] at h1;exact Nat.le_trans h1 (by decide),fun x hx=>?_⟩;obtain ⟨i,hi,rfl⟩:=List.getElem_of_mem hx;have:=h3 i 0 (by simpa using hi) (by omega);rw [Is_get _ _ hi] at this;simp only [List.getD_cons_zero] at this;cases this with
  | val h =>
   simp only [sc] at h;have e1:IntKind.i64.min = -9223372036854775808:=(by decide);have e2:IntKind.i64.max=9223372036854775807:=(by decide);simpa [List.getD_eq_getElem?_getD,hi,B64,e1,e2] using h
  | other h=>exact h.elim
 | other h=>exact h.elim
@[simp] theorem i64_min:IntKind.i64.min = -9223372036854775808:=by decide
theorem QA {x:Int} (h:B64 x):IntKind.i64.wrap x=x:=IntWalk.i64_in x h
theorem QG (xs:List Int) (i:Nat) (h:i<xs.length):(Is xs)[i]? = some [.val (.int .i64 xs[i])]:=by simp [Is,h]
attribute [local simp] QG
theorem Qp (xs:List Int) (i:Nat) (h:i<(Is xs).length):(Is xs)[i]=[.val (.int .i64 (xs[i]'(by simpa using h)))]:=by simp [Is]
attribute [local simp] Qp
@[simp] theorem Is_set (xs:List Int) (i:Nat) (x:Int):(Is xs).set i [.val (.int .i64 x)]=Is (xs.set i x):=by simp [Is,List.map_set]
@[simp] theorem Is_rep (n:Nat) (x:Int):List.replicate n [.val (.int .i64 x)]=Is (List.replicate n x):=by simp [Is]
theorem Qa {t:Nat} {v v':Value} {st:St} (h:st.get t = .val v) (e:v=v'):RetA [t] st [.val v']:=by
 subst e;refine ⟨?_,[.val v],[],?_,.nil,UpL.refl _⟩
 ·simp only [List.map_cons,List.map_nil,h];exact .one rfl rfl .nil
 simp only [List.map_cons,List.map_nil,h,List.flatMap_cons,List.flatMap_nil,AV.cells,List.append_nil];rfl
theorem Q4v {t id n sz:Nat} {es fs:List (List AV)} {st:St} (h:st.get t = .own id 0 n) (he:look id st.h=some (.row sz es)) (hn:es.length=n) (e:es=fs):RetA [t] st [.lst true sz fs]:=by
 subst e;refine ⟨?_,[.lst true sz es],[id],?_,by simp,UpL.refl _⟩
 ·simp only [List.map_cons,List.map_nil,h];exact .one rfl rfl .nil
 have he':st.hp id=some (.row sz es):=he;simp only [List.map_cons,List.map_nil,h,List.flatMap_cons,List.flatMap_nil,AV.cells,List.append_nil];simp [Q1Z,layC,layD,Go.Vc.depth,he',hn]
theorem Qe {i n:Nat} (h:i<n) (hn:n≤9223372036854775807):IntKind.i64.wrap ((i:Int)+1)=((i+1:Nat):Int):=by
 rw [QA ⟨by omega,by omega⟩];rfl
def contE (h:HP) (d:Nat):Option Ent→Option (Nat × List (List AV))
 | some (.mix sz es)=>some (sz,es)
 | some (.row sz es)=>some (sz,es)
 | some (.ali c i k sz)=>if Qw (h c) then none else match cont h d c with
   | some (_,es)=>match (es.getD i []).getD k .bot with
    | .lst true sz' es'=>if sz'=sz then some (sz,es') else none
    | _=>none
   | none=>none
 | some (.mapE _ _)=>none
 | none=>none
theorem cont_E {h:HP} {d id:Nat}:cont h (d+1) id=contE h d (h id):=by
 simp only [cont];cases h id with
 | none=>rfl
 | some e=>cases e<;>rfl
def wrE (h:HP) (d id:Nat) (es:List (List AV)):Option Ent→Option (List (Nat × Ent))
 | some (.mix sz _)=>some [(id,.mix sz es)]
 | some (.row sz _)=>some [(id,.row sz es)]
 | some (.ali c i k sz)=>match cont h d c with
   | some (_,fs)=>wr h d c (fs.set i ((fs.getD i []).set k (.lst true sz es)))
   | none=>none
 | some (.mapE _ _)=>none
 | none=>none
theorem wr_E {h:HP} {d id:Nat} {es:List (List AV)}:wr h (d+1) id es=wrE h d id es (h id):=by
 simp only [wr];cases h id with
 | none=>rfl
 | some e=>cases e<;>rfl
def Q85 (t:Tyi) (id i k n:Nat):Option (Nat × List (List AV))→Option (Prop × Eff)
 | some (sz,es)=>some (i<es.length∧k+t.sz≤sz,{ v:=bif t.agg then .agg (Q10 id i k n (((es.getD i []).drop k).take t.sz)).1 else (Q10 id i k n (((es.getD i []).drop k).take t.sz)).1.getD 0 .bot,new:=(Q10 id i k n (((es.getD i []).drop k).take t.sz)).2,cnt:=t.sz })
 | none=>none
def loadE (t:Tyi) (id i k n:Nat) (h:HP):Option Ent→Option (Prop × Eff)
 | some (.mix sz es)=>some (i<es.length∧k+t.sz≤sz,{ v:=bif t.agg then .agg (((es.getD i []).drop k).take t.sz) else (es.getD i []).getD k .bot })
 | some (.row sz es)=>Q85 t id i k n (some (sz,es))
 | some (.ali _ _ _ _)=>Q85 t id i k n (cont h depth id)
 | some (.mapE _ _)=>none
 | none=>none
theorem loadv_E {t:Tyi} {id i k n:Nat} {h:HP}:Q4W (some t) (.adr id i k) h n=loadE t id i k n h (h id):=by
 simp only [Q4W,loadE];cases he:h id with
 | none=>rfl
 | some e =>
  cases e with
  | mix=>rfl
  | row sz es =>
   have:cont h depth id=some (sz,es):=(by simp [cont,depth,he]);simp only [this,Q85]
  | ali=>simp only [Q85];cases cont h depth id<;>rfl
  | mapE kd es =>
   have:cont h depth id=none:=(by simp [cont,depth,he]);simp only [this]
def Q4P (t:Tyi) (id i k:Nat) (x:AV) (h:HP):Option (Nat × List (List AV))→Option (Prop × Eff)
 | some (sz,es)=>match x with
  | .val v=>if t.sz=1∧Q7r v=true then
    match wr h depth id (es.set i ((es.getD i []).set k (.val v))) with
    | some s=>some (i<es.length∧k<sz,{ v:=.bot,set:=s })
    | none=>none
   else none
  | _=>none
 | none=>none
def Q7C (t:Tyi) (id i k:Nat) (x:AV) (h:HP):Option Ent→Option (Prop × Eff)
 | some (.mix sz es)=>if x.cells.length=t.sz && Q4Y x then
    some (i<es.length∧k+t.sz≤sz,{ v:=.bot,set:=[(id,.mix sz (es.set i (Q1n (es.getD i []) k x.cells)))] })
   else none
 | some (.row _ _)=>Q4P t id i k x h (cont h depth id)
 | some (.ali _ _ _ _)=>Q4P t id i k x h (cont h depth id)
 | some (.mapE _ _)=>none
 | none=>none
theorem storev_E {t:Tyi} {id i k:Nat} {x:AV} {h:HP}:Q3k (some t) (.adr id i k) x h=Q7C t id i k x h (h id):=by
 simp only [Q3k,Q7C];cases he:h id with
 | none=>rfl
 | some e =>
  cases e with
  | mapE kd es =>
   have:cont h depth id=none:=(by simp [cont,depth,he]);simp only [this]
  | _=>first|rfl|(simp only [Q4P];cases cont h depth id<;>rfl)
def layE (h:HP) (d:Nat) (id n:Nat):Option Ent→Option (AV × List Nat)
 | some (.row sz es)=>if es.length=n then some (.lst true sz es,[id]) else none
 | some (.mix sz es)=>if es.length=n then match Q1G (layD h d) es with
   | some (q,ds)=>some (.lst true sz q,id :: ds)
   | none=>none
   else none
 | some (.ali _ _ _ _)=>none
 | some (.mapE _ _)=>none
 | none=>none
theorem layD_val {h:HP} {d:Nat} {v:Value}:layD h (d+1) (.val v)=some (.val v,[]):=rfl
theorem layD_E {h:HP} {d id n:Nat}:layD h (d+1) (.own id 0 n)=layE h d id n (h id):=by
 simp only [layD,layE];cases he:h id with
 | none=>rfl
 | some e=>cases e<;>rfl
def idxC (t:Tyi) (id off n:Nat) (j:Int):Option (Nat × List (List AV))→Option (Prop × Eff)
 | some (sz,_)=>if sz=t.sz then some (0≤j∧j<n,{ v:=.adr id (off+j.toNat) 0 }) else none
 | none=>none
theorem Q81 {t:Tyi} {id off n:Nat} {k:IntKind} {j:Int} {h:HP}:Q2A (some t) (.own id off n) (.val (.int k j)) h=idxC t id off n j (cont h depth id):=by
 simp only [Q2A,idxC];cases cont h depth id<;>rfl
theorem Q80 {t:Tyi} {u:Bool} {sz:Nat} {es:List (List AV)} {k:IntKind} {j:Int} {h:HP} :
  Q2A (some t) (.lst u sz es) (.val (.int k j)) h=if sz=t.sz then some (0≤j∧j<es.length,{ v:=.rptr (es.getD j.toNat []) }) else none:=rfl
def srcE (h:HP) (sz id off n:Nat):Option Ent→Option (Prop × List (List AV) × List Nat)
 | some (.mix sz' es)=>if sz'=sz then match Q44 h ((es.drop off).take n) with
   | some (q,d)=>some (off+n≤es.length,q,d)
   | none=>none
   else none
 | some (.row sz' es)=>if sz'=sz then some (off+n≤es.length∧∀ e∈es,∀ c∈e,isVal c=true,(es.drop off).take n,[]) else none
 | some (.ali _ _ _ _)=>match cont h depth id with
   | some (sz',es)=>if sz'=sz then some (off+n≤es.length∧∀ e∈es,∀ c∈e,isVal c=true,(es.drop off).take n,[]) else none
   | none=>none
 | some (.mapE _ _)=>none
 | none=>none
theorem src_nil {h:HP} {sz:Nat}:src h sz (.val (.slice none 0 0))=some (True,[],[]):=rfl
theorem src_lst {h:HP} {sz:Nat} {u:Bool} {sz':Nat} {es:List (List AV)}:src h sz (.lst u sz' es)=if sz'=sz then some (∀ e∈es,∀ c∈e,isVal c=true,es,[]) else none:=rfl
theorem src_E {h:HP} {sz id off n:Nat}:src h sz (.own id off n)=srcE h sz id off n (h id):=by
 simp only [src,srcE];cases he:h id with
 | none=>rfl
 | some e =>
  cases e with
  | mix=>rfl
  | row sz' es =>
   have:cont h depth id=some (sz',es):=(by simp [cont,depth,he]);simp only [this]
  | mapE kd es =>
   have:cont h depth id=none:=(by simp [cont,depth,he]);simp only [this]
  | ali=>rfl
def baseE (h:HP) (sz id m:Nat):Option Ent→Option (Prop × List (List AV) × List Nat × List Nat)
 | some (.row sz' es)=>if sz'=sz then some (m≤es.length,es.take m,[id],[]) else none
 | some (.mix sz' es)=>if sz'=sz then match Q44 h (es.take m) with
   | some (q,d)=>some (m≤es.length,q,[id],d)
   | none=>none
   else none
 | some (.ali _ _ _ _)=>none
 | some (.mapE _ _)=>none
 | none=>none
theorem base_nil {h:HP} {sz:Nat}:base h sz (.val (.slice none 0 0))=some (True,[],[],[]):=rfl
theorem base_E {h:HP} {sz id m:Nat}:base h sz (.own id 0 m)=baseE h sz id m (h id):=by
 simp only [base,baseE];cases he:h id with
 | none=>rfl
 | some e=>cases e<;>rfl
def appE (t:Tyi) (n:Nat):Option (Prop × List (List AV) × List Nat × List Nat)→Option (Prop × List (List AV) × List Nat)→Option (Prop × Eff)
 | some (c1,es,i,d1),some (c2,news,d2) =>
   if (n :: (i++(d1++d2))).Nodup then
    some (c1∧c2∧(es.length+news.length) * t.bytes≤140737488355328∧es.length+news.length≤140737488355328∧0<t.sz,
     { v:=.own n 0 (es.length+news.length),del:=i++(d1++d2),new:=[(n,.row t.sz (es++news))],cnt:=1 }) else none
 | _,_=>none
theorem appendv_E {t:Tyi} {s x:AV} {h:HP} {n:Nat}:Q2e (some t) s x h n=appE t n (base h t.sz s) (src h t.sz x):=by
 simp only [Q2e,appE];cases base h t.sz s with
 | none=>rfl
 | some p=>cases src h t.sz x<;>rfl
def slcC (t:Tyi) (id off n:Nat) (lo hi:Int):Option (Nat × List (List AV))→Option (Prop × Eff)
 | some (sz,_)=>if sz=t.sz then some (0≤lo∧lo≤hi∧hi≤n,{ v:=.own id (off+lo.toNat) (hi - lo).toNat }) else none
 | none=>none
theorem Q8k {t:Tyi} {h:HP} {id off n:Nat} {lo hi:Int}:Q1K t h (.own id off n) lo hi=slcC t id off n lo hi (cont h depth id):=by
 simp only [Q1K,slcC];cases cont h depth id<;>rfl
theorem Q8j {t:Tyi} {h:HP} {u:Bool} {sz:Nat} {es:List (List AV)} {lo hi:Int} :
  Q1K t h (.lst u sz es) lo hi=if sz=t.sz then some (0≤lo∧lo≤hi∧hi≤es.length,{ v:=.lst u sz ((es.drop lo.toNat).take (hi - lo).toNat) }) else none:=rfl
@[simp] theorem hp_mk {s:List (Nat × AV)} {h:List (Nat × Ent)} {n id:Nat}:St.hp ⟨s,h,n⟩ id=look id h:=rfl
section
variable {h:HP} {d id n k i c j l off m sz:Nat} {es:List (List AV)} {t:Tyi} {x:AV} {q:Int}
@[simp] theorem contE_mix:contE h d (some (.mix sz es))=some (sz,es):=rfl
@[simp] theorem contE_row:contE h d (some (.row sz es))=some (sz,es):=rfl
def contI (h:HP) (d i k sz:Nat):Bool→Option (Nat × List (List AV))→Option (Nat × List (List AV))
 | true,_=>none
 | false,some (_,es)=>match (es.getD i []).getD k .bot with
    | .lst true sz' es'=>if sz'=sz then some (sz,es') else none
    | _=>none
 | false,none=>none
@[simp] theorem contE_ali:contE h d (some (.ali c i k sz))=contI h d i k sz (Qw (h c)) (cont h d c):=by
 simp only [contE,contI];cases Qw (h c) with
 | true=>rfl
 | false=>simp only [Bool.false_eq_true,if_false];cases cont h d c<;>rfl
@[simp] theorem contI_some {z:Nat}:contI h d i k sz false (some (z,es))=match (es.getD i []).getD k .bot with
    | .lst true sz' es'=>if sz'=sz then some (sz,es') else none
    | _=>none:=rfl
@[simp] theorem wrE_mix:wrE h d id es (some (.mix sz es))=some [(id,.mix sz es)]:=rfl
@[simp] theorem wrE_row {fs:List (List AV)}:wrE h d id es (some (.row sz fs))=some [(id,.row sz es)]:=rfl
@[simp] theorem loadC_some:Q85 t id i k n (some (sz,es))=some (i<es.length∧k+t.sz≤sz,{ v:=bif t.agg then .agg (Q10 id i k n (((es.getD i []).drop k).take t.sz)).1 else (Q10 id i k n (((es.getD i []).drop k).take t.sz)).1.getD 0 .bot,new:=(Q10 id i k n (((es.getD i []).drop k).take t.sz)).2,cnt:=t.sz }):=rfl
@[simp] theorem loadE_mix:loadE t id i k n h (some (.mix sz es))=some (i<es.length∧k+t.sz≤sz,{ v:=bif t.agg then .agg (((es.getD i []).drop k).take t.sz) else (es.getD i []).getD k .bot }):=rfl
@[simp] theorem loadE_row:loadE t id i k n h (some (.row sz es))=Q85 t id i k n (some (sz,es)):=rfl
@[simp] theorem loadE_ali:loadE t id i k n h (some (.ali c j l sz))=Q85 t id i k n (cont h depth id):=rfl
@[simp] theorem loadv_rptr {cs:List AV}:Q4W (some t) (.rptr cs) h n=some (t.sz≤cs.length,{ v:=bif t.agg then .agg (cs.take t.sz) else cs.getD 0 .bot }):=rfl
@[simp] theorem storeC_some {v:Value}:Q4P t id i k (.val v) h (some (sz,es))=if t.sz=1∧Q7r v=true then (wr h depth id (es.set i ((es.getD i []).set k (.val v)))).map (fun s=>(i<es.length∧k<sz,{ v:=.bot,set:=s })) else none:=by
 simp only [Q4P];split
 ·cases wr h depth id (es.set i ((es.getD i []).set k (.val v)))<;>rfl
 rfl
@[simp] theorem storeC_own {a b c:Nat}:Q4P t id i k (.own a b c) h (some (sz,es))=none:=rfl
@[simp] theorem storeE_mix:Q7C t id i k x h (some (.mix sz es))=if x.cells.length=t.sz && Q4Y x then
    some (i<es.length∧k+t.sz≤sz,{ v:=.bot,set:=[(id,.mix sz (es.set i (Q1n (es.getD i []) k x.cells)))] }) else none:=rfl
@[simp] theorem storeE_row:Q7C t id i k x h (some (.row sz es))=Q4P t id i k x h (cont h depth id):=rfl
@[simp] theorem storeE_ali:Q7C t id i k x h (some (.ali c j l sz))=Q4P t id i k x h (cont h depth id):=rfl
@[simp] theorem layE_row:layE h d id n (some (.row sz es))=if es.length=n then some (.lst true sz es,[id]) else none:=rfl
@[simp] theorem layE_mix:layE h d id n (some (.mix sz es))=if es.length=n then (Q1G (layD h d) es).map (fun p=>(.lst true sz p.1,id :: p.2)) else none:=by
 simp only [layE];split
 ·cases Q1G (layD h d) es<;>rfl
 rfl
@[simp] theorem idxC_some:idxC t id off n q (some (sz,es))=if sz=t.sz then some (0≤q∧q<n,{ v:=.adr id (off+q.toNat) 0 }) else none:=rfl
@[simp] theorem srcE_mix {z:Nat}:srcE h sz id off n (some (.mix z es))=if z=sz then (Q44 h ((es.drop off).take n)).map (fun p=>(off+n≤es.length,p.1,p.2)) else none:=by
 simp only [srcE];split
 ·cases Q44 h ((es.drop off).take n)<;>rfl
 rfl
@[simp] theorem srcE_row {z:Nat}:srcE h sz id off n (some (.row z es))=if z=sz then some (off+n≤es.length∧∀ e∈es,∀ c∈e,isVal c=true,(es.drop off).take n,[]) else none:=rfl
@[simp] theorem baseE_row {z:Nat}:baseE h sz id m (some (.row z es))=if z=sz then some (m≤es.length,es.take m,[id],[]) else none:=rfl
@[simp] theorem baseE_mix {z:Nat}:baseE h sz id m (some (.mix z es))=if z=sz then (Q44 h (es.take m)).map (fun p=>(m≤es.length,p.1,[id],p.2)) else none:=by
 simp only [baseE];split
 ·cases Q44 h (es.take m)<;>rfl
 rfl
@[simp] theorem appE_some {c1 c2:Prop} {is d1 d2:List Nat} {news:List (List AV)}:appE t n (some (c1,es,is,d1)) (some (c2,news,d2))=if (n :: (is++(d1++d2))).Nodup then
    some (c1∧c2∧(es.length+news.length) * t.bytes≤140737488355328∧es.length+news.length≤140737488355328∧0<t.sz,
     { v:=.own n 0 (es.length+news.length),del:=is++(d1++d2),new:=[(n,.row t.sz (es++news))],cnt:=1 }) else none:=rfl
@[simp] theorem slcC_some {lo hi:Int}:slcC t id off n lo hi (some (sz,es))=if sz=t.sz then some (0≤lo∧lo≤hi∧hi≤n,{ v:=.own id (off+lo.toNat) (hi - lo).toNat }) else none:=rfl
end
def runE (P:Program) [Kd P] (mt:MT) (all:Array Oper) (os:List Oper) (dst:Option Nat) (st:St) (K:St→Prop) (x:Option (Prop × Eff)):Prop:=Q5Y (fun st'=>QM P mt all os st' K) dst st x
def runS (P:Program) [Kd P] (mt:MT) (all:Array Oper) (os:List Oper) (dst:Option Nat) (st:St) (K:St→Prop) (t:TypeId) (av xv:AV) (x:Option (Prop × Eff)):Prop:=Q4x (fun st'=>QM P mt all os st' K) (stoA P mt all t av xv dst os st K) dst st x
def runO (P:Program) [Kd P] (mt:MT) (all:Array Oper) (os:List Oper) (dst:Option Nat) (st:St) (K:St→Prop) (op:Op):Prop:=Q52 P mt all os K (fun st'=>QM P mt all os st' K) dst st op
def Q4G (P:Program) [Kd P] (mt:MT) (all:Array Oper) (os:List Oper) (dst:Option Nat) (st:St) (K:St→Prop) (op:Op) (t:Nat) (want:Bool) (x:AV):Prop:=guardW P mt all os K (fun st'=>QM P mt all os st' K) dst st op t want x
def guardT (P:Program) [Kd P] (mt:MT) (all:Array Oper) (os:List Oper) (dst:Option Nat) (st:St) (K:St→Prop) (op:Op) (want:Bool) (x:Option Nat):Prop:=Q7Y P mt all os K (fun st'=>QM P mt all os st' K) dst st op want x
section
variable {P:Program} [Kd P] {mt:MT} {all:Array Oper} {os:List Oper} {dst:Option Nat} {st:St} {K:St→Prop} {op:Op} {ty:TypeId} {pos:String} {af:Array Edge}
@[simp] theorem runE_some {c:Prop} {e:Eff}:runE P mt all os dst st K (some (c,e))=(c∧QM P mt all os (st.app dst e) K):=rfl
@[simp] theorem callE_fn {f:Nat} {caps az:List AV}:callE P mt all az dst os st K (.fn f caps)=Q7P P mt all f (az++caps) dst os st K:=rfl
@[simp] theorem runO_call {x:Operand} {args:Array Operand} {ts:Array TypeId}:runO P mt all os dst st K (.call ⟨.value x,args,ts⟩)=callE P mt all (args.toList.map st.ev) dst os st K (st.ev x):=rfl
@[simp] theorem runO_move {x}:runO P mt all os dst st K (.move x)=QM P mt all os (st.app dst { v:=st.ev x }) K:=by simp [runO,Q52,Q5Y,opF]
@[simp] theorem runO_assign {x}:runO P mt all os dst st K (.assign x)=QM P mt all os (st.app dst { v:=st.ev x }) K:=by simp [runO,Q52,Q5Y,opF]
@[simp] theorem runO_pick {c a b}:runO P mt all os dst st K (.pick c a b)=runE P mt all os dst st K (pick (st.ev c) (st.ev a) (st.ev b)):=rfl
@[simp] theorem runO_alloc {e}:runO P mt all os dst st K (.alloc e)=runE P mt all os dst st K (Vc.alloc (tyi P e) st.n):=rfl
@[simp] theorem runO_box {t x}:runO P mt all os dst st K (.box t x)=runE P mt all os dst st K (boxv (st.ev x) st.n):=rfl
@[simp] theorem runO_build {t parts}:runO P mt all os dst st K (.build t parts)=runE P mt all os dst st K (build (tyi P t) (Q4c P t) (parts.toList.map fun p=>(p.1,st.ev p.2))):=rfl
def elmE (g:TypeId→Option (Prop × Eff)):Option TypeId→Option (Prop × Eff)
 | some e=>g e
 | none=>none
@[simp] theorem elmE_some {g:TypeId→Option (Prop × Eff)} {e:TypeId}:elmE g (some e)=g e:=rfl
@[simp] theorem runO_buildSlice {t len parts}:runO P mt all os dst st K (.buildSlice t len parts)=runE P mt all os dst st K (elmE (fun e=>buildSlice (tyi P e) len (parts.toList.map fun p=>(p.1,st.ev p.2)) st.n) (elm P t)):=by
 simp only [runO,runE,Q52,opF];cases elm P t<;>rfl
@[simp] theorem runO_load {t a}:runO P mt all os dst st K (.load t a)=runE P mt all os dst st K (Q4W (tyi P t) (st.ev a) st.hp st.n):=rfl
@[simp] theorem runO_store {t a x}:runO P mt all os dst st K (.store t a x)=runS P mt all os dst st K t (st.ev a) (st.ev x) (Q3k (tyi P t) (st.ev a) (st.ev x) st.hp):=rfl
@[simp] theorem runS_some {t:TypeId} {av xv:AV} {c:Prop} {e:Eff}:runS P mt all os dst st K t av xv (some (c,e))=(c∧QM P mt all os (st.app dst e) K):=rfl
@[simp] theorem runS_none {t:TypeId} {av xv:AV}:runS P mt all os dst st K t av xv none=stoA P mt all t av xv dst os st K:=rfl
@[simp] theorem runO_nilCheck {x}:runO P mt all os dst st K (.nilCheck x)=runE P mt all os dst st K (nilCheck (st.ev x)):=rfl
@[simp] theorem runO_binOp {o xt x y yt}:runO P mt all os dst st K (.binOp o xt x y yt)=runE P mt all os dst st K (Q3X (eqT P xt) o (st.ev x) (st.ev y)):=rfl
@[simp] theorem runO_unOp {o t x}:runO P mt all os dst st K (.unOp o t x)=runE P mt all os dst st K (unop o (st.ev x)):=rfl
@[simp] theorem runO_convert {s d x}:runO P mt all os dst st K (.convert s d x)=runE P mt all os dst st K (Q5S (intk P s) (intk P d) (st.ev x)):=rfl
@[simp] theorem runO_makeSlice {t l c}:runO P mt all os dst st K (.makeSlice t l c)=runE P mt all os dst st K (elmE (fun e=>Q4K (tyi P e) (st.ev l) (st.ev c) st.n) (elm P t)):=by
 simp only [runO,runE,Q52,opF];cases elm P t<;>rfl
@[simp] theorem runO_fieldAddr {t x k}:runO P mt all os dst st K (.fieldAddr t x k)=runE P mt all os dst st K (fieldAddr (fld P t k) (st.ev x)):=rfl
@[simp] theorem runO_field {t x k}:runO P mt all os dst st K (.field t x k)=runE P mt all os dst st K (Q5j (fld P t k) (st.ev x)):=rfl
@[simp] theorem runO_indexAddr {t x i}:runO P mt all os dst st K (.indexAddr t x i)=runE P mt all os dst st K (elmE (fun e=>Q2A (tyi P e) (st.ev x) (st.ev i) st.hp) (elm P t)):=by
 simp only [runO,runE,Q52,opF];cases elm P t<;>rfl
@[simp] theorem runO_extract {x k}:runO P mt all os dst st K (.extract x k)=runE P mt all os dst st K (Q2V (st.ev x) k):=rfl
@[simp] theorem runO_len {x t ts} (h:ts = #[t]):runO P mt all os dst st K (.call ⟨.builtin .len,#[x],ts⟩)=runE P mt all os dst st K (elmE (fun _=>lenv (st.ev x)) (elm P t)):=by
 subst h;simp only [runO,runE,Q52,opF,bltF];cases elm P t<;>rfl
@[simp] theorem runO_append {x y t u}:runO P mt all os dst st K (.call ⟨.builtin .append,#[x,y],#[t,u]⟩)=runE P mt all os dst st K (elmE (fun e=>if t=u then Q2e (tyi P e) (st.ev x) (st.ev y) st.hp st.n else none) (elm P t)):=by
 simp only [runO,runE,Q52,opF,bltF];cases elm P t<;>rfl
@[simp] theorem runO_min {xs ts}:runO P mt all os dst st K (.call ⟨.builtin .min,xs,ts⟩)=runE P mt all os dst st K (Q3D (fun a b=>if b<a then b else a) (xs.toList.map st.ev)):=rfl
@[simp] theorem runO_max {xs ts}:runO P mt all os dst st K (.call ⟨.builtin .max,xs,ts⟩)=runE P mt all os dst st K (Q3D (fun a b=>if b > a then b else a) (xs.toList.map st.ev)):=rfl
@[simp] theorem runOps_nil:QM P mt all [] st K=K st:=rfl
@[simp] theorem runOps_go:QM P mt all (⟨dst,op,ty,pos,af,none⟩ :: os) st K=runO P mt all os dst st K op:=rfl
@[simp] theorem runOps_guard {j:Nat} {want:Bool}:QM P mt all (⟨dst,op,ty,pos,af,some (j,want)⟩ :: os) st K=guardT P mt all os dst st K op want ((all[j]?).bind (·.dst)):=rfl
@[simp] theorem guardT_some {want:Bool} {t:Nat}:guardT P mt all os dst st K op want (some t)=Q4G P mt all os dst st K op t want (st.get t):=rfl
theorem Qi {want:Bool} {t:Nat} {b:Bool}:Q4G P mt all os dst st K op t want (.val (.bool b))=((b=want→runO P mt all os dst (st.put t (.val (.bool want))) K op)∧(b = !want→QM P mt all os ((st.put t (.val (.bool !want))).app dst { v:=.tup [] }) K)):=rfl
attribute [local simp] Qi
@[simp high] theorem guardE_tup {t:Nat} {want:Bool}:Q4G P mt all os dst st K op t want (.tup [])=QM P mt all os (st.app dst { v:=.tup [] }) K:=rfl
@[simp high] theorem guardE_tt {t:Nat}:Q4G P mt all os dst st K op t true (.val (.bool true))=runO P mt all os dst (st.put t (.val (.bool true))) K op:=by simp [Qi]
@[simp high] theorem guardE_ff {t:Nat}:Q4G P mt all os dst st K op t false (.val (.bool false))=runO P mt all os dst (st.put t (.val (.bool false))) K op:=by simp [Qi]
@[simp high] theorem guardE_tf {t:Nat}:Q4G P mt all os dst st K op t true (.val (.bool false))=QM P mt all os ((st.put t (.val (.bool false))).app dst { v:=.tup [] }) K:=by simp [Qi]
@[simp high] theorem guardE_ft {t:Nat}:Q4G P mt all os dst st K op t false (.val (.bool true))=QM P mt all os ((st.put t (.val (.bool true))).app dst { v:=.tup [] }) K:=by simp [Qi]
end
attribute [simp] cont_E wr_E loadv_E storev_E layD_val layD_E Q81 Q80 src_nil src_lst src_E base_nil base_E appendv_E Q8k Q8j
attribute [simp] rl rlL rlLL rlE Q7r St.ev cst scB St.app putS Q4O Q42 Q3A St.get look lenv Q3X Q9h unop pick St.put setH delH fieldAddr Q5j nilCheck depth Qw Q3U Q5f roundA Q4K Q5S Q2V slen Q6g Q3D Q9u build Q5U Q1n Q72 rep Q4F buildSlice Q1Z Q1G layC alloc boxv Q10 AV.cells isVal Q4Y
section
attribute [local simp] Qi QG Qp
def Q4u:Nat→List Mu→List (Nat × Ent)
 | _,[]=>[]
 | j,u :: r=>(j,.row u.sz u.es) :: Q4u (j+1) r
theorem Q9A:∀ (ms:List Mu) (j id:Nat),look id (Q4u j ms)=if j≤id∧id<j+ms.length then some (.row (ms.getD (id - j) .none).sz (ms.getD (id - j) .none).es) else none:=by
 intro ms
 induction ms with
 | nil=>intro j id;simp only [Q4u,look];rw [if_neg (by simp)]
 | cons u r ih =>
  intro j id;simp only [Q4u,look]
  by_cases h:j=id
  ·subst h;simp
  rw [if_neg h,ih]
  by_cases h2:j+1≤id∧id<j+1+r.length
  ·rw [if_pos h2,if_pos (by simp;omega)];have:id - j=(id - (j+1))+1:=(by omega);rw [this,List.getD_cons_succ]
  rw [if_neg h2,if_neg (by simp;omega)]
def Q9J (ts:List Nat) (st:St) (res:AV):Prop :=
 match ts,res with
 | [t],.val v=>st.get t = .val v
 | [],.tup []=>True
 | _,_=>False
structure MRet (ts:List Nat) (res:AV) (ms:List Mu) (st:St):Prop where
 res:Q9J ts st res
 ent:∀ j,j<ms.length→look j st.h=some (.row (ms.getD j .none).sz (ms.getD j .none).fs)
def mretQ (ts:List Nat) (res:AV) (ms:List Mu):Exit→St→Prop
 | .normal,st=>MRet ts res ms st
 | .ret,st=>MRet ts res ms st
 | _,_=>False
theorem Q1e {P:Program} [Kd P] {f:Nat} {fn:Func} {c:Code} {args:List AV} {ms:List Mu} {ts:List Nat} {res:AV} {rv:Value} (hf:P.funcs[f]? = some fn) (hb:fn.body=some c) (hrt:resT fn.results=some ts) (hrv:resV res=some rv)
  (hname : (fn.name == "runtime.NumGoroutine") = false) (hN : args.length ≤ fn.ntmps) (hlen : ∀ j, j < ms.length → (ms.getD j .none).fs.length = (ms.getD j .none).es.length)
  (h:∀ F:Fx,F.N=fn.ntmps→F.pins=ms.length→Wp P F c (mretQ ts res ms) ⟨Q3A 0 args,Q4u 0 ms,ms.length⟩):MContract P f args ms res:=by
 refine ⟨⟨fn,hf,hname,by rw [hb];rfl⟩,hlen,rv,hrv,fun w R o ρ vals hp=>?_⟩;refine Q2f hf hb ?_
 let C:Ctx:=⟨w,fun b=>∃ L,o b=some L,ρ,ms.length⟩
 have hment:∀ id e,look id (Q4u 0 ms)=some e→id<ms.length∧e = .row (ms.getD id .none).sz (ms.getD id .none).es:=by
  intro id e he;rw [Q9A] at he;split at he
  ·rename_i h1;simp only [Nat.sub_zero,Option.some.injEq] at he;exact ⟨by omega,he.symm⟩
  cases he
 have hsz:=hp.size;have hrel:Rel C R fn.ntmps { tmps:=vals++Array.replicate (fn.ntmps - vals.size) undef,defers:=[] } w ⟨Q3A 0 args,Q4u 0 ms,ms.length⟩:=by
  refine ⟨by simp;omega,rfl,fun id x h=>(hment id x h).1,o,ρ,⟨hp.hR,fun b L hb=>⟨hp.ho b L hb,.inr ⟨L,hb⟩⟩,rfl,⟨rfl,Nat.le_refl _⟩,rfl,Nat.le_refl _,fun b _ _=>rfl⟩,
   ⟨fun id sz es bk he hb=>?_,fun id sz es bk he hb=>?_,fun id c i k sz bk he hb=>?_,fun id kd es bk he hb=>?_⟩,fun t=>?_,fun id k hk=>hp.lim id k hk,fun id _=>rfl,Nat.le_refl _⟩
  ·have:=(hment id _ he).2;cases this
  ·obtain ⟨h1,h2⟩:=hment id _ he;cases h2;obtain ⟨v,h3,h4⟩:=hp.ent id bk h1 hb;exact ⟨v,h4,h3⟩
  ·have:=(hment id _ he).2;cases this
  ·have:=(hment id _ he).2;cases this
  simp only [St.get,Q2J]
  by_cases ht:t<args.length
  ·rw [if_pos (by omega)];simp only [Nat.sub_zero,Option.getD_some];have:=hp.args t ht;have h2:(vals++Array.replicate (fn.ntmps - vals.size) undef).getD t undef=vals.getD t undef:=by
    simp [Array.getElem?_append,show t<vals.size by omega]
   rw [h2];exact this
  rw [if_neg (by omega)];exact .bot
 refine Q4o (fun e a w' hq=>?_) (h ⟨C,R,fn.ntmps,ms.length,rfl⟩ rfl rfl _ w (.of hrel));obtain ⟨st,⟨R',hX,hr⟩,hq⟩:=hq;have fin:MRet ts res ms st→a.defers=[]∧∃ v,(results fn a.tmps).run P w' = .ok v w'∧(Ending.returned v = .returned rv∧MPost w w' R o ρ ms):=by
  intro hA;obtain ⟨_,hdef,_,o',ρ',W,H,hx,_,hpin⟩:=hr;refine ⟨hdef,_,Q3N hrt _,?_,W.os,W.tape,W.output,W.size,fun b hb hob=>W.keep b hb (by rintro ⟨L,hL⟩;rw [hob] at hL;cases hL),o',fun b L hb=>W.o b L hb,fun j bk hj hbk=>?_⟩
  ·have h1:=hA.res;unfold Q9J at h1;split at h1
   ·rename_i t v;have h2:=hx t;rw [h1] at h2;simp only [resV] at hrv;split at hrv
    ·cases hrv;simp only [List.map_cons,List.map_nil,Q2q];rw [h2.val_eq.1]
    cases hrv
   ·simp only [resV,Option.some.injEq] at hrv;subst hrv;rfl
   exact h1.elim
  obtain ⟨v,h1,h2⟩:=H.row j _ _ bk (hA.ent j hj) ((hpin.1 j hj).trans hbk);exact ⟨v,h2,h1.anyR⟩
 cases e with
 | normal=>exact fin hq
 | ret=>exact fin hq
 | _=>exact hq.elim
def Q5V:Ent→Bool
 | .ali _ _ _ _=>true
 | _=>false
theorem MCall.cell {st:St} {id r i k sz szr:Nat} {es fs:List (List AV)} {esr:List (List AV)} {dels:List Nat} (h1:look id st.h=some (.ali r i k sz)) (h2:look r st.h=some (.row szr esr)) (hi:i<esr.length) (hk:k<szr) (hks:k<(esr.getD i []).length)
  (hc:(esr.getD i []).getD k .bot = .lst true sz es) (hd:∀ x∈dels,x<st.n) (ha:∀ p∈st.h,Q5V p.2=true→p.1∈dels) :
  MCall st.hp st.n [⟨sz,es,fs⟩] [id] (fun _=>[r,i,k]) [(r,.row szr (esr.set i ((esr.getD i []).set k (.lst true sz fs))))] dels:=by
 have h0:∀ j,j < [(⟨sz,es,fs⟩:Mu)].length→j=0:=fun j hj=>by simpa using hj
 have hset:=fun j l=>Q4d esr i k (.lst true sz fs) j l hi hks;refine ⟨rfl,fun j hj=>?_,fun i' j hi' hj hij=>?_,by simp,fun r' e he=>?_,fun j r' M hj hP=>?_,hd,fun id' c i' k' s' hid he=>.inl ?_⟩
 ·have:=h0 j hj;subst this;exact .cell h1 h2 hi hk hc
 ·have:=h0 j hj;have:=h0 i' hi';omega
 ·simp only [look] at he;split at he
  ·rename_i hr;subst hr;simp only [Option.some.injEq] at he;subst he;refine ⟨szr,esr,_,h2,rfl,⟨fun j hj hP=>by simp at hP,by simp,fun _ j hj=>by rw [Q6F],fun i2 k2 j hj hP hi2 hk2=>?_,fun i2 k2 hi2 hk2 hm=>?_⟩⟩
   ·have:=h0 j hj;subst this;simp only [List.cons.injEq,and_true,true_and] at hP;rw [hset];rw [if_pos ⟨hP.1.symm,hP.2.symm⟩];rfl
   rw [hset];rw [if_neg]
   rintro ⟨rfl,rfl⟩
   exact (hm 0 (by simp)).2 rfl
  cases he
 ·simp only [List.cons.injEq] at hP;simp [look,hP.1]
 exact ha (id',_) (Ql he) rfl
def Q3L:List Nat→List Mu→List (Nat × Ent)
 | id :: m,u :: ms=>(id,.row u.sz u.fs) :: Q3L m ms
 | _,_=>[]
theorem Q4w:∀ (m:List Nat) (ms:List Mu),m.length=ms.length→(Q3L m ms).map Prod.fst=m:=by
 intro m
 induction m with
 | nil=>intro ms _;cases ms<;>rfl
 | cons id m ih =>
  intro ms h;cases ms with
  | nil=>simp at h
  | cons u ms=>simp [Q3L,ih ms (by simpa using h)]
theorem Q9K:∀ (m:List Nat) (ms:List Mu) (r:Nat) (e:Ent),m.length=ms.length→look r (Q3L m ms)=some e→∃ j,j<ms.length∧m.getD j 0=r∧e = .row (ms.getD j .none).sz (ms.getD j .none).fs:=by
 intro m
 induction m with
 | nil=>intro ms r e _ h;cases ms<;>cases h
 | cons id m ih =>
  intro ms r e hl h;cases ms with
  | nil=>simp at hl
  | cons u ms =>
   simp only [Q3L,look] at h;split at h
   ·rename_i hr;cases h;exact ⟨0,by simp,by simpa using hr,rfl⟩
   obtain ⟨j,h1,h2,h3⟩:=ih ms r e (by simpa using hl) h;exact ⟨j+1,by simpa using h1,by simpa using h2,by simpa using h3⟩
theorem Q8L {m:List Nat} (hn:m.Nodup) {i j:Nat} (hi:i<m.length) (hj:j<m.length) (h:m.getD i 0=m.getD j 0):i=j:=by
 rw [List.getD_eq_getElem?_getD,List.getD_eq_getElem?_getD,List.getElem?_eq_getElem hi,List.getElem?_eq_getElem hj] at h;exact (List.getElem_inj hn).1 (by simpa using h)
theorem MCall.roots {st:St} {ms:List Mu} {m:List Nat} {dels:List Nat} (hl:m.length=ms.length) (hn:m.Nodup) (hr:∀ j,j<ms.length→look (m.getD j 0) st.h=some (.row (ms.getD j .none).sz (ms.getD j .none).es))
  (hlen:∀ j,j<ms.length→(ms.getD j .none).fs.length=(ms.getD j .none).es.length) (hd:∀ x∈dels,x<st.n) (ha:∀ p∈st.h,Q5V p.2=true→p.1∈dels) :
  MCall st.hp st.n ms m (fun j=>[m.getD j 0]) (Q3L m ms) dels:=by
 refine ⟨hl,fun j hj=>.root (hr j hj),fun i j hi hj hij hp=>?_,by rw [Q4w m ms hl];exact hn,fun r e he=>?_,fun j r M hj hP=>?_,hd,fun id' c i' k' s' hid he=>.inl ?_⟩
 ·have h1:m.getD i 0=m.getD j 0:=by simpa using hp
  exact hij (Q8L hn (by omega) (by omega) h1)
 ·obtain ⟨j,h1,h2,h3⟩:=Q9K m ms r e hl he;refine ⟨_,(ms.getD j .none).es,(ms.getD j .none).fs,by rw [← h2];exact hr j h1,h3,⟨fun j' hj' hP=>?_,hlen j h1,fun hne=>?_,fun i k j' hj' hP=>?_,fun i k hi hk hm=>?_⟩⟩
  ·have h4:m.getD j' 0=m.getD j 0:=(by rw [h2];simpa using hP);rw [Q8L hn (by omega) (by omega) h4]
  ·exact absurd (by rw [h2]) (hne j h1)
  ·simp at hP
  exact absurd (by rw [h2]) (hm j h1).1
 ·simp only [List.cons.injEq] at hP;have hk:r∈(Q3L m ms).map Prod.fst:=by
   rw [Q4w m ms hl,← hP.1,List.getD_eq_getElem?_getD,List.getElem?_eq_getElem (by omega)];simp
  cases hlk:look r (Q3L m ms) with
  | some x=>rfl
  | none =>
   exfalso;obtain ⟨q,hq,hqe⟩:=List.mem_map.1 hk;obtain ⟨a,b⟩:=q;simp only at hqe;subst hqe;rw [Q1a (by rw [Q4w m ms hl];exact hn) hq] at hlk;cases hlk
 exact ha (id',_) (Ql he) rfl
theorem Q1O {P:Program} [Kd P] {all:Array Oper} {f:Nat} {id n:Nat} {v:Value} {u:Mu} {res:AV} {dst:Option Nat} {os:List Oper} {st:St} {K:St→Prop} (hc:MContract P f [.own 0 0 n,.val v] [u] res)
  (hr:look id st.h=some (.row u.sz u.es)) (ha:∀ p∈st.h,Q5V p.2=false) (h:QM P true all os (st.app dst { v:=res,set:=[(id,.row u.sz u.fs)] }) K):Q7P P true all f [.own id 0 n,.val v] dst os st K:=by
 have h0:∀ j,j < [u].length→j=0:=fun j hj=>by simpa using hj
 refine Q5g (m:=[id]) hc (MCall.roots (dels:=[]) rfl (by simp) (fun j hj=>by have:=h0 j hj;subst this;exact hr) hc.len (by simp) (fun p hp hi=>by rw [ha p hp] at hi;cases hi)) rfl (fun q hq=>?_) (fun j hj=>⟨0,by simp,?_⟩) h
 ·match q,hq with
  | 0,_=>exact .own (j:=0) (by simp)
  | 1,_=>exact .val
 have:=h0 j hj;subst this;rfl
theorem stoA_row {P:Program} [Kd P] {mt:MT} {all:Array Oper} {t:TypeId} {ty:Tyi} {xv b:AV} {id i k sz:Nat} {es:List (List AV)} {ds:List Nat} {dst:Option Nat} {os:List Oper} {st:St} {K:St→Prop} (dels:List Nat) (h1:tyi P t=some ty) (h2:ty.sz=1)
  (he:look id st.h=some (.row sz es)) (hl:layC st.hp xv=some (b,ds)) (hi:i<es.length) (hk:k<sz) (hn:(id :: ds).Nodup) (hlt:∀ y∈ds++dels,y<st.n) (ha:∀ p∈st.h,Q5V p.2=true→p.1∈dels)
  (h:QM P mt all os (st.app dst { v:=.bot,set:=[(id,.row sz (es.set i ((es.getD i []).set k b)))],del:=ds++dels }) K):stoA P mt all t (.adr id i k) xv dst os st K :=
 Q9Z dels h1 h2 ⟨he,hl,hi,hk,hn,hlt,fun id' _ _ _ _ _ h3=>.inl (ha (id',_) (Ql h3) rfl)⟩ h
attribute [simp] Q5V Q4u Q9J
end
section
attribute [local simp] Qi QG Qp
theorem PurTo.aggL {h:HP} {xs ys:List AV} (hp:PurL h xs ys):PurTo h (.agg xs) (.agg ys):=.agg hp.1 hp.2
inductive MArgL (m:List Nat):List AV→List AV→Prop
 | nil:MArgL m [] []
 | cons {a b xs ys}:MArg m a b→MArgL m xs ys→MArgL m (a :: xs) (b :: ys)
theorem MArgL.get {m:List Nat} {xs ys:List AV} (h:MArgL m xs ys):xs.length=ys.length∧∀ k,k<ys.length→MArg m (xs.getD k .bot) (ys.getD k .bot):=by
 induction h with
 | nil=>exact ⟨rfl,fun k hk=>by simp at hk⟩
 | cons h _ ih =>
  refine ⟨by simp [ih.1],fun k hk=>?_⟩;cases k with
  | zero=>simpa using h
  | succ k=>simpa using ih.2 k (by simpa using hk)
theorem MArg.aggL {m:List Nat} {xs ys:List AV} (h:MArgL m xs ys):MArg m (.agg xs) (.agg ys):=.agg h.get.1 fun k hk=>h.get.2 k (by have:=h.get.1;omega)
inductive Roots (h:List (Nat × Ent)):List Nat→List Mu→Prop
 | nil:Roots h [] []
 | cons {id u m ms}:look id h=some (.row u.sz u.es)→Roots h m ms→Roots h (id :: m) (u :: ms)
theorem Roots.get {h:List (Nat × Ent)} {m:List Nat} {ms:List Mu} (hr:Roots h m ms):m.length=ms.length∧∀ j,j<ms.length→look (m.getD j 0) h=some (.row (ms.getD j .none).sz (ms.getD j .none).es):=by
 induction hr with
 | nil=>exact ⟨rfl,fun j hj=>by simp at hj⟩
 | cons h _ ih =>
  refine ⟨by simp [ih.1],fun k hk=>?_⟩;cases k with
  | zero=>simpa using h
  | succ k=>simpa using ih.2 k (by simpa using hk)
def occC (id:Nat):AV→Bool
 | .own i _ _=>Nat.beq i id
 | _=>false
def occB (id:Nat):AV→Bool
 | .own i _ _=>Nat.beq i id
 | .agg cs=>cs.any (occC id)
 | _=>false
theorem occC_own {id:Nat} {a:AV} (h:occC id a=true):∃ off n,a = .own id off n:=by
 unfold occC at h;split at h
 ·cases Nat.eq_of_beq_eq_true h;exact ⟨_,_,rfl⟩
 cases h
theorem occB_occ {id:Nat} {a:AV} (h:occB id a=true):Occ id a:=by
 unfold occB at h;split at h
 ·exact Nat.eq_of_beq_eq_true h
 ·rename_i cs;obtain ⟨x,hx,hc⟩:=List.any_eq_true.1 h;obtain ⟨l,hl,rfl⟩:=List.getElem_of_mem hx;obtain ⟨off,n,he⟩:=occC_own hc;exact ⟨l,hl,off,n,by simp [List.getD_eq_getElem?_getD,hl,he]⟩
 cases h
theorem Q1P {P:Program} [Kd P] {all:Array Oper} {f:Nat} {az args:List AV} {m:List Nat} {ms:List Mu} {res:AV} {dst:Option Nat} {os:List Oper} {st:St} {K:St→Prop} (hc:MContract P f args ms res)
  (hn:m.Nodup) (hr:Roots st.h m ms) (ha:MArgL m az args) (ho:(m.all fun id=>az.any (occB id))=true) (hali:∀ p∈st.h,Q5V p.2=false)
  (h:QM P true all os (st.app dst { v:=res,set:=Q3L m ms }) K):Q7P P true all f az dst os st K:=by
 refine Q5g (m:=m) hc (MCall.roots (dels:=[]) hr.get.1 hn hr.get.2 hc.len (by simp) (fun p hp hi=>by rw [hali p hp] at hi;cases hi)) ha.get.1 ha.get.2 (fun j hj=>?_) h;have hj':j<m.length:=by rw [hr.get.1];exact hj
 have:=List.all_eq_true.1 ho _ (List.getElem_mem hj');obtain ⟨a,ha1,ha2⟩:=List.any_eq_true.1 this;obtain ⟨k,hk,rfl⟩:=List.getElem_of_mem ha1;refine ⟨k,by rw [← ha.get.1];exact hk,?_⟩;have:=occB_occ ha2;simpa [List.getD_eq_getElem?_getD,hj',hk] using this
inductive Ents (h:List (Nat × Ent)):Nat→List Mu→Prop
 | nil {j}:Ents h j []
 | cons {j u ms}:look j h=some (.row u.sz u.fs)→Ents h (j+1) ms→Ents h j (u :: ms)
theorem Ents.get {h:List (Nat × Ent)} {j:Nat} {ms:List Mu} (he:Ents h j ms):∀ i,i<ms.length→look (j+i) h=some (.row (ms.getD i .none).sz (ms.getD i .none).fs):=by
 induction he with
 | nil=>intro i hi;simp at hi
 | cons h _ ih =>
  intro i hi;cases i with
  | zero=>simpa using h
  | succ i=>have:=ih i (by simpa using hi);simpa [Nat.add_comm,Nat.add_left_comm] using this
theorem mret {ts:List Nat} {res:AV} {ms:List Mu} {st:St} (h1:Q9J ts st res) (h2:Ents st.h 0 ms):MRet ts res ms st:=⟨h1,fun j hj=>by simpa using h2.get j hj⟩
end
section
attribute [local simp] Qi QG Qp
structure IRet (ts:List Nat) (H:List (Nat × Ent)) (n:Nat) (e:Eff) (st:St):Prop where
 res:Q1N (ts.map st.get)=e.v
 n:st.n=n+e.cnt
 h:st.h=Q4O e.set (Q42 e.del H)++e.new
end
section
attribute [local simp] Qi QG Qp
inductive RGet (P:Program) (st:St):List ResultVar→List AV→Prop
 | nil:RGet P st [] []
 | tmp {t r az}:RGet P st r az→RGet P st (.tmp t :: r) (st.get t :: az)
 | cell {a t ty id i k sz es r az}:tyi P t=some ty→ty.agg=true→st.get a = .adr id i k→look id st.h=some (.mix sz es)→i<es.length→k+ty.sz≤sz→RGet P st r az →
   RGet P st (.cell a t :: r) (.agg (((es.getD i []).drop k).take ty.sz) :: az)
 | cell1 {a t ty id i k sz es r az}:tyi P t=some ty→ty.agg=false→0<ty.sz→st.get a = .adr id i k→look id st.h=some (.mix sz es)→i<es.length→k+ty.sz≤sz→RGet P st r az →
   RGet P st (.cell a t :: r) ((es.getD i []).getD k .bot :: az)
def resM (tmps:Array Value):ResultVar→Sem Value
 | .tmp t=>pure (tmps.getD t undef)
 | .cell a t=>do loadVar t (← asAddr (tmps.getD a undef))
theorem rget_run {P:Program} [Kd P] {R:Nat→Prop} {w:World} {st:St} {o:Nat→Option (List Nat)} {ρ:Nat→Option Bk} (H:HRel w ⟨R,o,ρ⟩ st.hp) {tmps:Array Value} (hx:∀ t,XRel w R ρ (tmps.getD t undef) (st.get t))
  {rvs:List ResultVar} {az:List AV} (hg:RGet P st rvs az):∃ vs:List Value,(rvs.mapM (resM tmps)).run P w = .ok vs w∧vs.length=az.length∧∀ k,k<az.length→XRel w R ρ (vs.getD k undef) (az.getD k .bot):=by
 induction hg with
 | nil=>exact ⟨[],by simp,rfl,fun k hk=>by simp at hk⟩
 | @tmp t r az _ ih =>
  obtain ⟨vs,h1,h2,h3⟩:=ih;refine ⟨tmps.getD t undef :: vs,by simp [List.mapM_cons,resM,h1],by simp [h2],fun k hk=>?_⟩;cases k with
  | zero=>exact hx t
  | succ k=>exact h3 k (by simpa using hk)
 | @cell a t ty id i k sz es r az hty hag ha hl hi hk _ ih =>
  obtain ⟨vs,h1,h2,h3⟩:=ih;have hxa:=hx a;rw [ha] at hxa;obtain ⟨b,bsz,cap,hbk,hv⟩:=hxa.adr_eq;obtain ⟨b',cur,el,us,cpm,hbk',ho',hh,hsz',hcp,hml,hlen,hcur,hone,hxr⟩:=(H.mix id sz es _ hl hbk).ex (by simp);simp only [Bk.mk.injEq,Option.some.injEq] at hbk';obtain ⟨rfl,rfl,_⟩:=hbk';have hrun:=Q3M (P:=P) (w:=w) hty (b:=b) (x:=i * bsz+k) (us:=fun j=>us i (k+j)) (fun j hj=>by
   rw [QX hh,Nat.add_assoc];exact hcur i (k+j) hi (by omega))
  rw [hag] at hrun;simp only [cond_true] at hrun;have hlen2:(((es.getD i []).drop k).take ty.sz).length=ty.sz:=by rw [List.length_take,List.length_drop,hlen i hi];omega
  have hX:XRel w R ρ (.agg ((List.range ty.sz).map fun j=>us i (k+j)).toArray) (.agg (((es.getD i []).drop k).take ty.sz)):=by
   refine .agg (by rw [hlen2];simp) ?_ ?_
   ·intro j hj;rw [hlen2] at hj;rw [Q1c _ _ _ hj];exact hone _ _ hi (by omega)
   intro j hj;rw [hlen2] at hj;rw [Q1c _ _ _ hj];have:=hxr i (k+j) hi (by omega);simpa [List.getD_eq_getElem?_getD,List.getElem?_take,List.getElem?_drop,hj] using this
  have hv2:tmps.getD a undef = .pointer (some ⟨b,i * bsz+k,none⟩):=hv;refine ⟨.agg ((List.range ty.sz).map fun j=>us i (k+j)).toArray :: vs,?_,by simp [h2],fun j hj=>?_⟩
  ·rw [List.mapM_cons];simp [resM,hv2,asAddr,hrun,h1]
  cases j with
  | zero=>exact hX
  | succ j=>exact h3 j (by simpa using hj)
 | @cell1 a t ty id i k sz es r az hty hag h0 ha hl hi hk _ ih =>
  obtain ⟨vs,h1,h2,h3⟩:=ih;have hxa:=hx a;rw [ha] at hxa;obtain ⟨b,bsz,cap,hbk,hv⟩:=hxa.adr_eq;obtain ⟨b',cur,el,us,cpm,hbk',ho',hh,hsz',hcp,hml,hlen,hcur,hone,hxr⟩:=(H.mix id sz es _ hl hbk).ex (by simp);simp only [Bk.mk.injEq,Option.some.injEq] at hbk';obtain ⟨rfl,rfl,_⟩:=hbk';have hrun:=Q3M (P:=P) (w:=w) hty (b:=b) (x:=i * bsz+k) (us:=fun j=>us i (k+j)) (fun j hj=>by
   rw [QX hh,Nat.add_assoc];exact hcur i (k+j) hi (by omega))
  rw [hag] at hrun;simp only [cond_false,Nat.add_zero] at hrun;have hv2:tmps.getD a undef = .pointer (some ⟨b,i * bsz+k,none⟩):=hv;refine ⟨us i k :: vs,?_,by simp [h2],fun j hj=>?_⟩
  ·rw [List.mapM_cons];simp [resM,hv2,asAddr,hrun,h1]
  cases j with
  | zero=>exact hxr i k hi (by omega)
  | succ j=>exact h3 j (by simpa using hj)
theorem Q7w {P:Program} [Kd P] {w:World} {fn:Func} {rvs:List ResultVar} {tmps:Array Value} {vs:List Value} (hr:fn.results=rvs.toArray) (h:(rvs.mapM (resM tmps)).run P w = .ok vs w):(results fn tmps).run P w = .ok (Q2q vs) w:=by
 have e:results fn tmps=(do let vs ← fn.results.mapM (resM tmps);pure (if h:vs.size=1 then vs[0] else .tuple vs)):=by
  unfold results
  congr 1
 rw [e,hr,List.mapM_toArray];simp only [map_eq_pure_bind];simp [h];rcases vs with _|⟨v,_|⟨u,r⟩⟩
 ·simp [Q2q]
 ·simp [Q2q]
 simp [Q2q]
structure RetG (P:Program) (rvs:List ResultVar) (st:St) (rs:List AV):Prop where
 ex:∃ az,RGet P st rvs az∧RetV az st rs
def retGQ (P:Program) (rvs:List ResultVar) (rs:List AV):Exit→St→Prop
 | .normal,st=>RetG P rvs st rs
 | .ret,st=>RetG P rvs st rs
 | _,_=>False
theorem Q38 {P:Program} [Kd P] {f:Nat} {fn:Func} {c:Code} {args:List AV} {rvs:List ResultVar} {rs:List AV} {res:AV} (hf:P.funcs[f]? = some fn) (hb:fn.body=some c) (hrt:fn.results=rvs.toArray) (hrs:res=Q1N rs)
  (hname : (fn.name == "runtime.NumGoroutine") = false) (hN : args.length ≤ fn.ntmps) (h : ∀ F : Fx, F.N = fn.ntmps → F.pins = 0 → (∀ b, ¬ F.C.wrb b) → Wp P F c (retGQ P rvs rs) ⟨Q3A 0 args, [], 0⟩) : Contract P f args res := by
 subst hrs;refine ⟨⟨fn,hf,hname,by rw [hb];rfl⟩,fun w R vals hR hsz hx=>?_⟩;refine Q2f hf hb ?_
 let C:Ctx:=⟨w,fun _=>False,fun _=>none,0⟩
 have hrel:Rel C R fn.ntmps { tmps:=vals++Array.replicate (fn.ntmps - vals.size) undef,defers:=[] } w ⟨Q3A 0 args,[],0⟩:=by
  refine ⟨by simp;omega,rfl,(fun id x h=>by cases h),fun _=>none,noρ,⟨fun b hb=>⟨hR b hb,rfl⟩,(fun b L hb=>by cases hb),rfl,⟨rfl,Nat.le_refl _⟩,rfl,Nat.le_refl _,fun b _ _=>rfl⟩,⟨(fun id sz es bk _ hb=>by cases hb),(fun id sz es bk _ hb=>by cases hb),(fun id c i k sz bk _ hb=>by cases hb),(fun id kd es bk _ hb=>by cases hb)⟩,fun t=>?_,(fun id k hk=>by cases hk),(fun id hid=>by cases hid),Nat.le_refl _⟩;simp only [St.get,Q2J]
  by_cases ht:t<args.length
  ·rw [if_pos (by omega)];simp only [Nat.sub_zero,Option.getD_some];have:=hx t ht;have h2:(vals++Array.replicate (fn.ntmps - vals.size) undef).getD t undef=vals.getD t undef:=by
    simp [Array.getElem?_append,show t<vals.size by omega]
   rw [h2];exact this
  rw [if_neg (by omega)];exact .bot
 refine Q4o (fun e a w' hq=>?_) (h ⟨C,R,fn.ntmps,0,rfl⟩ rfl rfl (fun _ h=>h) _ w (.of hrel));obtain ⟨st,⟨R',hX,hr⟩,hq⟩:=hq;have fin:RetG P rvs st rs→a.defers=[]∧∃ v,(results fn a.tmps).run P w' = .ok v w'∧∃ v' o,Ending.returned v = .returned v'∧Blw w.heap.size w w'∧(∀ b L,o b=some L→w.heap.size≤b∧b<w'.heap.size)∧Res w' o v' (Q1N rs):=by
  intro hA;obtain ⟨az,hg,hv⟩:=hA.ex;obtain ⟨_,hdef,_,o,ρ,W,H,hxx,_⟩:=hr;obtain ⟨vs,h1,h2,h3⟩:=rget_run H hxx hg;obtain ⟨q1,o1,q2,q3⟩:=Q6D W H rfl hv (vs:=vs) h2 h3;exact ⟨hdef,_,Q7w hrt h1,_,o1,rfl,q1,q2,q3⟩
 cases e with
 | normal=>exact fin hq
 | ret=>exact fin hq
 | _=>exact hq.elim
theorem Qq {P:Program} [Kd P] {f:Nat} {fn:Func} {c:Code} {args:List AV} {rvs:List ResultVar} {rs:List AV} {res:AV} (hf:P.funcs[f]? = some fn) (hb:fn.body=some c) (hrt:fn.results=rvs.toArray) (hrs:res=Q1N rs)
  (hname : (fn.name == "runtime.NumGoroutine") = false) (hN : args.length ≤ fn.ntmps) (h : ∀ F : Fx, F.N = fn.ntmps → F.pins = 0 → Wp P F c (retGQ P rvs rs) ⟨Q3A 0 args, [], 0⟩) : Contract P f args res :=
 Q38 hf hb hrt hrs hname hN fun F h1 h2 _=>h F h1 h2
end
section
attribute [local simp] Qi QG Qp
def nlA (news:List (Nat × Nat)) (a b:AV):Prop:=a=b∨(a = .val (.slice none 0 0)∧∃ q∈news,b = .own q.1 0 0)
def nlL (news:List (Nat × Nat)):List AV→List AV→Prop
 | [],[]=>True
 | a :: r,b :: s=>nlA news a b∧nlL news r s
 | _,_=>False
def entN (news:List (Nat × Nat)):Ent→Ent→Prop
 | .mix sz [cs],.mix sz' [ds]=>sz=sz'∧nlL news cs ds
 | .mix sz [],.row sz' es=>sz=sz'∧es=[]
 | e,e'=>e=e'
theorem nlL_get {news:List (Nat × Nat)}:∀ {cs ds:List AV},nlL news cs ds→cs.length=ds.length∧∀ k,k<cs.length→nlA news (cs.getD k .bot) (ds.getD k .bot):=by
 intro cs
 induction cs with
 | nil=>intro ds h;cases ds with
  | nil=>exact ⟨rfl,fun k hk=>by simp at hk⟩
  | cons=>exact h.elim
 | cons a r ih =>
  intro ds h;cases ds with
  | nil=>exact h.elim
  | cons b s =>
   obtain ⟨h1,h2⟩:=h;obtain ⟨h3,h4⟩:=ih h2;refine ⟨by simp [h3],fun k hk=>?_⟩;cases k with
   | zero=>simpa using h1
   | succ k=>simpa using h4 k (by simpa using hk)
theorem Q2G {news:List (Nat × Nat)} {e e':Ent} (h:entN news e e'):e=e'∨(∃ sz cs ds,e = .mix sz [cs]∧e' = .mix sz [ds]∧nlL news cs ds)∨(∃ sz,e = .mix sz []∧e' = .row sz []):=by
 unfold entN at h;split at h
 ·obtain ⟨rfl,h⟩:=h;exact .inr (.inl ⟨_,_,_,rfl,rfl,h⟩)
 ·obtain ⟨rfl,rfl⟩:=h;exact .inr (.inr ⟨_,rfl,rfl⟩)
 exact .inl h
theorem Wk.nils {F:Fx} {st st':St} (news:List (Nat × Nat)) (hn:∀ p∈news,st.n≤p.1∧p.1<st'.n) (hle:st.n≤st'.n) (hs:∀ p∈st'.s,nlA news (st.get p.1) p.2∨p.2 = .bot)
  (hh:∀ p∈st'.h,(∃ q∈news,p=(q.1,.row q.2 []))∨∃ e,look p.1 st.h=some e∧entN news e p.2) (hnd:(news.map Prod.fst).Nodup):Wk F st st':=by
 refine Wk.mk fun R a w hr=>?_;obtain ⟨r1,r2,r3,o,ρ,W,H,hx,hρ,hp⟩:=hr
 let ρ':Nat→Option Bk:=fun id=>match look id news with|some sz=>some ⟨none,sz,0⟩|none=>ρ id
 have hnone:∀ q∈news,ρ q.1=none:=by
  intro q hq;cases h:ρ q.1 with
  | none=>rfl
  | some k=>have:=hρ _ _ h;have:=(hn q hq).1;omega
 have hold:∀ id k,ρ id=some k→ρ' id=some k:=by
  intro id k hk;simp only [ρ'];cases hl:look id news with
  | none=>exact hk
  | some sz=>have:=hnone _ (Ql hl);simp only at this;rw [hk] at this;cases this
 have hnew:∀ q∈news,ρ' q.1=some ⟨none,q.2,0⟩:=by
  intro q hq;simp only [ρ'];rw [Q1a hnd hq]
 have hA:∀ {v:Value} {x y:AV},XRel w R ρ v x→nlA news x y→XRel w R ρ' v y:=by
  intro v x y hv h;rcases h with rfl|⟨rfl,q,hq,rfl⟩
  ·exact hv.mono (fun b hb=>⟨hb,rfl⟩) hold
  obtain ⟨rfl,_⟩:=hv.val_eq;exact .own0 (hnew q hq)
 have hent:∀ id e',st'.hp id=some e'→(∃ q∈news,id=q.1∧e' = .row q.2 [])∨∃ e,st.hp id=some e∧entN news e e':=by
  intro id e' h;rcases hh (id,e') (Ql h) with ⟨q,hq,he⟩|h
  ·simp only [Prod.mk.injEq] at he;exact .inl ⟨q,hq,he.1,he.2⟩
  exact .inr h
 have hback:∀ id bk,ρ' id=some bk→(∃ q∈news,id=q.1∧bk=⟨none,q.2,0⟩)∨(ρ id=some bk∧∀ q∈news,id ≠ q.1):=by
  intro id bk h;simp only [ρ'] at h;cases hl:look id news with
  | some sz=>rw [hl] at h;simp only [Option.some.injEq] at h;exact .inl ⟨(id,sz),Ql hl,rfl,h.symm⟩
  | none =>
   rw [hl] at h;refine .inr ⟨h,fun q hq he=>?_⟩;subst he;rw [Q1a hnd hq] at hl;cases hl
 have hcont:∀ (d c:Nat) (szc:Nat) (esc:List (List AV)) (bk:Bk),ρ c=some bk→cont st'.hp d c=some (szc,esc)→Qw (st'.hp c)=false→esc=[]∨(cont st.hp d c=some (szc,esc)∧Qw (st.hp c)=false):=by
  intro d
  induction d with
  | zero=>intro c szc esc bk _ h;cases h
  | succ d ih =>
   intro c szc esc bk hb hc hm;unfold cont at hc ⊢;cases he:st'.hp c with
   | none=>simp [he] at hc
   | some e' =>
    rw [he] at hc hm;rcases hent c e' he with ⟨q,hq,rfl,rfl⟩|⟨e,h1,h2⟩
    ·rw [hnone q hq] at hb;cases hb
    rcases Q2G h2 with rfl|⟨sz,cs,ds,rfl,rfl,_⟩|⟨sz,rfl,rfl⟩
    ·cases e with
     | mix=>cases hm
     | mapE=>cases hc
     | row sz es=>exact .inr ⟨by rw [h1];exact hc,by rw [h1];rfl⟩
     | ali c2 i2 k2 s2 =>
      rw [h1];simp only at hc ⊢;split at hc
      ·cases hc
      rename_i hm2;cases hc2:cont st'.hp d c2 with
      | none=>simp [hc2] at hc
      | some p =>
       obtain ⟨sz2,es2⟩:=p;obtain ⟨_,bk2,hb2,_⟩:=H.ali c c2 i2 k2 s2 bk h1 hb;rw [hc2] at hc;rcases ih c2 sz2 es2 bk2 hb2 hc2 (by simpa using hm2) with rfl|⟨q1,q2⟩
       ·simp at hc
       right;rw [q2,q1];exact ⟨hc,rfl⟩
    ·cases hm
    simp only [Option.some.injEq,Prod.mk.injEq] at hc;exact .inl hc.2.symm
 refine ⟨r1,r2,fun id x hx=>?_,o,ρ',⟨W.R,W.o,W.os,W.tape,W.output,W.size,W.keep⟩,⟨fun id sz es bk he hb=>?_,fun id sz es bk he hb=>?_,fun id c i k sz bk he hb=>?_,fun id kd es bk he hb=>?_⟩,fun t=>?_,fun id k hk=>?_,fun id hid=>?_,Nat.le_trans hp.2 hle⟩;rotate_left 4
 ·rcases hent id _ he with ⟨q,hq,rfl,h⟩|⟨e,h1,h2⟩
  ·cases h
  rcases hback id bk hb with ⟨q,hq,rfl,rfl⟩|⟨hb',_⟩
  ·exact absurd (r3 _ e h1) (by have:=(hn q hq).1;omega)
  rcases Q2G h2 with rfl|⟨s1,cs,ds,rfl,hd,hl⟩|⟨s1,rfl,hd⟩
  ·exact H.map id kd es bk h1 hb'
  ·cases hd
  cases hd
 rotate_left 3
 ·rcases hent id x hx with ⟨q,hq,rfl,_⟩|⟨e,he,_⟩
  ·exact (hn q hq).2
  exact Nat.lt_of_lt_of_le (r3 id e he) hle
 ·rcases hent id _ he with ⟨q,hq,rfl,h⟩|⟨e,h1,h2⟩
  ·cases h
  rcases hback id bk hb with ⟨q,hq,rfl,rfl⟩|⟨hb',_⟩
  ·exact absurd (r3 _ e h1) (by have:=(hn q hq).1;omega)
  rcases Q2G h2 with rfl|⟨s1,cs,ds,rfl,hd,hl⟩|⟨s1,rfl,hd⟩
  ·rcases (H.mix id sz es bk h1 hb').ex0 with h0|⟨b,cur,el,us,cpm,q1,q2,q3,q4,q5,q5',q6,q7,q8,q9⟩
   ·exact ⟨.inl h0⟩
   exact .mk' ⟨b,cur,el,us,cpm,q1,q2,q3,q4,q5,q5',q6,q7,q8,fun i k hi hk=>(q9 i k hi hk).mono (fun b hb=>⟨hb,rfl⟩) hold⟩
  ·cases hd;rcases (H.mix id sz _ bk h1 hb').ex0 with ⟨h0,_⟩|⟨b,cur,el,us,cpm,q1,q2,q3,q4,q5,q5',q6,q7,q8,q9⟩
   ·cases h0
   obtain ⟨g1,g2⟩:=nlL_get hl;refine .mk' ⟨b,cur,el,us,cpm,q1,q2,q3,q4,by simpa using q5,q5',fun i hi=>?_,q7,q8,fun i k hi hk=>?_⟩
   ·have h0:i=0:=(by simp at hi;omega);subst h0;have:=q6 0 (by simp);simpa [← g1] using this
   have h0:i=0:=(by simp at hi;omega);subst h0;have h6:=q6 0 (by simp);simp only [List.getD_cons_zero] at h6;refine hA (q9 0 k (by simp) hk) ?_;simpa using g2 k (by omega)
  cases hd
 ·rcases hent id _ he with ⟨q,hq,rfl,h⟩|⟨e,h1,h2⟩
  ·cases h;have:=(show ρ' q.1=some bk from hb).symm.trans (hnew q hq);cases this;exact ⟨_,.nil,.nil⟩
  rcases hback id bk hb with ⟨q,hq,rfl,rfl⟩|⟨hb',_⟩
  ·exact absurd (r3 _ e h1) (by have:=(hn q hq).1;omega)
  rcases Q2G h2 with rfl|⟨s1,cs,ds,rfl,hd,hl⟩|⟨s1,rfl,hd⟩
  ·exact H.row id sz es bk h1 hb'
  ·cases hd
  cases hd;rcases (H.mix id sz [] bk h1 hb').ex0 with ⟨_,cp0,rfl⟩|⟨b,cur,el,us,cpm,q1,q2,q3,q4,q5,q5',q6,q7,q8,q9⟩
  ·exact ⟨_,.nil,.nil⟩
  subst q1;exact ⟨.slice (some ⟨b,0,none⟩) 0 cpm,.own (es:=[]) us q2 q3 q4 (Nat.zero_le _) q5' (fun i hi=>by simp at hi) (fun i k hi=>by simp at hi) (fun i k hi=>by simp at hi) (fun i k hi=>by simp at hi),.own⟩
 ·rcases hent id _ he with ⟨q,hq,rfl,h⟩|⟨e,h1,h2⟩
  ·cases h
  rcases hback id bk hb with ⟨q,hq,rfl,rfl⟩|⟨hb',_⟩
  ·exact absurd (r3 _ e h1) (by have:=(hn q hq).1;omega)
  rcases Q2G h2 with rfl|⟨s1,cs,ds,rfl,hd,hl⟩|⟨s1,rfl,hd⟩
  ·obtain ⟨q1,bkc,q2,q3⟩:=H.ali id c i k sz bk h1 hb';refine ⟨q1,bkc,hold _ _ q2,fun d szc esc hc hm hi hk=>?_⟩;rcases hcont d c szc esc bkc q2 hc hm with rfl|⟨g1,g2⟩
   ·simp at hi
   exact q3 d szc esc g1 g2 hi hk
  ·cases hd
  cases hd
 ·cases hl:look t st'.s with
  | none=>simp only [St.get,hl,Option.getD_none];exact .bot
  | some v =>
   simp only [St.get,hl,Option.getD_some];rcases hs _ (Ql hl) with h|h
   ·exact hA (hx t) h
   simp only at h;rw [h];exact .bot
 ·rcases hback id k hk with ⟨q,hq,rfl,_⟩|⟨h,_⟩
  ·exact (hn q hq).2
  exact Nat.lt_of_lt_of_le (hρ id k h) hle
 show ρ' id=_;have hlt:id<st.n:=Nat.lt_of_lt_of_le hid hp.2;rw [← hp.1 id hid];simp only [ρ'];cases hl:look id news with
 | none=>rfl
 | some sz=>have:=(hn _ (Ql hl)).1;simp only at this;omega
def hhOk (m:List (Nat × Nat)) (h:List (Nat × Ent)) (j:Nat) (e':Ent):Prop:=(((look j (back m)).bind fun i=>look i h).bind (rlE m))=some e'
theorem Wk.rel {F:Fx} {st st':St} (m:List (Nat × Nat)) (h1:(m.map Prod.fst).Nodup) (h2:(m.map Prod.snd).Nodup) (hpin:∀ id,id<F.pins→look id m=some id) (hn:∀ p∈m,p.2<st'.n)
  (hok:∀ p∈st'.h,p.1<st'.n) (hs:∀ p∈st'.s,p.2=rl m (st.get p.1)∨p.2 = .bot) (hh:∀ p∈st'.h,hhOk m st.h p.1 p.2):Wk F st st':=by
 refine Wk.relabel m h1 h2 hpin hn hok hs fun p hp=>?_;have:=hh p hp;unfold hhOk at this;obtain ⟨e,he,hr⟩:=Option.bind_eq_some_iff.1 this;obtain ⟨i,hi,hl⟩:=Option.bind_eq_some_iff.1 he;exact ⟨i,e,back_of h1 hi,hl,hr⟩
theorem join {P:Program} [Kd P] {F:Fx} {y:Code} {AQ:Exit→St→Prop} {K:St→Prop} {G:Prop} (hK:∀ st',Wp P F y AQ st'→K st') (S:Bool→St) (C:Prop) (h1:(∀ b:Bool,(b=true↔C)→∀ st',Wk F st' (S b)→K st')→G)
  (h2:∀ b:Bool,(b=true↔C)→Wp P F y AQ (S b)):G:=h1 fun b hb st' hw=>hK st' (Qc hw (h2 b hb))
end
section
attribute [local simp] Qi QG Qp
theorem PurTo.field {h:HP} {id k sz:Nat} {row cs:List AV} (he:h id=some (.mix sz [row])) (hl:k+cs.length≤sz) (hp:PurL h ((row.drop k).take cs.length) cs):PurTo h (.adr id 0 k) (.rptr cs) :=
 .adr he (by simp) hl fun j hj=>by
  have:=hp.2 j (by rw [hp.1];exact hj);simpa [List.getD_eq_getElem?_getD,List.getElem?_take,List.getElem?_drop,hj] using this
inductive PurLL (h:HP) (sz:Nat):List (List AV)→List (List AV)→Prop
 | nil:PurLL h sz [] []
 | cons {r s rs ss}:s.length=sz→PurL h r s→PurLL h sz rs ss→PurLL h sz (r :: rs) (s :: ss)
theorem PurLL.get {h:HP} {sz:Nat} {rs ss:List (List AV)} (hp:PurLL h sz rs ss):rs.length=ss.length∧∀ i,i<ss.length→(ss.getD i []).length=sz∧PurL h (rs.getD i []) (ss.getD i []):=by
 induction hp with
 | nil=>exact ⟨rfl,fun i hi=>by simp at hi⟩
 | cons h1 h2 _ ih =>
  refine ⟨by simp [ih.1],fun i hi=>?_⟩;cases i with
  | zero=>exact ⟨h1,h2⟩
  | succ i=>simpa using ih.2 i (by simpa using hi)
theorem PurTo.lits {h:HP} {id n sz:Nat} {u:Bool} {es fs:List (List AV)} (he:h id=some (.mix sz es)) (hp:PurLL h sz es fs) (hn:n=fs.length):PurTo h (.own id 0 n) (.lst u sz fs):=by
 subst hn;refine .mix he (by rw [hp.get.1];omega) rfl (fun i hi=>(hp.get.2 i hi).1) fun i k hi hk=>?_;have:=hp.get.2 i hi;rw [Nat.zero_add];exact this.2.2 k (by rw [this.2.1,this.1];exact hk)
end
section
attribute [local simp] Qi QG Qp
noncomputable def ass {α:Type} (p:Prop) (k:Option α):Option α:=@ite _ p (Classical.propDecidable p) k none
theorem Q8 {α:Type} {p:Prop} {k:Option α} {r:α} (h:ass p k=some r):p∧k=some r:=by
 unfold ass at h;split at h
 ·exact ⟨‹_›,h⟩
 cases h
theorem Q9 {α:Type} {p:Prop} {k:Option α} (h:p):ass p k=k:=by unfold ass;rw [if_pos h]
inductive Ctl (σ ε:Type) where
 | next (s:σ)
 | ret (e:ε)
def Q11 {σ ε:Type} (body:σ→Option (Ctl σ ε)):Nat→σ→Option ε
 | 0,_=>none
 | n+1,s=>match body s with
  | some (.next s')=>Q11 body n s'
  | some (.ret e)=>some e
  | none=>none
theorem bind_some {α β:Type} {x:Option α} {f:α→Option β} {r:β} (h:x.bind f=some r):∃ v,x=some v∧f v=some r:=Option.bind_eq_some_iff.1 h
theorem if_l {α:Type} {p:Prop} [Decidable p] {a b:Option α} {r:α} (g:p) (h:(if p then a else b)=some r):a=some r:=by rw [if_pos g] at h;exact h
theorem if_r {α:Type} {p:Prop} [Decidable p] {a b:Option α} {r:α} (g:¬ p) (h:(if p then a else b)=some r):b=some r:=by rw [if_neg g] at h;exact h
def contF {σ ε:Type} (body:σ→Option (Ctl σ ε)) (k:Nat) (e:ε):Ctl σ ε→Prop
 | .next s'=>Q11 body k s'=some e
 | .ret e'=>e'=e
def Q93 {σ:Type} (F:Fx) (S:σ→St) (G:σ→Prop) (AQ:Exit→St→Prop):Exit→St→Prop
 | .normal,st=>∃ s',G s'∧Wk F st (S s')
 | e,st=>AQ e st
section
variable {P:Program} [Kd P] {mt:MT} {F:Fx} {AQ:Exit→St→Prop} {st:St}
theorem Wp.mono {c:Code} {AQ':Exit→St→Prop} (h:∀ e st,AQ e st→AQ' e st) (hw:Wp P F c AQ st):Wp P F c AQ' st:=by
 intro a w hr;refine Q6P (hw a w hr) fun e a w he=>?_;obtain ⟨st',h1,h2⟩:=he;exact ⟨st',h1,h _ _ h2⟩
theorem Q3W {st1 st3:St} (st2:St) (h1:Wk F st1 st2) (h2:Wk F st2 st3):Wk F st1 st3:=fun a w h=>h2 a w (h1 a w h)
theorem Q13 {σ ε:Type} {c:Code} {body:σ→Option (Ctl σ ε)} {N:Nat} {s0:σ} {e:ε} (h:Q11 body N s0=some e) (S:σ→St) (hk:Wk F st (S s0))
  (round:∀ (k:Nat) (s:σ) (c':Ctl σ ε),body s=some c'→contF body k e c'→Wp P F c (Q93 F S (fun s'=>Q11 body k s'=some e) AQ) (S s)):Wp P F (.loop c) AQ st:=by
 refine Qs (fun p:Nat × σ=>S p.2) (fun p=>Q11 body p.1 p.2=some e) (fun p=>p.1) (N,s0) h hk ?_
 rintro ⟨k,s⟩ hl
 cases k with
 | zero=>cases hl
 | succ k =>
  simp only [Q11] at hl;cases hb:body s with
  | none=>rw [hb] at hl;cases hl
  | some c' =>
   have hc:contF body k e c':=by
    rw [hb] at hl;cases c' with
    | next s'=>exact hl
    | ret e'=>simpa [contF] using hl
   refine Wp.mono ?_ (round k s c' hb hc);intro ex st' hq;cases ex with
   | normal =>
    obtain ⟨s',h1,h2⟩:=hq;exact ⟨(k,s'),h1,Nat.lt_succ_self k,h2⟩
   | _=>exact hq
theorem QQ {β:Type} {x y:Code} (J:β→St) (C:β→Prop) (h2:Wp P F x (Q3U (fun st=>∃ b,C b∧Wk F st (J b)) AQ) st) (h1:∀ b,C b→Wp P F y AQ (J b)):Wp P F x (Q3U (Wp P F y AQ) AQ) st:=by
 refine Wp.mono ?_ h2;intro ex st' hq;cases ex with
 | normal =>
  obtain ⟨b,hc,hw⟩:=hq;exact Qc hw (h1 b hc)
 | _=>exact hq
theorem Q2j {all:Array Oper} {os:List Oper} {dst:Option Nat} {K:St→Prop} {op:Op} {t:Nat} {want:Bool} {b:Bool}
  (h1:b=want→runO P mt all os dst (st.put t (.val (.bool want))) K op) (h2:b=(!want)→QM P mt all os ((st.put t (.val (.bool !want))).app dst { v:=.tup [] }) K) :
  Q4G P mt all os dst st K op t want (.val (.bool b)):=by
 rw [Qi];exact ⟨h1,h2⟩
end
section
variable {P:Program} [Kd P] {F:Fx} {AQ:Exit→St→Prop} {st:St} {i id:Nat}
theorem tn {K:St→Prop} (h:K st):Q3U K AQ .normal st:=h
theorem tx {K:St→Prop} (h:AQ (.exit i) st):Q3U K AQ (.exit i) st:=h
theorem tr {K:St→Prop} (h:AQ .ret st):Q3U K AQ .ret st:=h
theorem bn (h:AQ .normal st):Q5f id AQ .normal st:=h
theorem bh (h:AQ .normal st):Q5f id AQ (.exit id) st:=by simp only [Q5f,if_pos];exact h
theorem br (h:AQ .ret st):Q5f id AQ .ret st:=h
theorem lx {σ:Type} {S:σ→St} {G:σ→Prop} (h:AQ (.exit i) st):Q93 F S G AQ (.exit i) st:=h
theorem lr {σ:Type} {S:σ→St} {G:σ→Prop} (h:AQ .ret st):Q93 F S G AQ .ret st:=h
theorem rn {σ:Type} {S:σ→St} {G:σ→Prop} {s':σ} (h1:G s') (h2:Wk F st (S s')):Q93 F S G AQ .normal st:=⟨s',h1,h2⟩
theorem jn {β:Type} {J:β→St} {C:β→Prop} {b:β} (h1:C b) (h2:Wk F st (J b)):Q3U (fun st=>∃ b,C b∧Wk F st (J b)) AQ .normal st:=⟨b,h1,h2⟩
end
theorem Wk.r1 {F:Fx} {st st':St} (m:List (Nat × Nat)) (h:(m.map Prod.fst).Nodup∧(m.map Prod.snd).Nodup∧(∀ id,id<F.pins→look id m=some id)∧(∀ p∈m,p.2<st'.n)∧(∀ p∈st'.h,p.1<st'.n)∧(∀ p∈st'.s,p.2=rl m (st.get p.1)∨p.2 = .bot)∧∀ p∈st'.h,hhOk m st.h p.1 p.2):Wk F st st':=Wk.rel m h.1 h.2.1 h.2.2.1 h.2.2.2.1 h.2.2.2.2.1 h.2.2.2.2.2.1 h.2.2.2.2.2.2
def fuel:Nat:=4611686018427387904
theorem PurTo.fnL {h:HP} {f:Nat} {az bs:List AV} (hb:∀ b∈bs,∀ cs,b ≠ .agg cs) (hp:PurL h az bs):PurTo h (.fn f az) (.fn f bs):=by
 refine .fn hp.1 (fun k hk cs he=>?_) hp.2;have hk':k<bs.length:=by rw [← hp.1];exact hk
 refine hb (bs.getD k .bot) ?_ cs he;simp only [List.getD_eq_getElem?_getD,List.getElem?_eq_getElem hk',Option.getD_some];exact List.getElem_mem hk'
theorem PurTo.preT {h:HP} {xs cs:List AV} (e:xs.take cs.length=cs):PurTo h (.rptr xs) (.rptr cs):=by
 have:xs=cs++xs.drop cs.length:=by
  have h:=List.take_append_drop cs.length xs;rw [e] at h;exact h.symm
 rw [this];exact .pre
end
section
attribute [local simp] Qi QG Qp
structure SD (ds:List Nat) (st:St):Prop where
 mix:∀ s∈ds,∃ id,st.get s = .adr id 0 0∧Qw (st.hp id)=true
 sep:∀ t id i k,t ∉ ds→st.get t = .adr id i k→∀ s∈ds,st.get s ≠ .adr id 0 0
 sepO:∀ t id i k,t ∉ ds→st.get t = .own id i k→∀ s∈ds,st.get s ≠ .adr id 0 0
section
variable {P:Program} [Kd P] {ds:List Nat} {ops:Array Oper} {S:Nat→St} {E:Nat→Option Eff} {C:Ctx} {R:Nat→Prop} {N:Nat} {w0:World}
inductive Pts:AV→Nat→Prop
 | adr {id i k}:Pts (.adr id i k) id
 | own {id i k}:Pts (.own id i k) id
end
end
section
attribute [local simp] Qi QG Qp
def callX (P:Program) [Kd P] (mt:MT) (all:Array Oper) (f:Nat) (az:List AV) (dst:Option Nat) (os:List Oper) (st:St) (K:St→Prop):Prop :=
 Q7P P mt all f az dst os st K∨∃ keep bs res,PurK keep st.hp az bs∧FContract P keep f bs res∧Q2H P mt all os (st.app dst { v:=res }) K
def callB (P:Program) [Kd P] (mt:MT) (all:Array Oper) (f:Nat) (az:List AV) (dst:Option Nat) (os:List Oper) (st:St) (K:St→Prop):Prop :=
 (∃ bs res,PurL st.hp az bs∧Contract P f bs res∧Q2H P mt all os (st.app dst (unk st.n res)) K)∨∃ keep bs res,PurK keep st.hp az bs∧FContract P keep f bs res∧Q2H P mt all os (st.app dst { v:=res }) K
def Q6Y (P:Program) [Kd P] (mt:MT) (all:Array Oper) (az:List AV) (dst:Option Nat) (os:List Oper) (st:St) (K:St→Prop):AV→Prop
 | .fn f caps=>callX P mt all f (az++caps) dst os st K
 | .bnd f rs=>callB P mt all f (rs++az) dst os st K
 | _=>False
def callI (P:Program) [Kd P] (mt:MT) (all:Array Oper) (F:Option Nat) (az:List AV) (dst:Option Nat) (os:List Oper) (st:St) (K:St→Prop):Prop:=False
def Q6Z (P:Program) [Kd P] (mt:MT) (all:Array Oper) (name:String) (az:List AV) (dst:Option Nat) (os:List Oper) (st:St) (K:St→Prop):AV→Prop
 | .ifc t cs=>callI P mt all (mth P t name) (.agg cs :: az) dst os st K
 | .ifs t sz es=>callI P mt all (mth P t name) (.lst true sz es :: az) dst os st K
 | _=>False
def mkI (t:TypeId):Bool→Bool→AV→Option (Prop × Eff)
 | true,_,.agg cs=>some (True,{ v:=.ifc t cs })
 | _,true,.lst _ sz es=>some (True,{ v:=.ifs t sz es })
 | _,_,_=>none
def asB (t sz:Nat) (es:List (List AV)):Bool→Option (Prop × Eff)
 | true=>some (True,{ v:=.tup [.ifs t sz es,.val (.bool true)] })
 | false=>none
def asA (P:Program) (s:TypeId):Bool→AV→Option (Prop × Eff)
 | true,.ifs t sz es=>asB t sz es (tas P s t)
 | _,_=>none
def inZ (fz:List Nat):Option Nat→Bool
 | some d=>fz.contains d
 | none=>false
def Q8R (P:Program) (et:Option TypeId) (l c:AV) (n:Nat):Option (Prop × Eff) :=
 match et with
 | some e=>Q4L (some (((elm P e).bind (tyi P)).getD ⟨false,1,8,[]⟩)) (tyi P e) l c n
 | none=>none
noncomputable def opX (P:Program) (fz:List Nat) (dst:Option Nat) (op:Op) (ev:Operand→AV) (h:HP) (n:Nat):Option (Prop × Eff) :=
 match op with
 | .box t x=>bif inZ fz dst then boxr (ev x) else boxv (ev x) n
 | .call ⟨.builtin .append,⟨[s,x]⟩,⟨[t,u]⟩⟩=>match elm P t with
  | some e=>if t=u then (bif inZ fz dst then appM (tyi P e) (ev s) (ev x) h n else Q2e (tyi P e) (ev s) (ev x) h n) else none
  | none=>none
 | .call ⟨.builtin .len,⟨[x]⟩,⟨[t]⟩⟩=>bif inZ fz dst then lenm (mty P t) (Q2Y h (ev x)) else match elm P t with
  | some _=>lenv (ev x)
  | none=>none
 | .makeSlice t l c=>bif inZ fz dst then Q8R P (elm P t) (ev l) (ev c) n else match elm P t with
  | some e=>Q4K (tyi P e) (ev l) (ev c) n
  | none=>none
 | .makeFunc (.func f) ⟨[]⟩ caps=>some (True,{ v:=.fn f (caps.toList.map ev) })
 | .makeInterface t x=>mkI t (sty P t) (slt P t) (ev x)
 | .typeAssert x _ s ok=>asA P s ok (ev x)
 | .makeFunc (.func f) ⟨r :: rs⟩ ⟨[]⟩=>some (True,{ v:=.bnd f ((r :: rs).map ev) })
 | .convert s d x=>bif inZ fz dst then convS (byS P s d) h (ev x) else Q5S (intk P s) (intk P d) (ev x)
 | .slice t x none (some y) (some z)=>match elm P t with
  | some e=>Q36 (tyi P e) h (ev x) (ev y) (ev z)
  | none=>none
 | .makeMap t none=>makv (mty P t) n
 | .lookup t x k ok=>Q4X (mty P t) (Q2Y h (ev x)) (ev k) ok
 | .mapUpdate t x k y=>updv (mty P t) h (ev x) (ev k) (ev y)
 | op=>opF P op ev h n
theorem Q91 {P:Program} [Kd P] {mt:MT} {fz:List Nat} {dst:Option Nat} {op:Op} {ev:Operand→AV} {h:HP} {n:Nat} {c:Prop} {e:Eff} (hx:opX P fz dst op ev h n=some (c,e)) (hc:c):AOp P mt op ev h n e:=by
 unfold opX at hx;split at hx
 ·rename_i t x;cases hz:inZ fz dst with
  | true=>rw [hz] at hx;exact .boxr rfl hx
  | false=>rw [hz] at hx;exact .blt hx hc
 ·rename_i s x t u;split at hx
  ·rename_i e0 hel;split at hx
   ·rename_i htu;subst htu;cases hz:inZ fz dst with
    | true=>rw [hz] at hx;exact .appM rfl hel hx hc
    | false =>
     rw [hz] at hx;refine .blt (c:=c) ?_ hc;simp only [opF,bltF,hel,if_true];exact hx
   cases hx
  cases hx
 ·rename_i x t;cases hz:inZ fz dst with
  | true=>rw [hz] at hx;exact .mapo hx hc
  | false=>rw [hz] at hx;exact .blt hx hc
 ·rename_i t l cc;cases hz:inZ fz dst with
  | true =>
   rw [hz] at hx;simp only [cond_true] at hx;unfold Q8R at hx;split at hx
   ·rename_i et hel;exact .mkz rfl hel hx hc
   cases hx
  | false=>rw [hz] at hx;exact .blt hx hc
 ·simp only [Option.some.injEq,Prod.mk.injEq] at hx;obtain ⟨_,rfl⟩:=hx;exact .mkf rfl
 ·rename_i t x;unfold mkI at hx;split at hx
  ·rename_i hs hx2;simp only [Option.some.injEq,Prod.mk.injEq] at hx;obtain ⟨_,rfl⟩:=hx;exact .mki rfl hs hx2
  ·rename_i hs hx2;simp only [Option.some.injEq,Prod.mk.injEq] at hx;obtain ⟨_,rfl⟩:=hx;exact .mkis rfl hs hx2
  cases hx
 ·rename_i x xt s ok;unfold asA at hx;split at hx
  ·rename_i t sz es hx2;unfold asB at hx;split at hx
   ·rename_i hs;simp only [Option.some.injEq,Prod.mk.injEq] at hx;obtain ⟨_,rfl⟩:=hx;exact .tas rfl hs hx2
   cases hx
  cases hx
 ·simp only [Option.some.injEq,Prod.mk.injEq] at hx;obtain ⟨_,rfl⟩:=hx;exact .mkb rfl
 ·rename_i s d x;cases hz:inZ fz dst with
  | true =>
   rw [hz] at hx;obtain ⟨e2,id,ns,h1,h2,h3,rfl⟩:=convS_eq hx hc;exact .cvs rfl h1 h2 h3
  | false=>rw [hz] at hx;exact .blt hx hc
 ·split at hx
  ·rename_i et hel;exact .sl3 rfl hel hx hc
  cases hx
 ·exact .mapo hx hc
 ·exact .mapo hx hc
 ·exact .mapo hx hc
 exact .blt hx hc
def semA (P:Program) [Kd P] (mt:MT) (all:Array Oper) (op:Op) (dst:Option Nat) (os:List Oper) (st:St) (K:St→Prop):Prop :=
 (mt.on && wrM mt op)=true∧∃ e,SemOp P op st.ev st.hp st.n e∧Q2H P mt all os (st.app dst e) K
def stoZ (P:Program) [Kd P] (mt:MT) (all:Array Oper) (op:Op) (t:TypeId) (av xv:AV) (dst:Option Nat) (os:List Oper) (st:St) (K:St→Prop):Prop:=stoA P mt all t av xv dst os st K∨semA P mt all op dst os st K
def Q53 (P:Program) [Kd P] (mt:MT) (fz:List Nat) (all:Array Oper) (os:List Oper) (K R:St→Prop) (dst:Option Nat) (st:St) (op:Op):Prop :=
 match op with
 | .call ⟨.value x,args,_⟩=>Q6Y P mt all (args.toList.map st.ev) dst os st K (st.ev x)
 | .call ⟨.invoke x name,args,_⟩=>Q6Z P mt all name (args.toList.map st.ev) dst os st K (st.ev x)
 | .store t a x=>Q4x R (stoZ P mt all (.store t a x) t (st.ev a) (st.ev x) dst os st K) dst st (Q3k (tyi P t) (st.ev a) (st.ev x) st.hp)
 | .call ⟨.builtin .append,args,ts⟩=>Q4x R (semA P mt all (.call ⟨.builtin .append,args,ts⟩) dst os st K) dst st (opX P fz dst (.call ⟨.builtin .append,args,ts⟩) st.ev st.hp st.n)
 | .lookup t x k ok=>Q4x R (semA P mt all (.lookup t x k ok) dst os st K) dst st (Q4X (mty P t) (Q2Y st.hp (st.ev x)) (st.ev k) ok)
 | .mapUpdate t x k y=>Q4x R (semA P mt all (.mapUpdate t x k y) dst os st K) dst st (updv (mty P t) st.hp (st.ev x) (st.ev k) (st.ev y))
 | .call ⟨.builtin .clear,args,ts⟩=>semA P mt all (.call ⟨.builtin .clear,args,ts⟩) dst os st K
 | op=>Q5Y R dst st (opX P fz dst op st.ev st.hp st.n)
def guardXW (P:Program) [Kd P] (mt:MT) (fz:List Nat) (all:Array Oper) (os:List Oper) (K R:St→Prop) (dst:Option Nat) (st:St) (op:Op) (t:Nat) (want:Bool):AV→Prop
 | .val (.bool b)=>(b=want→Q53 P mt fz all os K R dst (st.put t (.val (.bool want))) op)∧(b = !want→R ((st.put t (.val (.bool !want))).app dst { v:=.tup [] }))
 | .tup []=>R (st.app dst { v:=.tup [] })
 | _=>False
def Q8M (P:Program) [Kd P] (mt:MT) (fz:List Nat) (all:Array Oper) (os:List Oper) (K R:St→Prop) (dst:Option Nat) (st:St) (op:Op) (want:Bool):Option Nat→Prop
 | some t=>guardXW P mt fz all os K R dst st op t want (st.get t)
 | none=>False
def runX (P:Program) [Kd P] (mt:MT) (fz:List Nat) (all:Array Oper):List Oper→St→(St→Prop)→Prop
 | [],st,K=>K st
 | o :: os,st,K=>match o.guard with
  | none=>Q53 P mt fz all os K (fun st'=>runX P mt fz all os st' K) o.dst st o.op
  | some (j,want)=>Q8M P mt fz all os K (fun st'=>runX P mt fz all os st' K) o.dst st o.op want ((all[j]?).bind (·.dst))
theorem goX_one {P:Program} [Kd P] {mt:MT} {fz:List Nat} {all:Array Oper} {o:Oper} {os:List Oper} {st:St} {K R:St→Prop} (hw:Q3c all o st=some true)
  (ih:∀ st',R st'→Q2H P mt all os st' K) (h:Q53 P mt fz all os K R o.dst st o.op):Q2H P mt all (o :: os) st K:=by
 refine .inl ⟨hw,?_⟩;unfold Q53 at h;split at h
 ·rename_i x args ts ho;unfold Q6Y at h;split at h
  ·rename_i f caps hx;rcases h with (⟨bs,res,h1,h2,h3⟩|⟨h0,args,ms,res,m,Pt,sets,dels,h1,h2,h3,h4,h5,h6⟩|⟨h0,e,h1,h2⟩)|⟨keep,bs,res,h1,h2,h3⟩
   ·exact ⟨_,.call ho rfl hx h1 h2,h3⟩
   ·exact ⟨_,.mcall (Q5c h0 ho hx) ho rfl hx h1 h2 h3 h4 h5,h6⟩
   ·exact ⟨_,.icall (Q5c h0 ho hx) ho rfl hx h1,h2⟩
   exact ⟨_,.fcall ho rfl hx h1 h2,h3⟩
  ·rename_i f rs hx;rcases h with ⟨bs,res,h1,h2,h3⟩|⟨keep,bs,res,h1,h2,h3⟩
   ·exact ⟨_,.callb ho rfl hx h1 h2,h3⟩
   exact ⟨_,.fcallb ho rfl hx h1 h2,h3⟩
  exact h.elim
 ·rename_i x name args ts ho;unfold Q6Z at h;split at h
  ·rename_i t cs hx;exact h.elim
  ·rename_i t sz es hx;exact h.elim
  exact h.elim
 ·rename_i t a x ho;unfold Q4x at h;split at h
  ·rename_i c e he;exact ⟨e,.blt (by rw [ho];exact he) h.1,ih _ h.2⟩
  rcases h with (⟨ty,id,i,k,b,sz,es,ds,dels,h1,h2,h3,h4,h5⟩|⟨ty,id,i,az,bs,sz,es,ds,dels,h1,h2,h3,h3',h4,h5⟩)|⟨h0,e,h1,h2⟩
  ·exact ⟨_,.sto ho h1 h2 h3 h4,h5⟩
  ·exact ⟨_,.stg ho h1 h2 h3 h3' h4,h5⟩
  exact ⟨e,.sem (by rw [ho];exact h0) (by rw [ho];exact h1),h2⟩
 ·rename_i args ts ho;unfold Q4x at h;split at h
  ·rename_i c e he;exact ⟨e,Q91 (fz:=fz) (dst:=o.dst) (by rw [ho];exact he) h.1,ih _ h.2⟩
  obtain ⟨h0,e,h1,h2⟩:=h;exact ⟨e,.sem (by rw [ho];exact h0) (by rw [ho];exact h1),h2⟩
 ·rename_i t x k ok ho;unfold Q4x at h;split at h
  ·rename_i c e he;exact ⟨e,Q91 (fz:=fz) (dst:=o.dst) (by rw [ho];exact he) h.1,ih _ h.2⟩
  obtain ⟨h0,e,h1,h2⟩:=h;exact ⟨e,.sem (by rw [ho];exact h0) (by rw [ho];exact h1),h2⟩
 ·rename_i t x k y ho;unfold Q4x at h;split at h
  ·rename_i c e he;exact ⟨e,Q91 (fz:=fz) (dst:=o.dst) (by rw [ho];exact he) h.1,ih _ h.2⟩
  obtain ⟨h0,e,h1,h2⟩:=h;exact ⟨e,.sem (by rw [ho];exact h0) (by rw [ho];exact h1),h2⟩
 ·rename_i args ts ho;obtain ⟨h0,e,h1,h2⟩:=h;exact ⟨e,.sem (by rw [ho];exact h0) (by rw [ho];exact h1),h2⟩
 unfold Q5Y at h;split at h
 ·rename_i c e he;exact ⟨e,Q91 he h.1,ih _ h.2⟩
 exact h.elim
theorem Q3g {P:Program} [Kd P] {mt:MT} {fz:List Nat} {all:Array Oper}:∀ (os:List Oper) (st:St) (K:St→Prop),runX P mt fz all os st K→Q2H P mt all os st K:=by
 intro os
 induction os with
 | nil=>intro st K h;exact h
 | cons o os ih =>
  intro st K h;unfold runX at h;split at h
  ·rename_i hg;exact goX_one (by simp [Q3c,hg]) (fun st'=>ih st' K) h
  rename_i j want hg;unfold Q8M at h;split at h
  ·rename_i t ht;unfold guardXW at h;split at h
   ·rename_i b hb;have hput:∀ b',b=b'→st.put t (.val (.bool b'))=st:=(by rintro _ rfl;exact St.put_get hb (by simp));obtain ⟨h1,h2⟩:=h
    by_cases hbw:b=want
    ·have h1:=h1 hbw;rw [hput _ hbw] at h1;exact goX_one (by simp only [Q3c,hg,ht,hb,hbw,beq_self_eq_true]) (fun st'=>ih st' K) h1
    have hb':b = !want:=(by cases b<;>cases want<;>simp_all);have h2:=h2 hb';rw [hput _ hb'] at h2;refine .inr ⟨?_,ih _ _ h2⟩;have:(b == want)=false:=(by simpa using hbw);simp only [Q3c,hg,ht,hb,this]
   ·rename_i htt;refine .inr ⟨?_,ih _ _ h⟩;simp only [Q3c,hg,ht,htt]
   exact h.elim
  exact h.elim
section
variable {P:Program} [Kd P] {mt:MT} {fz:List Nat} {all:Array Oper} {f:Nat} {az bs:List AV} {res:AV} {dst:Option Nat} {os:List Oper} {st:St} {K:St→Prop}
theorem Q2U (hc:Contract P f bs res) (hp:PurL st.hp az bs) (h:runX P mt fz all os (st.app dst (unk st.n res)) K):callX P mt all f az dst os st K:=.inl (.inl ⟨bs,res,hp,hc,Q3g _ _ _ h⟩)
theorem callX_fro (keep:Bool) (hc:FContract P keep f bs res) (hp:PurK keep st.hp az bs) (h:runX P mt fz all os (st.app dst { v:=res }) K):callX P mt all f az dst os st K:=.inr ⟨keep,bs,res,hp,hc,Q3g _ _ _ h⟩
theorem callX_in {e:Eff} (hc:ICon P f az st.hp st.n e) (h:runX P mt fz all os (st.app dst e) K) (hm:mt.may f=true:=by rfl):callX P mt all f az dst os st K:=.inl (.inr (.inr ⟨hm,e,hc,Q3g _ _ _ h⟩))
theorem Qa0 {op:Op} {t:TypeId} {ty:Tyi} {xv b:AV} {id i k sz:Nat} {es:List (List AV)} {ds:List Nat} (dels:List Nat) (h1:tyi P t=some ty) (h2:ty.sz=1)
  (h3:Sto st.hp st.n id i k xv b sz es ds dels) (h:runX P mt fz all os (st.app dst { v:=.bot,set:=[(id,.row sz (es.set i ((es.getD i []).set k b)))],del:=ds++dels }) K):stoZ P mt all op t (.adr id i k) xv dst os st K :=
 .inl <| .inl ⟨ty,id,i,k,b,sz,es,ds,dels,h1,h2,rfl,h3,Q3g _ _ _ h⟩
theorem PurK.ofL {h:HP} (hp:PurL h az bs):PurK false h az bs:=hp
end
theorem Q2z {P:Program} [Kd P] {F:Fx} {AQ:Exit→St→Prop} {st:St} {id:Nat} {ops:Array Oper} {d:Bool} (fz:List Nat) (hm:P.follows .mixedOrders=true) (hok:(okN F.N ops && (!d || (Q4a false ops && Q2L ops)))=true)
  (h:∀ K:St→Prop,(∀ st',AQ .normal st'→K st')→runX P false fz ops ops.toList st K):Wp P F (.region id ops d) AQ st :=
 Q4m hm hok fun K hK=>Q3g _ _ _ (h K hK)
theorem w_runXM {P:Program} [Kd P] {F:Fx} {AQ:Exit→St→Prop} {st:St} {id:Nat} {ops:Array Oper} {d:Bool} (fz:List Nat) (hm:P.follows .mixedOrders=true) (hok:(okN F.N ops && (!d || (Q4a true ops && Q2L ops)))=true)
  (h:∀ K:St→Prop,(∀ st',AQ .normal st'→K st')→runX P true fz ops ops.toList st K):Wp P F (.region id ops d) AQ st :=
 Q4m hm hok fun K hK=>Q3g _ _ _ (h K hK)
theorem w_runXR {P:Program} [Kd P] {F:Fx} {AQ:Exit→St→Prop} {st:St} {id:Nat} {ops:Array Oper} {d:Bool} (lk:Bool) (fz ro:List Nat) (hm:P.follows .mixedOrders=true) (hok:(okN F.N ops && (!d || (Q4a ⟨true,ro,lk,[]⟩ ops && Q2L ops)))=true)
  (h:∀ K:St→Prop,(∀ st',AQ .normal st'→K st')→runX P ⟨true,ro,lk,[]⟩ fz ops ops.toList st K):Wp P F (.region id ops d) AQ st :=
 Q4m hm hok fun K hK=>Q3g _ _ _ (h K hK)
def rE (P:Program) [Kd P] (mt:MT) (fz:List Nat) (all:Array Oper) (os:List Oper) (dst:Option Nat) (st:St) (K:St→Prop) (x:Option (Prop × Eff)):Prop:=Q5Y (fun st'=>runX P mt fz all os st' K) dst st x
def rS (P:Program) [Kd P] (mt:MT) (fz:List Nat) (all:Array Oper) (os:List Oper) (dst:Option Nat) (st:St) (K:St→Prop) (op:Op) (t:TypeId) (av xv:AV) (x:Option (Prop × Eff)):Prop:=Q4x (fun st'=>runX P mt fz all os st' K) (stoZ P mt all op t av xv dst os st K) dst st x
def rL (P:Program) [Kd P] (mt:MT) (fz:List Nat) (all:Array Oper) (os:List Oper) (dst:Option Nat) (st:St) (K:St→Prop) (op:Op) (x:Option (Prop × Eff)):Prop:=Q4x (fun st'=>runX P mt fz all os st' K) (semA P mt all op dst os st K) dst st x
def rO (P:Program) [Kd P] (mt:MT) (fz:List Nat) (all:Array Oper) (os:List Oper) (dst:Option Nat) (st:St) (K:St→Prop) (op:Op):Prop:=Q53 P mt fz all os K (fun st'=>runX P mt fz all os st' K) dst st op
section
variable {P:Program} [Kd P] {mt:MT} {fz:List Nat} {all:Array Oper} {os:List Oper} {dst:Option Nat} {st:St} {K:St→Prop} {op:Op} {ty:TypeId} {pos:String} {af:Array Edge}
@[simp] theorem rE_some {c:Prop} {e:Eff}:rE P mt fz all os dst st K (some (c,e))=(c∧runX P mt fz all os (st.app dst e) K):=rfl
@[simp] theorem callIX_ifc {name:String} {t:Nat} {cs az:List AV}:Q6Z P mt all name az dst os st K (.ifc t cs)=callI P mt all (mth P t name) (.agg cs :: az) dst os st K:=rfl
@[simp] theorem callIX_ifs {name:String} {t sz:Nat} {es:List (List AV)} {az:List AV}:Q6Z P mt all name az dst os st K (.ifs t sz es)=callI P mt all (mth P t name) (.lst true sz es :: az) dst os st K:=rfl
@[simp] theorem mkI_agg {t:TypeId} {b:Bool} {cs:List AV}:mkI t true b (.agg cs)=some (True,{ v:=.ifc t cs }):=rfl
@[simp] theorem asA_ifs {s t sz:Nat} {es:List (List AV)}:asA P s true (.ifs t sz es)=asB t sz es (tas P s t):=rfl
@[simp] theorem asB_true {t sz:Nat} {es:List (List AV)}:asB t sz es true=some (True,{ v:=.tup [.ifs t sz es,.val (.bool true)] }):=rfl
@[simp] theorem callEX_bnd {f:Nat} {rs az:List AV}:Q6Y P mt all az dst os st K (.bnd f rs)=callB P mt all f (rs++az) dst os st K:=rfl
@[simp] theorem callEX_fn {f:Nat} {caps az:List AV}:Q6Y P mt all az dst os st K (.fn f caps)=callX P mt all f (az++caps) dst os st K:=rfl
@[simp] theorem rO_call {x:Operand} {args:Array Operand} {ts:Array TypeId}:rO P mt fz all os dst st K (.call ⟨.value x,args,ts⟩)=Q6Y P mt all (args.toList.map st.ev) dst os st K (st.ev x):=rfl
@[simp] theorem rO_move {x}:rO P mt fz all os dst st K (.move x)=runX P mt fz all os (st.app dst { v:=st.ev x }) K:=by simp [rO,Q53,Q5Y,opX,opF]
@[simp] theorem rO_assign {x}:rO P mt fz all os dst st K (.assign x)=runX P mt fz all os (st.app dst { v:=st.ev x }) K:=by simp [rO,Q53,Q5Y,opX,opF]
@[simp] theorem rO_pick {c a b}:rO P mt fz all os dst st K (.pick c a b)=rE P mt fz all os dst st K (pick (st.ev c) (st.ev a) (st.ev b)):=rfl
@[simp] theorem rO_alloc {e}:rO P mt fz all os dst st K (.alloc e)=rE P mt fz all os dst st K (Vc.alloc (tyi P e) st.n):=rfl
@[simp] theorem rO_box {t x}:rO P mt fz all os dst st K (.box t x)=rE P mt fz all os dst st K (bif inZ fz dst then boxr (st.ev x) else boxv (st.ev x) st.n):=rfl
@[simp] theorem rO_build {t parts}:rO P mt fz all os dst st K (.build t parts)=rE P mt fz all os dst st K (build (tyi P t) (Q4c P t) (parts.toList.map fun p=>(p.1,st.ev p.2))):=rfl
@[simp] theorem rO_buildSlice {t len parts}:rO P mt fz all os dst st K (.buildSlice t len parts)=rE P mt fz all os dst st K (elmE (fun e=>buildSlice (tyi P e) len (parts.toList.map fun p=>(p.1,st.ev p.2)) st.n) (elm P t)):=by
 simp only [rO,rE,Q53,opX,opF];cases elm P t<;>rfl
@[simp] theorem rO_load {t a}:rO P mt fz all os dst st K (.load t a)=rE P mt fz all os dst st K (Q4W (tyi P t) (st.ev a) st.hp st.n):=rfl
@[simp] theorem rO_store {t a x}:rO P mt fz all os dst st K (.store t a x)=rS P mt fz all os dst st K (.store t a x) t (st.ev a) (st.ev x) (Q3k (tyi P t) (st.ev a) (st.ev x) st.hp):=rfl
@[simp] theorem rS_some {op:Op} {t:TypeId} {av xv:AV} {c:Prop} {e:Eff}:rS P mt fz all os dst st K op t av xv (some (c,e))=(c∧runX P mt fz all os (st.app dst e) K):=rfl
@[simp] theorem rS_none {op:Op} {t:TypeId} {av xv:AV}:rS P mt fz all os dst st K op t av xv none=stoZ P mt all op t av xv dst os st K:=rfl
@[simp] theorem rO_nilCheck {x}:rO P mt fz all os dst st K (.nilCheck x)=rE P mt fz all os dst st K (nilCheck (st.ev x)):=rfl
@[simp] theorem rO_binOp {o xt x y yt}:rO P mt fz all os dst st K (.binOp o xt x y yt)=rE P mt fz all os dst st K (Q3X (eqT P xt) o (st.ev x) (st.ev y)):=rfl
@[simp] theorem rO_unOp {o t x}:rO P mt fz all os dst st K (.unOp o t x)=rE P mt fz all os dst st K (unop o (st.ev x)):=rfl
@[simp] theorem rO_convert {s d x}:rO P mt fz all os dst st K (.convert s d x)=rE P mt fz all os dst st K (bif inZ fz dst then convS (byS P s d) st.hp (st.ev x) else Q5S (intk P s) (intk P d) (st.ev x)):=rfl
@[simp] theorem rO_makeSlice {t l c}:rO P mt fz all os dst st K (.makeSlice t l c)=rE P mt fz all os dst st K (bif inZ fz dst then Q8R P (elm P t) (st.ev l) (st.ev c) st.n else elmE (fun e=>Q4K (tyi P e) (st.ev l) (st.ev c) st.n) (elm P t)):=by
 simp only [rO,rE,Q53,opX,opF];cases elm P t<;>rfl
@[simp] theorem makeSX_some {e:TypeId} {l c:AV} {n:Nat}:Q8R P (some e) l c n=Q4L (some (((elm P e).bind (tyi P)).getD ⟨false,1,8,[]⟩)) (tyi P e) l c n:=rfl
attribute [simp] Q4L zc
@[simp] theorem rO_fieldAddr {t x k}:rO P mt fz all os dst st K (.fieldAddr t x k)=rE P mt fz all os dst st K (fieldAddr (fld P t k) (st.ev x)):=rfl
@[simp] theorem rO_field {t x k}:rO P mt fz all os dst st K (.field t x k)=rE P mt fz all os dst st K (Q5j (fld P t k) (st.ev x)):=rfl
@[simp] theorem rO_indexAddr {t x i}:rO P mt fz all os dst st K (.indexAddr t x i)=rE P mt fz all os dst st K (elmE (fun e=>Q2A (tyi P e) (st.ev x) (st.ev i) st.hp) (elm P t)):=by
 simp only [rO,rE,Q53,opX,opF];cases elm P t<;>rfl
@[simp] theorem rO_extract {x k}:rO P mt fz all os dst st K (.extract x k)=rE P mt fz all os dst st K (Q2V (st.ev x) k):=rfl
@[simp] theorem rO_len {x t}:rO P mt fz all os dst st K (.call ⟨.builtin .len,#[x],#[t]⟩)=rE P mt fz all os dst st K (bif inZ fz dst then lenm (mty P t) (Q2Y st.hp (st.ev x)) else elmE (fun _=>lenv (st.ev x)) (elm P t)):=by
 simp only [rO,rE,Q53,opX];cases inZ fz dst<;>cases elm P t<;>rfl
@[simp] theorem rO_append {x y t u}:rO P mt fz all os dst st K (.call ⟨.builtin .append,#[x,y],#[t,u]⟩)=rL P mt fz all os dst st K (.call ⟨.builtin .append,#[x,y],#[t,u]⟩) (elmE (fun e=>if t=u then (bif inZ fz dst then appM (tyi P e) (st.ev x) (st.ev y) st.hp st.n else Q2e (tyi P e) (st.ev x) (st.ev y) st.hp st.n) else none) (elm P t)):=by
 simp only [rO,rL,Q53,opX];cases elm P t<;>rfl
@[simp] theorem rO_min {xs ts}:rO P mt fz all os dst st K (.call ⟨.builtin .min,xs,ts⟩)=rE P mt fz all os dst st K (Q3D (fun a b=>if b<a then b else a) (xs.toList.map st.ev)):=rfl
@[simp] theorem rO_max {xs ts}:rO P mt fz all os dst st K (.call ⟨.builtin .max,xs,ts⟩)=rE P mt fz all os dst st K (Q3D (fun a b=>if b > a then b else a) (xs.toList.map st.ev)):=rfl
@[simp] theorem Qah {t x}:rO P mt fz all os dst st K (.makeInterface t x)=rE P mt fz all os dst st K (mkI t (sty P t) (slt P t) (st.ev x)):=rfl
@[simp] theorem rO_typeAssert {x xt s ok}:rO P mt fz all os dst st K (.typeAssert x xt s ok)=rE P mt fz all os dst st K (asA P s ok (st.ev x)):=rfl
@[simp] theorem rO_invoke {x:Operand} {name:String} {args:Array Operand} {ts:Array TypeId}:rO P mt fz all os dst st K (.call ⟨.invoke x name,args,ts⟩)=Q6Z P mt all name (args.toList.map st.ev) dst os st K (st.ev x):=rfl
@[simp] theorem rO_makeFuncB {f r}:rO P mt fz all os dst st K (.makeFunc (.func f) #[r] #[])=rE P mt fz all os dst st K (some (True,{ v:=.bnd f [st.ev r] })):=rfl
@[simp] theorem rO_makeFunc {f caps}:rO P mt fz all os dst st K (.makeFunc (.func f) #[] caps)=rE P mt fz all os dst st K (some (True,{ v:=.fn f (caps.toList.map st.ev) })):=rfl
@[simp] theorem rO_makeMap {t}:rO P mt fz all os dst st K (.makeMap t none)=rE P mt fz all os dst st K (makv (mty P t) st.n):=rfl
@[simp] theorem rL_some {op:Op} {c:Prop} {e:Eff}:rL P mt fz all os dst st K op (some (c,e))=(c∧runX P mt fz all os (st.app dst e) K):=rfl
@[simp] theorem rL_none {op:Op}:rL P mt fz all os dst st K op none=semA P mt all op dst os st K:=rfl
theorem Q9L {op:Op} {e:Eff} (hs:SemOp P op st.ev st.hp st.n e) (h:runX P mt fz all os (st.app dst e) K) (hm:(mt.on && wrM mt op)=true:=by rfl):semA P mt all op dst os st K:=⟨hm,e,hs,Q3g _ _ _ h⟩
@[simp] theorem rO_clear {args:Array Operand} {ts:Array TypeId}:rO P mt fz all os dst st K (.call ⟨.builtin .clear,args,ts⟩)=semA P mt all (.call ⟨.builtin .clear,args,ts⟩) dst os st K:=rfl
@[simp] theorem MK.plain_ext {x:XP}:(MK.ext x).plain=false:=rfl
@[simp] theorem rO_lookup {t x k ok}:rO P mt fz all os dst st K (.lookup t x k ok)=rL P mt fz all os dst st K (.lookup t x k ok) (Q4X (mty P t) (Q2Y st.hp (st.ev x)) (st.ev k) ok):=rfl
@[simp] theorem rO_mapUpdate {t x k y}:rO P mt fz all os dst st K (.mapUpdate t x k y)=rL P mt fz all os dst st K (.mapUpdate t x k y) (updv (mty P t) st.hp (st.ev x) (st.ev k) (st.ev y)):=rfl
@[simp] theorem runX_nil:runX P mt fz all [] st K=K st:=rfl
@[simp] theorem runX_go:runX P mt fz all (⟨dst,op,ty,pos,af,none⟩ :: os) st K=rO P mt fz all os dst st K op:=rfl
end
section
variable {h:HP} {n:Nat} {sz off m id:Nat} {es:List (List AV)} {kd:MK} {me:List (Value × Value)} {z:Value} {t:Tyi}
def srcME (sz off m:Nat):Option Ent→Option (Prop × List (List AV))
 | some (.mix sz' es)=>if sz'=sz then some (off+m≤es.length,(es.drop off).take m) else none
 | _=>none
def baseME (sz id m:Nat):Option Ent→Option (Prop × List (List AV) × List Nat)
 | some (.mix sz' es)=>if sz'=sz then some (m=es.length,es,[id]) else none
 | _=>none
def mcontE:Option Ent→Option (MK × List (Value × Value))
 | some (.mapE kd es)=>if kd.plain=true then some (kd,es) else none
 | _=>none
noncomputable def updE (kd:MK) (id:Nat) (kv v:Value):Option Ent→Option (Prop × Eff)
 | some (.mapE kd' es)=>if kd'=kd∧kd.is kv=true then some (es.length<1099511627776,{ v:=.bot,set:=[(id,.mapE kd (mset kv v es))] }) else none
 | _=>none
theorem srcM_nil:srcM h sz (.val (.slice none 0 0))=some (True,[]):=rfl
theorem srcM_lst {u:Bool} {sz':Nat}:srcM h sz (.lst u sz' es)=if sz'=sz then some (True,es) else none:=rfl
theorem srcM_E:srcM h sz (.own id off m)=srcME sz off m (h id):=rfl
@[simp] theorem srcME_mix {sz':Nat}:srcME sz off m (some (.mix sz' es))=if sz'=sz then some (off+m≤es.length,(es.drop off).take m) else none:=rfl
theorem baseM_nil:Q5Q h sz (.val (.slice none 0 0))=some (True,[],[]):=rfl
theorem baseM_E:Q5Q h sz (.own id 0 m)=baseME sz id m (h id):=rfl
@[simp] theorem baseME_mix {sz':Nat}:baseME sz id m (some (.mix sz' es))=if sz'=sz then some (m=es.length,es,[id]) else none:=rfl
def appME (t:Tyi) (n:Nat):Option (Prop × List (List AV) × List Nat)→Option (Prop × List (List AV))→Option (Prop × Eff)
 | some (c1,es,i),some (c2,news)=>some ((0<news.length∨i ≠ [])∧n ∉ i∧c1∧c2∧(es.length+news.length) * t.bytes≤140737488355328∧es.length+news.length≤140737488355328∧0<t.sz,
    { v:=.own n 0 (es.length+news.length),del:=i,new:=[(n,.mix t.sz (es++news))],cnt:=1 })
 | _,_=>none
theorem appM_E {s x:AV}:appM (some t) s x h n=appME t n (Q5Q h t.sz s) (srcM h t.sz x):=by
 simp only [appM,appME];cases Q5Q h t.sz s with
 | none=>rfl
 | some p=>cases srcM h t.sz x<;>rfl
@[simp] theorem appME_some {c1 c2:Prop} {i:List Nat} {news:List (List AV)}:appME t n (some (c1,es,i)) (some (c2,news))=some ((0<news.length∨i ≠ [])∧n ∉ i∧c1∧c2∧(es.length+news.length) * t.bytes≤140737488355328∧es.length+news.length≤140737488355328∧0<t.sz,
    { v:=.own n 0 (es.length+news.length),del:=i,new:=[(n,.mix t.sz (es++news))],cnt:=1 }):=rfl
theorem mcont_mp:Q2Y h (.mp id)=mcontE (h id):=rfl
theorem Q9E:Q2Y h (.cmap kd me)=some (kd,me):=rfl
@[simp] theorem mcontE_map:mcontE (some (.mapE kd me))=if kd.plain=true then some (kd,me) else none:=rfl
theorem Q9B {kd':MK} {kv:Value} {ok:Bool}:Q4X (some (kd,z)) (some (kd',me)) (.val kv) ok=if kd'=kd∧kd.is kv=true then
   some (True,{ v:=bif ok then .tup [.val ((Q1k kv me).getD z),.val (.bool (Q1k kv me).isSome)] else .val ((Q1k kv me).getD z) }) else none:=rfl
theorem lookv_agg {kd':MK} {az:List AV} {ok:Bool}:Q4X (some (kd,z)) (some (kd',me)) (.agg az) ok=(Q2 az).elim none fun l=>if kd'=kd∧kd.is (.agg (l.map (Value.int .i64)).toArray)=true then
   some (True,{ v:=bif ok then .tup [.val ((Q1k (.agg (l.map (Value.int .i64)).toArray) me).getD z),.val (.bool (Q1k (.agg (l.map (Value.int .i64)).toArray) me).isSome)] else .val ((Q1k (.agg (l.map (Value.int .i64)).toArray) me).getD z) }) else none:=by
 simp only [Q4X,keyV];cases Q2 az<;>rfl
theorem updv_agg {az:List AV} {v:Value}:updv (some (kd,z)) h (.mp id) (.agg az) (.val v)=(Q2 az).elim none fun l=>updE kd id (.agg (l.map (Value.int .i64)).toArray) v (h id):=by
 simp only [updv,keyV];cases Q2 az<;>rfl
theorem updv_mp {kv v:Value}:updv (some (kd,z)) h (.mp id) (.val kv) (.val v)=updE kd id kv v (h id):=rfl
@[simp] theorem updE_map {kd':MK} {kv v:Value}:updE kd id kv v (some (.mapE kd' me))=if kd'=kd∧kd.is kv=true then some (me.length<1099511627776,{ v:=.bot,set:=[(id,.mapE kd (mset kv v me))] }) else none:=rfl
theorem makv_some:makv (some (kd,z)) n=some (True,{ v:=.mp n,new:=[(n,.mapE kd [])],cnt:=1 }):=rfl
theorem lenm_some {p:MK × Value} {kd':MK}:lenm (some p) (some (kd',me))=some (True,{ v:=.val (.int .i64 me.length) }):=rfl
end
theorem boxr_if {x:AV}:boxr x=if x.cells.all AV.ro && x.shr then some (True,{ v:=.rptr x.cells }) else none:=rfl
attribute [simp] srcM_nil srcM_lst srcM_E baseM_nil baseM_E appM_E mcont_mp Q9E Q9B updv_mp lookv_agg updv_agg makv_some lenm_some boxr_if inZ AV.ro AV.shr MK.is
attribute [simp] rl
def Em {α β:Type} (ek:α→Value) (ev:β→Value) (xs:List (α × β)):List (Value × Value):=xs.map fun p=>(ek p.1,ev p.2)
def Q2r {α β:Type} [DecidableEq α] (k:α):List (α × β)→Option β
 | []=>none
 | (a,v) :: r=>if a=k then some v else Q2r k r
def tset {α β:Type} [DecidableEq α] (k:α) (v:β):List (α × β)→List (α × β)
 | []=>[(k,v)]
 | (a,x) :: r=>if a=k then (a,v) :: r else (a,x) :: tset k v r
theorem Q8T {α β:Type} [DecidableEq α] {ek:α→Value} {ev:β→Value} (hi:∀ a b,ek a=ek b→a=b) (k:α):∀ xs:List (α × β),Q1k (ek k) (Em ek ev xs)=(Q2r k xs).map ev:=by
 intro xs
 induction xs with
 | nil=>rfl
 | cons p r ih =>
  obtain ⟨a,v⟩:=p;simp only [Em,List.map_cons,Q1k,Q2r]
  by_cases h:a=k
  ·subst h;simp
  rw [if_neg (fun h'=>h (hi _ _ h')),if_neg h];exact ih
theorem mset_Em {α β:Type} [DecidableEq α] {ek:α→Value} {ev:β→Value} (hi:∀ a b,ek a=ek b→a=b) (k:α) (v:β):∀ xs:List (α × β),mset (ek k) (ev v) (Em ek ev xs)=Em ek ev (tset k v xs):=by
 intro xs
 induction xs with
 | nil=>rfl
 | cons p r ih =>
  obtain ⟨a,x⟩:=p;simp only [Em,List.map_cons,mset,tset]
  by_cases h:a=k
  ·subst h;simp
  rw [if_neg (fun h'=>h (hi _ _ h')),if_neg h];simp only [List.map_cons];have:mset (ek k) (ev v) (r.map fun p=>(ek p.1,ev p.2))=(tset k v r).map fun p=>(ek p.1,ev p.2):=ih;rw [this]
def vI (x:Int):Value:=.int .i64 x
def vS (x:ByteArray):Value:=.string x
def Msi (xs:List (ByteArray × Int)):List (Value × Value):=Em vS vI xs
theorem vS_inj (a b:ByteArray) (h:vS a=vS b):a=b:=by cases h;rfl
@[simp] theorem Msi_nil:Msi []=[]:=rfl
@[simp] theorem Msi_length (xs:List (ByteArray × Int)):(Msi xs).length=xs.length:=by simp [Msi,Em]
@[simp] theorem find_Msi (k:ByteArray) (xs:List (ByteArray × Int)):(Q1k (.string k) (Msi xs)).getD (.int .i64 0) = .int .i64 ((Q2r k xs).getD 0):=by
 have:=Q8T (ev:=vI) vS_inj k xs;show ((Q1k (vS k) (Em vS vI xs)).getD (vI 0))=_;rw [this];cases Q2r k xs<;>rfl
@[simp] theorem some_Msi (k:ByteArray) (xs:List (ByteArray × Int)):(Q1k (.string k) (Msi xs)).isSome=(Q2r k xs).isSome:=by
 have:=Q8T (ev:=vI) vS_inj k xs;show (Q1k (vS k) (Em vS vI xs)).isSome=_;rw [this];cases Q2r k xs<;>rfl
@[simp] theorem set_Msi (k:ByteArray) (v:Int) (xs:List (ByteArray × Int)):mset (.string k) (.int .i64 v) (Msi xs)=Msi (tset k v xs):=mset_Em (ev:=vI) vS_inj k v xs
@[simp] theorem set_Msi0 (k:ByteArray) (v:Int):mset (.string k) (.int .i64 v) []=Msi [(k,v)]:=rfl
structure RetF (keep:Bool) (ts:List Nat) (st:St) (rs:List AV):Prop where
 len:rs.length=ts.length
 pur:∀ k,k<ts.length→PurTo st.hp (st.get (ts.getD k 0)) (rs.getD k .bot)
 own:keep=false→∀ k,k<ts.length→(match st.get (ts.getD k 0) with|.val _=>True|.mp _=>True|_=>False)
def retFQ (keep:Bool) (ts:List Nat) (rs:List AV):Exit→St→Prop
 | .normal,st=>RetF keep ts st rs
 | .ret,st=>RetF keep ts st rs
 | _,_=>False
theorem Q5i {P:Program} [Kd P] (keep:Bool) {f:Nat} {fn:Func} {c:Code} {args:List AV} {ts:List Nat} {rs:List AV} {res:AV} (hf:P.funcs[f]? = some fn) (hb:fn.body=some c) (hrt:resT fn.results=some ts) (hrs:res=Q1N rs)
  (hname : (fn.name == "runtime.NumGoroutine") = false) (hN : args.length ≤ fn.ntmps) (h : ∀ F : Fx, F.N = fn.ntmps → F.pins = 0 → Wp P F c (retFQ keep ts rs) ⟨Q3A 0 args, [], 0⟩) : FContract P keep f args res := by
 subst hrs;refine ⟨⟨fn,hf,hname,by rw [hb];rfl⟩,fun w R vals hR hsz hx=>?_⟩;refine Q2f hf hb ?_
 let C:Ctx:=⟨w,fun _=>False,fun _=>none,0⟩
 have hrel:Rel C R fn.ntmps { tmps:=vals++Array.replicate (fn.ntmps - vals.size) undef,defers:=[] } w ⟨Q3A 0 args,[],0⟩:=by
  refine ⟨by simp;omega,rfl,(fun id x h=>by cases h),fun _=>none,noρ,⟨fun b hb=>⟨hR b hb,rfl⟩,(fun b L hb=>by cases hb),rfl,⟨rfl,Nat.le_refl _⟩,rfl,Nat.le_refl _,fun b _ _=>rfl⟩,⟨(fun id sz es bk _ hb=>by cases hb),(fun id sz es bk _ hb=>by cases hb),(fun id c i k sz bk _ hb=>by cases hb),(fun id kd es bk _ hb=>by cases hb)⟩,fun t=>?_,(fun id k hk=>by cases hk),(fun id hid=>by cases hid),Nat.le_refl _⟩;simp only [St.get,Q2J]
  by_cases ht:t<args.length
  ·rw [if_pos (by omega)];simp only [Nat.sub_zero,Option.getD_some];have:=hx t ht;have h2:(vals++Array.replicate (fn.ntmps - vals.size) undef).getD t undef=vals.getD t undef:=by
    simp [Array.getElem?_append,show t<vals.size by omega]
   rw [h2];exact this
  rw [if_neg (by omega)];exact .bot
 refine Q4o (fun e a w' hq=>?_) (h ⟨C,R,fn.ntmps,0,rfl⟩ rfl rfl _ w (.of hrel));obtain ⟨st,⟨R',hX,hr⟩,hq⟩:=hq;have fin:RetF keep ts st rs→a.defers=[]∧∃ v,(results fn a.tmps).run P w' = .ok v w'∧∃ v' R1,Ending.returned v = .returned v'∧Blw w.heap.size w w'∧(∀ b,R1 b→b<w'.heap.size∧((keep=true∧R b)∨w.heap.size≤b))∧XRel w' R1 noρ v' (Q1N rs):=by
  intro hA;obtain ⟨_,hdef,_,o,ρ,W,H,hxx,_⟩:=hr
  let R1:Nat→Prop:=if keep then RAll ⟨R',o,ρ⟩ else fun b=>∃ L,o b=some L
  have hown:∀ b L,o b=some L→b<w'.heap.size∧w.heap.size≤b:=fun b L hb=>by
   obtain ⟨q1,q2⟩:=W.o b L hb;exact ⟨q1,q2.resolve_right id⟩
  have hR1:∀ b,R1 b→b<w'.heap.size∧((keep=true∧R b)∨w.heap.size≤b):=fun b hb=>by
   cases keep with
   | true =>
    rcases (show RAll ⟨R',o,ρ⟩ b from hb) with hb|⟨L,hb⟩
    ·exact ⟨(W.R b hb).1,(hX.2 b hb).imp (fun h=>⟨rfl,h⟩) id⟩
    exact ⟨(hown b L hb).1,.inr (hown b L hb).2⟩
   | false =>
    obtain ⟨L,hb⟩:=hb;exact ⟨(hown b L hb).1,.inr (hown b L hb).2⟩
  have hcell:∀ k,k<ts.length→XRel w' R1 noρ (a.tmps.getD (ts.getD k 0) undef) (rs.getD k .bot):=by
   intro k hk;have h1:=hA.pur k hk;have h2:=hxx (ts.getD k 0);cases hkp:keep with
   | true=>subst hkp;exact (Q5w H h1 h2).1
   | false =>
    subst hkp;have h3:=hA.own rfl k hk;generalize st.get (ts.getD k 0)=av at h1 h2 h3;generalize rs.getD k .bot=rv at h1 ⊢;generalize a.tmps.getD (ts.getD k 0) undef=vv at h2 ⊢;cases av with
    | val v =>
     cases h1 with
     | val=>obtain ⟨rfl,hs⟩:=h2.val_eq;exact .r (.val hs)
     | nil=>obtain ⟨rfl,hs⟩:=h2.val_eq;exact .r (.nil (by decide))
    | mp id =>
     cases h1 with
     | mp he hk =>
      obtain ⟨b,rfl,hb⟩:=h2.mp_eq;obtain ⟨b',q1,q2,q3,q4⟩:=(H.map _ _ _ _ he hb).plain hk;simp only [Bk.mk.injEq,Option.some.injEq,and_true] at q1;subst q1;exact .r (.cmap ⟨_,q2⟩ q3 q4)
    | _=>exact h3.elim
  refine ⟨hdef,_,Q3N hrt _,_,R1,rfl,⟨W.os,W.tape,W.output,W.size,fun b hb=>W.keep b hb id⟩,hR1,?_⟩;have hl:=hA.len
  match ts,rs,hl,hcell with
  | [],[],_,_=>exact .tup rfl fun k hk=>by simp at hk
  | [t],[r],_,hcell=>exact hcell 0 (by simp)
  | t :: u :: ts,r :: s :: rs,hl,hcell =>
   simp only [List.map_cons,Q2q,Q1N];refine .tup (by simp at hl;simp;omega) fun k hk=>?_;have hk':k<(t :: u :: ts).length:=(by simp at hl hk;simp;omega);have:=hcell k hk';have h1:((a.tmps.getD t undef :: a.tmps.getD u undef :: ts.map fun t=>a.tmps.getD t undef).toArray).getD k undef=a.tmps.getD ((t :: u :: ts).getD k 0) undef:=by
    have e1:(a.tmps.getD t undef :: a.tmps.getD u undef :: ts.map fun t=>a.tmps.getD t undef)=(t :: u :: ts).map fun t=>a.tmps.getD t undef:=rfl;rw [e1];have hk2:k<(List.map (fun t=>a.tmps.getD t undef) (t :: u :: ts)).toArray.size:=(by simpa using hk');rw [Array.getD_eq_getD_getElem?,Array.getElem?_eq_getElem hk2,Option.getD_some];simp only [List.getElem_toArray,List.getElem_map];rw [List.getD_eq_getElem?_getD,List.getElem?_eq_getElem hk',Option.getD_some]
   rw [h1];exact this
 cases e with
 | normal=>exact fin hq
 | ret=>exact fin hq
 | _=>exact hq.elim
theorem RetF.nil {keep:Bool} {st:St}:RetF keep [] st []:=⟨rfl,fun k hk=>by simp at hk,fun _ k hk=>by simp at hk⟩
theorem RetF.cons {keep:Bool} {t:Nat} {ts:List Nat} {st:St} {r:AV} {rs:List AV} (hp:PurTo st.hp (st.get t) r) (ho:keep=false→(match st.get t with|.val _=>True|.mp _=>True|_=>False)) (h:RetF keep ts st rs):RetF keep (t :: ts) st (r :: rs):=by
 refine ⟨by simp [h.len],fun k hk=>?_,fun hkp k hk=>?_⟩
 ·cases k with
  | zero=>exact hp
  | succ k=>simpa using h.pur k (by simpa using hk)
 cases k with
 | zero=>exact ho hkp
 | succ k=>simpa using h.own hkp k (by simpa using hk)
end
section
attribute [local simp] Qi QG Qp
structure IRetG (P:Program) (rvs:List ResultVar) (H:List (Nat × Ent)) (n:Nat) (e:Eff) (st:St):Prop where
 res:∃ az,RGet P st rvs az∧Q1N az=e.v
 n:st.n=n+e.cnt
 h:st.h=Q4O e.set (Q42 e.del H)++e.new
theorem fineI {e:Eff} {n:Nat} (h:(∀ p∈e.new,n≤p.1∧p.1<n+e.cnt)∧(e.new.map Prod.fst).Nodup∧(∀ x∈e.del,x<n)∧(e.set.map Prod.fst).Nodup∧∀ p∈e.set,p.1<n):e.fine n:=⟨h.1,h.2.1,h.2.2.1,h.2.2.2⟩
def roRows (sz:Nat) (es:List (List AV)):Prop:=∀ e∈es,e.length=sz∧∀ c∈e,AV.ro c=true
def ownB:AV→Bool
 | .val _=>true
 | .mp _=>true
 | _=>false
theorem RetF.one {t:Nat} {ts:List Nat} {st:St} {r:AV} {rs:List AV} (ho:ownB (st.get t)=true) (hp:PurTo st.hp (st.get t) r) (h:RetF false ts st rs):RetF false (t :: ts) st (r :: rs):=by
 refine .cons hp (fun _=>?_) h
 revert ho
 cases st.get t<;>simp [ownB]
end
end Go.Vc
