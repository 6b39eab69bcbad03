/- A part of the proof. -/
import Derived.Test.YtllnbmfplpilcaaI5
import Derived.IntWalk
import Derived.Laws.BytesString
import Derived.Scope
set_option maxRecDepth 100000
set_option maxHeartbeats 4000000
set_option linter.unusedSimpArgs false
set_option linter.unusedVariables false
set_option linter.unusedSectionVars false
set_option linter.unnecessarySimpa false

open Option.some renaming injEq→qA
open List renaming getD_eq_getElem?_getD→qB
open Option.some renaming inj→zC
open Prod.mk renaming injEq→qC
open Array renaming getElem?_eq_getElem→qX
open Nat renaming le_refl→qD
open List renaming getElem?_eq_getElem→qF
open List renaming range→zD
open Option renaming getD_some→qY
open List renaming eq_nil_of_length_eq_zero→qK
open List renaming map_cons→qL
open Nat renaming lt_or_ge→qZ
open Nat renaming le_trans→qO
open Array renaming getD_eq_getD_getElem?→zE
open List renaming getElem?_take→qP
open Nat renaming lt_of_lt_of_le→qQ
open Array renaming getElem?_append→qV
open Nat renaming zero_add→qR
namespace Go.Vc
open Go
inductive Good:AV→Prop
 | val {v}:sc v→Good (.val v)
 | lst {u sz es}:es.length≤maxLen→(∀ i,i<es.length→(es.getD i []).length=sz)→(∀ i k,i<es.length→k<sz→Good ((es.getD i []).getD k .bot))→Good (.lst u sz es)
 | rptr {cs}:(∀ k,k<cs.length→Good (cs.getD k .bot))→Good (.rptr cs)
 | agg {cs}:(∀ k,k<cs.length→Good (cs.getD k .bot))→Good (.agg cs)
 | other {a}:(match a with|.val _|.lst _ _ _|.rptr _|.agg _=>False|_=>True)→Good a
theorem RRel.good {w:World} {R:Nat→Prop} {v:Value} {a:AV} (h:RRel w R v a):Good a:=by
 induction h with
 | val h=>exact .val h
 | nil=>exact .lst (by simp) (fun i hi=>by simp at hi) (fun i k hi=>by simp at hi)
 | lst us _ _ h1 h2 h3 _ _ _ ih=>exact .lst (by omega) h3 ih
 | rptr us _ _ _ _ _ ih=>exact .rptr ih
 | fn=>exact .other trivial
 | bnd=>exact .other trivial
 | ifc=>exact .other trivial
 | ifs=>exact .other trivial
 | cmap=>exact .other trivial
 | bot=>exact .other trivial
theorem XRel.good {w:World} {R:Nat→Prop} {ρ:Nat→Option Bk} {v:Value} {a:AV} (h:XRel w R ρ v a):Good a:=by
 induction h with
 | r h=>exact h.good
 | agg _ _ _ ih=>exact .agg ih
 | _=>exact .other trivial
section
variable {P:Program} {F:Fx} {AQ:Exit→St→Prop} {st:St} {c:Code}
theorem Q5m (t:Nat) (h:Good (st.get t)→Wp P F c AQ st):Wp P F c AQ st:=by
 intro a w hr;have:Good (st.get t):=by
  obtain ⟨_,_,_,_,_,o,ρ,_,_,hx,_⟩:=hr;exact (hx t).good
 exact h this a w hr
theorem w_sr {id:Nat} {ops:Array Oper} {d:Bool} {y:Code} (hm:P.follows .mixedOrders=true) (hok:(okN F.N ops && (!d || (Q53 false ops && Q2z ops)))=true)
  (h:∀ K:St→Prop,(∀ st',Wp P F y AQ st'→K st')→Q1k P false ops ops.toList st K):Wp P F (.seq (.region id ops d) y) AQ st :=
 Q1 (w_run hm hok fun K hK=>h K fun st' h'=>hK st' h')
end
def Is (xs:List Int):List (List AV):=xs.map fun x=>[.val (.int .i64 x)]
@[simp] theorem Is_length (xs:List Int):(Is xs).length=xs.length:=by simp [Is]
@[simp] theorem Is_nil:Is []=[]:=rfl
theorem Is_get (xs:List Int) (i:Nat) (h:i<xs.length):(Is xs).getD i []=[.val (.int .i64 (xs.getD i 0))]:=by
 simp [Is,qB,h]
theorem Is_append (xs ys:List Int):Is (xs++ys)=Is xs++Is ys:=by simp [Is]
def B64 (x:Int):Prop:=-9223372036854775808≤x∧x≤9223372036854775807
theorem Good.is {u:Bool} {xs:List Int} (h:Good (.lst u 1 (Is xs))):xs.length≤9223372036854775807∧∀ x∈xs,B64 x:=by
 cases h with
 | lst h1 h2 h3 =>
  refine ⟨by rw [Is_length] at h1;exact qO h1 (by decide),fun x hx=>?_⟩;obtain ⟨i,hi,rfl⟩:=List.getElem_of_mem hx;have:=h3 i 0 (by simpa using hi) (by omega);rw [Is_get _ _ hi] at this;simp only [List.getD_cons_zero] at this;cases this with
  | val h =>
   simp only [sc] at h;have e1:IntKind.i64.min = -9223372036854775808:=(by decide);have e2:IntKind.i64.max=9223372036854775807:=(by decide);simpa [qB,hi,B64,e1,e2] using h
  | other h=>exact h.elim
 | other h=>exact h.elim
@[simp] theorem i64_min:IntKind.i64.min = -9223372036854775808:=by decide
theorem Qm {x:Int} (h:B64 x):IntKind.i64.wrap x=x:=IntWalk.i64_in x h
theorem QF (xs:List Int) (i:Nat) (h:i<xs.length):(Is xs)[i]? = some [.val (.int .i64 xs[i])]:=by simp [Is,h]
attribute [local simp] QF
theorem Qs (xs:List Int) (i:Nat) (h:i<(Is xs).length):(Is xs)[i]=[.val (.int .i64 (xs[i]'(by simpa using h)))]:=by simp [Is]
attribute [local simp] Qs
@[simp] theorem Is_set (xs:List Int) (i:Nat) (x:Int):(Is xs).set i [.val (.int .i64 x)]=Is (xs.set i x):=by simp [Is,List.map_set]
@[simp] theorem Is_rep (n:Nat) (x:Int):List.replicate n [.val (.int .i64 x)]=Is (List.replicate n x):=by simp [Is]
theorem Qt {t:Nat} {v v':Value} {st:St} (h:st.get t = .val v) (e:v=v'):RetA [t] st [.val v']:=by
 subst e;refine ⟨?_,[.val v],[],?_,.nil,UpL.refl _⟩
 ·simp only [qL,List.map_nil,h];exact .one rfl rfl .nil
 simp only [qL,List.map_nil,h,List.flatMap_cons,List.flatMap_nil,AV.cells,List.append_nil];rfl
theorem Q3X {t id n sz:Nat} {es fs:List (List AV)} {st:St} (h:st.get t = .own id 0 n) (he:look id st.h=some (.row sz es)) (hn:es.length=n) (e:es=fs):RetA [t] st [.lst true sz fs]:=by
 subst e;refine ⟨?_,[.lst true sz es],[id],?_,by simp,UpL.refl _⟩
 ·simp only [qL,List.map_nil,h];exact .one rfl rfl .nil
 have he':st.hp id=some (.row sz es):=he;simp only [qL,List.map_nil,h,List.flatMap_cons,List.flatMap_nil,AV.cells,List.append_nil];simp [Q2o,layC,layD,Go.Vc.depth,he',hn]
theorem QC {i n:Nat} (h:i<n) (hn:n≤9223372036854775807):IntKind.i64.wrap ((i:Int)+1)=((i+1:Nat):Int):=by
 rw [Qm ⟨by omega,by omega⟩];rfl
def contE (h:HP) (d:Nat):Option Ent→Option (Nat × List (List AV))
 | some (.mix sz es)=>some (sz,es)
 | some (.row sz es)=>some (sz,es)
 | some (.ali c i k sz)=>if Qr (h c) then none else match cont h d c with
   | some (_,es)=>match (es.getD i []).getD k .bot with
    | .lst true sz' es'=>if sz'=sz then some (sz,es') else none
    | _=>none
   | none=>none
 | some (.mapE _ _)=>none
 | none=>none
theorem cont_E {h:HP} {d id:Nat}:cont h (d+1) id=contE h d (h id):=by
 simp only [cont];cases h id with
 | none=>rfl
 | some e=>cases e<;>rfl
def wrE (h:HP) (d id:Nat) (es:List (List AV)):Option Ent→Option (List (Nat × Ent))
 | some (.mix sz _)=>some [(id,.mix sz es)]
 | some (.row sz _)=>some [(id,.row sz es)]
 | some (.ali c i k sz)=>match cont h d c with
   | some (_,fs)=>wr h d c (fs.set i ((fs.getD i []).set k (.lst true sz es)))
   | none=>none
 | some (.mapE _ _)=>none
 | none=>none
theorem wr_E {h:HP} {d id:Nat} {es:List (List AV)}:wr h (d+1) id es=wrE h d id es (h id):=by
 simp only [wr];cases h id with
 | none=>rfl
 | some e=>cases e<;>rfl
def Q8L (t:Tyi) (id i k n:Nat):Option (Nat × List (List AV))→Option (Prop × Eff)
 | some (sz,es)=>some (i<es.length∧k+t.sz≤sz,{ v:=bif t.agg then .agg (Q1a id i k n (((es.getD i []).drop k).take t.sz)).1 else (Q1a id i k n (((es.getD i []).drop k).take t.sz)).1.getD 0 .bot,new:=(Q1a id i k n (((es.getD i []).drop k).take t.sz)).2,cnt:=t.sz })
 | none=>none
def Qaq (t:Tyi) (id i k n:Nat) (h:HP):Option Ent→Option (Prop × Eff)
 | some (.mix sz es)=>some (i<es.length∧k+t.sz≤sz,{ v:=bif t.agg then .agg (((es.getD i []).drop k).take t.sz) else (es.getD i []).getD k .bot })
 | some (.row sz es)=>Q8L t id i k n (some (sz,es))
 | some (.ali _ _ _ _)=>Q8L t id i k n (cont h depth id)
 | some (.mapE _ _)=>none
 | none=>none
theorem Q8M {t:Tyi} {id i k n:Nat} {h:HP}:Q2M (some t) (.adr id i k) h n=Qaq t id i k n h (h id):=by
 simp only [Q2M,Qaq];cases he:h id with
 | none=>rfl
 | some e =>
  cases e with
  | mix=>rfl
  | row sz es =>
   have:cont h depth id=some (sz,es):=(by simp [cont,depth,he]);simp only [this,Q8L]
  | ali=>simp only [Q8L];cases cont h depth id<;>rfl
  | mapE kd es =>
   have:cont h depth id=none:=(by simp [cont,depth,he]);simp only [this]
def Q5l (t:Tyi) (id i k:Nat) (x:AV) (h:HP):Option (Nat × List (List AV))→Option (Prop × Eff)
 | some (sz,es)=>match x with
  | .val v=>if t.sz=1∧Q6O v=true then
    match wr h depth id (es.set i ((es.getD i []).set k (.val v))) with
    | some s=>some (i<es.length∧k<sz,{ v:=.bot,set:=s })
    | none=>none
   else none
  | _=>none
 | none=>none
def Q8g (t:Tyi) (id i k:Nat) (x:AV) (h:HP):Option Ent→Option (Prop × Eff)
 | some (.mix sz es)=>if x.cells.length=t.sz && Q5s x then
    some (i<es.length∧k+t.sz≤sz,{ v:=.bot,set:=[(id,.mix sz (es.set i (Q1S (es.getD i []) k x.cells)))] })
   else none
 | some (.row _ _)=>Q5l t id i k x h (cont h depth id)
 | some (.ali _ _ _ _)=>Q5l t id i k x h (cont h depth id)
 | some (.mapE _ _)=>none
 | none=>none
theorem storev_E {t:Tyi} {id i k:Nat} {x:AV} {h:HP}:Q3i (some t) (.adr id i k) x h=Q8g t id i k x h (h id):=by
 simp only [Q3i,Q8g];cases he:h id with
 | none=>rfl
 | some e =>
  cases e with
  | mapE kd es =>
   have:cont h depth id=none:=(by simp [cont,depth,he]);simp only [this]
  | _=>first|rfl|(simp only [Q5l];cases cont h depth id<;>rfl)
def layE (h:HP) (d:Nat) (id n:Nat):Option Ent→Option (AV × List Nat)
 | some (.row sz es)=>if es.length=n then some (.lst true sz es,[id]) else none
 | some (.mix sz es)=>if es.length=n then match Q22 (layD h d) es with
   | some (q,ds)=>some (.lst true sz q,id :: ds)
   | none=>none
   else none
 | some (.ali _ _ _ _)=>none
 | some (.mapE _ _)=>none
 | none=>none
theorem layD_val {h:HP} {d:Nat} {v:Value}:layD h (d+1) (.val v)=some (.val v,[]):=rfl
theorem layD_E {h:HP} {d id n:Nat}:layD h (d+1) (.own id 0 n)=layE h d id n (h id):=by
 simp only [layD,layE];cases he:h id with
 | none=>rfl
 | some e=>cases e<;>rfl
def idxC (t:Tyi) (id off n:Nat) (j:Int):Option (Nat × List (List AV))→Option (Prop × Eff)
 | some (sz,_)=>if sz=t.sz then some (0≤j∧j<n,{ v:=.adr id (off+j.toNat) 0 }) else none
 | none=>none
theorem Q8I {t:Tyi} {id off n:Nat} {k:IntKind} {j:Int} {h:HP}:Q16 (some t) (.own id off n) (.val (.int k j)) h=idxC t id off n j (cont h depth id):=by
 simp only [Q16,idxC];cases cont h depth id<;>rfl
theorem Q8H {t:Tyi} {u:Bool} {sz:Nat} {es:List (List AV)} {k:IntKind} {j:Int} {h:HP} :
  Q16 (some t) (.lst u sz es) (.val (.int k j)) h=if sz=t.sz then some (0≤j∧j<es.length,{ v:=.rptr (es.getD j.toNat []) }) else none:=rfl
def srcE (h:HP) (sz id off n:Nat):Option Ent→Option (Prop × List (List AV) × List Nat)
 | some (.mix sz' es)=>if sz'=sz then match Q4I h ((es.drop off).take n) with
   | some (q,d)=>some (off+n≤es.length,q,d)
   | none=>none
   else none
 | some (.row sz' es)=>if sz'=sz then some (off+n≤es.length∧∀ e∈es,∀ c∈e,isVal c=true,(es.drop off).take n,[]) else none
 | some (.ali _ _ _ _)=>match cont h depth id with
   | some (sz',es)=>if sz'=sz then some (off+n≤es.length∧∀ e∈es,∀ c∈e,isVal c=true,(es.drop off).take n,[]) else none
   | none=>none
 | some (.mapE _ _)=>none
 | none=>none
theorem src_nil {h:HP} {sz:Nat}:src h sz (.val (.slice none 0 0))=some (True,[],[]):=rfl
theorem src_lst {h:HP} {sz:Nat} {u:Bool} {sz':Nat} {es:List (List AV)}:src h sz (.lst u sz' es)=if sz'=sz then some (∀ e∈es,∀ c∈e,isVal c=true,es,[]) else none:=rfl
theorem src_E {h:HP} {sz id off n:Nat}:src h sz (.own id off n)=srcE h sz id off n (h id):=by
 simp only [src,srcE];cases he:h id with
 | none=>rfl
 | some e =>
  cases e with
  | mix=>rfl
  | row sz' es =>
   have:cont h depth id=some (sz',es):=(by simp [cont,depth,he]);simp only [this]
  | mapE kd es =>
   have:cont h depth id=none:=(by simp [cont,depth,he]);simp only [this]
  | ali=>rfl
def baseE (h:HP) (sz id m:Nat):Option Ent→Option (Prop × List (List AV) × List Nat × List Nat)
 | some (.row sz' es)=>if sz'=sz then some (m≤es.length,es.take m,[id],[]) else none
 | some (.mix sz' es)=>if sz'=sz then match Q4I h (es.take m) with
   | some (q,d)=>some (m≤es.length,q,[id],d)
   | none=>none
   else none
 | some (.ali _ _ _ _)=>none
 | some (.mapE _ _)=>none
 | none=>none
theorem base_nil {h:HP} {sz:Nat}:base h sz (.val (.slice none 0 0))=some (True,[],[],[]):=rfl
theorem base_E {h:HP} {sz id m:Nat}:base h sz (.own id 0 m)=baseE h sz id m (h id):=by
 simp only [base,baseE];cases he:h id with
 | none=>rfl
 | some e=>cases e<;>rfl
def appE (t:Tyi) (n:Nat):Option (Prop × List (List AV) × List Nat × List Nat)→Option (Prop × List (List AV) × List Nat)→Option (Prop × Eff)
 | some (c1,es,i,d1),some (c2,news,d2) =>
   if (n :: (i++(d1++d2))).Nodup then
    some (c1∧c2∧(es.length+news.length) * t.bytes≤140737488355328∧es.length+news.length≤140737488355328∧0<t.sz,
     { v:=.own n 0 (es.length+news.length),del:=i++(d1++d2),new:=[(n,.row t.sz (es++news))],cnt:=1 }) else none
 | _,_=>none
theorem appendv_E {t:Tyi} {s x:AV} {h:HP} {n:Nat}:Q2v (some t) s x h n=appE t n (base h t.sz s) (src h t.sz x):=by
 simp only [Q2v,appE];cases base h t.sz s with
 | none=>rfl
 | some p=>cases src h t.sz x<;>rfl
def slcC (t:Tyi) (id off n:Nat) (lo hi:Int):Option (Nat × List (List AV))→Option (Prop × Eff)
 | some (sz,_)=>if sz=t.sz then some (0≤lo∧lo≤hi∧hi≤n,{ v:=.own id (off+lo.toNat) (hi - lo).toNat }) else none
 | none=>none
theorem Q8X {t:Tyi} {h:HP} {id off n:Nat} {lo hi:Int}:Q1u t h (.own id off n) lo hi=slcC t id off n lo hi (cont h depth id):=by
 simp only [Q1u,slcC];cases cont h depth id<;>rfl
theorem Q8W {t:Tyi} {h:HP} {u:Bool} {sz:Nat} {es:List (List AV)} {lo hi:Int} :
  Q1u t h (.lst u sz es) lo hi=if sz=t.sz then some (0≤lo∧lo≤hi∧hi≤es.length,{ v:=.lst u sz ((es.drop lo.toNat).take (hi - lo).toNat) }) else none:=rfl
@[simp] theorem hp_mk {s:List (Nat × AV)} {h:List (Nat × Ent)} {n id:Nat}:St.hp ⟨s,h,n⟩ id=look id h:=rfl
section
variable {h:HP} {d id n k i c j l off m sz:Nat} {es:List (List AV)} {t:Tyi} {x:AV} {q:Int}
@[simp] theorem contE_mix:contE h d (some (.mix sz es))=some (sz,es):=rfl
@[simp] theorem contE_row:contE h d (some (.row sz es))=some (sz,es):=rfl
def contI (h:HP) (d i k sz:Nat):Bool→Option (Nat × List (List AV))→Option (Nat × List (List AV))
 | true,_=>none
 | false,some (_,es)=>match (es.getD i []).getD k .bot with
    | .lst true sz' es'=>if sz'=sz then some (sz,es') else none
    | _=>none
 | false,none=>none
@[simp] theorem contE_ali:contE h d (some (.ali c i k sz))=contI h d i k sz (Qr (h c)) (cont h d c):=by
 simp only [contE,contI];cases Qr (h c) with
 | true=>rfl
 | false=>simp only [Bool.false_eq_true,if_false];cases cont h d c<;>rfl
@[simp] theorem contI_some {z:Nat}:contI h d i k sz false (some (z,es))=match (es.getD i []).getD k .bot with
    | .lst true sz' es'=>if sz'=sz then some (sz,es') else none
    | _=>none:=rfl
@[simp] theorem wrE_mix:wrE h d id es (some (.mix sz es))=some [(id,.mix sz es)]:=rfl
@[simp] theorem wrE_row {fs:List (List AV)}:wrE h d id es (some (.row sz fs))=some [(id,.row sz es)]:=rfl
@[simp] theorem loadC_some:Q8L t id i k n (some (sz,es))=some (i<es.length∧k+t.sz≤sz,{ v:=bif t.agg then .agg (Q1a id i k n (((es.getD i []).drop k).take t.sz)).1 else (Q1a id i k n (((es.getD i []).drop k).take t.sz)).1.getD 0 .bot,new:=(Q1a id i k n (((es.getD i []).drop k).take t.sz)).2,cnt:=t.sz }):=rfl
@[simp] theorem loadE_mix:Qaq t id i k n h (some (.mix sz es))=some (i<es.length∧k+t.sz≤sz,{ v:=bif t.agg then .agg (((es.getD i []).drop k).take t.sz) else (es.getD i []).getD k .bot }):=rfl
@[simp] theorem loadE_row:Qaq t id i k n h (some (.row sz es))=Q8L t id i k n (some (sz,es)):=rfl
@[simp] theorem loadE_ali:Qaq t id i k n h (some (.ali c j l sz))=Q8L t id i k n (cont h depth id):=rfl
@[simp] theorem loadv_rptr {cs:List AV}:Q2M (some t) (.rptr cs) h n=some (t.sz≤cs.length,{ v:=bif t.agg then .agg (cs.take t.sz) else cs.getD 0 .bot }):=rfl
@[simp] theorem storeC_some {v:Value}:Q5l t id i k (.val v) h (some (sz,es))=if t.sz=1∧Q6O v=true then (wr h depth id (es.set i ((es.getD i []).set k (.val v)))).map (fun s=>(i<es.length∧k<sz,{ v:=.bot,set:=s })) else none:=by
 simp only [Q5l];split
 ·cases wr h depth id (es.set i ((es.getD i []).set k (.val v)))<;>rfl
 rfl
@[simp] theorem storeC_own {a b c:Nat}:Q5l t id i k (.own a b c) h (some (sz,es))=none:=rfl
@[simp] theorem storeE_mix:Q8g t id i k x h (some (.mix sz es))=if x.cells.length=t.sz && Q5s x then
    some (i<es.length∧k+t.sz≤sz,{ v:=.bot,set:=[(id,.mix sz (es.set i (Q1S (es.getD i []) k x.cells)))] }) else none:=rfl
@[simp] theorem storeE_row:Q8g t id i k x h (some (.row sz es))=Q5l t id i k x h (cont h depth id):=rfl
@[simp] theorem storeE_ali:Q8g t id i k x h (some (.ali c j l sz))=Q5l t id i k x h (cont h depth id):=rfl
@[simp] theorem layE_row:layE h d id n (some (.row sz es))=if es.length=n then some (.lst true sz es,[id]) else none:=rfl
@[simp] theorem layE_mix:layE h d id n (some (.mix sz es))=if es.length=n then (Q22 (layD h d) es).map (fun p=>(.lst true sz p.1,id :: p.2)) else none:=by
 simp only [layE];split
 ·cases Q22 (layD h d) es<;>rfl
 rfl
@[simp] theorem idxC_some:idxC t id off n q (some (sz,es))=if sz=t.sz then some (0≤q∧q<n,{ v:=.adr id (off+q.toNat) 0 }) else none:=rfl
@[simp] theorem srcE_mix {z:Nat}:srcE h sz id off n (some (.mix z es))=if z=sz then (Q4I h ((es.drop off).take n)).map (fun p=>(off+n≤es.length,p.1,p.2)) else none:=by
 simp only [srcE];split
 ·cases Q4I h ((es.drop off).take n)<;>rfl
 rfl
@[simp] theorem srcE_row {z:Nat}:srcE h sz id off n (some (.row z es))=if z=sz then some (off+n≤es.length∧∀ e∈es,∀ c∈e,isVal c=true,(es.drop off).take n,[]) else none:=rfl
@[simp] theorem baseE_row {z:Nat}:baseE h sz id m (some (.row z es))=if z=sz then some (m≤es.length,es.take m,[id],[]) else none:=rfl
@[simp] theorem baseE_mix {z:Nat}:baseE h sz id m (some (.mix z es))=if z=sz then (Q4I h (es.take m)).map (fun p=>(m≤es.length,p.1,[id],p.2)) else none:=by
 simp only [baseE];split
 ·cases Q4I h (es.take m)<;>rfl
 rfl
@[simp] theorem appE_some {c1 c2:Prop} {is d1 d2:List Nat} {news:List (List AV)}:appE t n (some (c1,es,is,d1)) (some (c2,news,d2))=if (n :: (is++(d1++d2))).Nodup then
    some (c1∧c2∧(es.length+news.length) * t.bytes≤140737488355328∧es.length+news.length≤140737488355328∧0<t.sz,
     { v:=.own n 0 (es.length+news.length),del:=is++(d1++d2),new:=[(n,.row t.sz (es++news))],cnt:=1 }) else none:=rfl
@[simp] theorem slcC_some {lo hi:Int}:slcC t id off n lo hi (some (sz,es))=if sz=t.sz then some (0≤lo∧lo≤hi∧hi≤n,{ v:=.own id (off+lo.toNat) (hi - lo).toNat }) else none:=rfl
end
def runE (P:Program) (mt:MT) (all:Array Oper) (os:List Oper) (dst:Option Nat) (st:St) (K:St→Prop) (x:Option (Prop × Eff)):Prop:=Q6u (fun st'=>Q1k P mt all os st' K) dst st x
def runS (P:Program) (mt:MT) (all:Array Oper) (os:List Oper) (dst:Option Nat) (st:St) (K:St→Prop) (t:TypeId) (av xv:AV) (x:Option (Prop × Eff)):Prop:=Q55 (fun st'=>Q1k P mt all os st' K) (stoA P mt all t av xv dst os st K) dst st x
def runO (P:Program) (mt:MT) (all:Array Oper) (os:List Oper) (dst:Option Nat) (st:St) (K:St→Prop) (op:Op):Prop:=Q5t P mt all os K (fun st'=>Q1k P mt all os st' K) dst st op
def Q5d (P:Program) (mt:MT) (all:Array Oper) (os:List Oper) (dst:Option Nat) (st:St) (K:St→Prop) (op:Op) (t:Nat) (want:Bool) (x:AV):Prop:=guardW P mt all os K (fun st'=>Q1k P mt all os st' K) dst st op t want x
def guardT (P:Program) (mt:MT) (all:Array Oper) (os:List Oper) (dst:Option Nat) (st:St) (K:St→Prop) (op:Op) (want:Bool) (x:Option Nat):Prop:=Q8F P mt all os K (fun st'=>Q1k P mt all os st' K) dst st op want x
section
variable {P:Program} {mt:MT} {all:Array Oper} {os:List Oper} {dst:Option Nat} {st:St} {K:St→Prop} {op:Op} {ty:TypeId} {pos:String} {af:Array Edge}
@[simp] theorem runE_some {c:Prop} {e:Eff}:runE P mt all os dst st K (some (c,e))=(c∧Q1k P mt all os (st.app dst e) K):=rfl
@[simp] theorem callE_fn {f:Nat} {caps az:List AV}:callE P mt all az dst os st K (.fn f caps)=callA P mt all f (az++caps) dst os st K:=rfl
@[simp] theorem runO_call {x:Operand} {args:Array Operand} {ts:Array TypeId}:runO P mt all os dst st K (.call ⟨.value x,args,ts⟩)=callE P mt all (args.toList.map st.ev) dst os st K (st.ev x):=rfl
@[simp] theorem runO_move {x}:runO P mt all os dst st K (.move x)=Q1k P mt all os (st.app dst { v:=st.ev x }) K:=by simp [runO,Q5t,Q6u,opF]
@[simp] theorem runO_assign {x}:runO P mt all os dst st K (.assign x)=Q1k P mt all os (st.app dst { v:=st.ev x }) K:=by simp [runO,Q5t,Q6u,opF]
@[simp] theorem runO_pick {c a b}:runO P mt all os dst st K (.pick c a b)=runE P mt all os dst st K (pick (st.ev c) (st.ev a) (st.ev b)):=rfl
@[simp] theorem runO_alloc {e}:runO P mt all os dst st K (.alloc e)=runE P mt all os dst st K (Vc.alloc (tyi P e) st.n):=rfl
@[simp] theorem runO_box {t x}:runO P mt all os dst st K (.box t x)=runE P mt all os dst st K (boxv (st.ev x) st.n):=rfl
@[simp] theorem runO_build {t parts}:runO P mt all os dst st K (.build t parts)=runE P mt all os dst st K (build (tyi P t) (Q3V P t) (parts.toList.map fun p=>(p.1,st.ev p.2))):=rfl
def elmE (g:TypeId→Option (Prop × Eff)):Option TypeId→Option (Prop × Eff)
 | some e=>g e
 | none=>none
@[simp] theorem elmE_some {g:TypeId→Option (Prop × Eff)} {e:TypeId}:elmE g (some e)=g e:=rfl
@[simp] theorem runO_buildSlice {t len parts}:runO P mt all os dst st K (.buildSlice t len parts)=runE P mt all os dst st K (elmE (fun e=>buildSlice (tyi P e) len (parts.toList.map fun p=>(p.1,st.ev p.2)) st.n) (elm P t)):=by
 simp only [runO,runE,Q5t,opF];cases elm P t<;>rfl
@[simp] theorem runO_load {t a}:runO P mt all os dst st K (.load t a)=runE P mt all os dst st K (Q2M (tyi P t) (st.ev a) st.hp st.n):=rfl
@[simp] theorem runO_store {t a x}:runO P mt all os dst st K (.store t a x)=runS P mt all os dst st K t (st.ev a) (st.ev x) (Q3i (tyi P t) (st.ev a) (st.ev x) st.hp):=rfl
@[simp] theorem runS_some {t:TypeId} {av xv:AV} {c:Prop} {e:Eff}:runS P mt all os dst st K t av xv (some (c,e))=(c∧Q1k P mt all os (st.app dst e) K):=rfl
@[simp] theorem runS_none {t:TypeId} {av xv:AV}:runS P mt all os dst st K t av xv none=stoA P mt all t av xv dst os st K:=rfl
@[simp] theorem runO_nilCheck {x}:runO P mt all os dst st K (.nilCheck x)=runE P mt all os dst st K (nilCheck (st.ev x)):=rfl
@[simp] theorem runO_binOp {o xt x y yt}:runO P mt all os dst st K (.binOp o xt x y yt)=runE P mt all os dst st K (Q5N (eqT P xt) o (st.ev x) (st.ev y)):=rfl
@[simp] theorem runO_unOp {o t x}:runO P mt all os dst st K (.unOp o t x)=runE P mt all os dst st K (unop o (st.ev x)):=rfl
@[simp] theorem runO_convert {s d x}:runO P mt all os dst st K (.convert s d x)=runE P mt all os dst st K (Q75 (intk P s) (intk P d) (st.ev x)):=rfl
@[simp] theorem runO_makeSlice {t l c}:runO P mt all os dst st K (.makeSlice t l c)=runE P mt all os dst st K (elmE (fun e=>Q5f (tyi P e) (st.ev l) (st.ev c) st.n) (elm P t)):=by
 simp only [runO,runE,Q5t,opF];cases elm P t<;>rfl
@[simp] theorem runO_fieldAddr {t x k}:runO P mt all os dst st K (.fieldAddr t x k)=runE P mt all os dst st K (fieldAddr (fld P t k) (st.ev x)):=rfl
@[simp] theorem runO_field {t x k}:runO P mt all os dst st K (.field t x k)=runE P mt all os dst st K (Q5S (fld P t k) (st.ev x)):=rfl
@[simp] theorem runO_indexAddr {t x i}:runO P mt all os dst st K (.indexAddr t x i)=runE P mt all os dst st K (elmE (fun e=>Q16 (tyi P e) (st.ev x) (st.ev i) st.hp) (elm P t)):=by
 simp only [runO,runE,Q5t,opF];cases elm P t<;>rfl
@[simp] theorem runO_extract {x k}:runO P mt all os dst st K (.extract x k)=runE P mt all os dst st K (Q3o (st.ev x) k):=rfl
@[simp] theorem runO_len {x t ts} (h:ts = #[t]):runO P mt all os dst st K (.call ⟨.builtin .len,#[x],ts⟩)=runE P mt all os dst st K (elmE (fun _=>lenv (st.ev x)) (elm P t)):=by
 subst h;simp only [runO,runE,Q5t,opF,bltF];cases elm P t<;>rfl
@[simp] theorem runO_append {x y t u}:runO P mt all os dst st K (.call ⟨.builtin .append,#[x,y],#[t,u]⟩)=runE P mt all os dst st K (elmE (fun e=>if t=u then Q2v (tyi P e) (st.ev x) (st.ev y) st.hp st.n else none) (elm P t)):=by
 simp only [runO,runE,Q5t,opF,bltF];cases elm P t<;>rfl
@[simp] theorem runO_min {xs ts}:runO P mt all os dst st K (.call ⟨.builtin .min,xs,ts⟩)=runE P mt all os dst st K (Q4l (fun a b=>if b<a then b else a) (xs.toList.map st.ev)):=rfl
@[simp] theorem runO_max {xs ts}:runO P mt all os dst st K (.call ⟨.builtin .max,xs,ts⟩)=runE P mt all os dst st K (Q4l (fun a b=>if b > a then b else a) (xs.toList.map st.ev)):=rfl
@[simp] theorem runOps_nil:Q1k P mt all [] st K=K st:=rfl
@[simp] theorem runOps_go:Q1k P mt all (⟨dst,op,ty,pos,af,none⟩ :: os) st K=runO P mt all os dst st K op:=rfl
@[simp] theorem runOps_guard {j:Nat} {want:Bool}:Q1k P mt all (⟨dst,op,ty,pos,af,some (j,want)⟩ :: os) st K=guardT P mt all os dst st K op want ((all[j]?).bind (·.dst)):=rfl
@[simp] theorem guardT_some {want:Bool} {t:Nat}:guardT P mt all os dst st K op want (some t)=Q5d P mt all os dst st K op t want (st.get t):=rfl
theorem Qh {want:Bool} {t:Nat} {b:Bool}:Q5d P mt all os dst st K op t want (.val (.bool b))=((b=want→runO P mt all os dst (st.put t (.val (.bool want))) K op)∧(b = !want→Q1k P mt all os ((st.put t (.val (.bool !want))).app dst { v:=.tup [] }) K)):=rfl
attribute [local simp] Qh
@[simp high] theorem guardE_tup {t:Nat} {want:Bool}:Q5d P mt all os dst st K op t want (.tup [])=Q1k P mt all os (st.app dst { v:=.tup [] }) K:=rfl
@[simp high] theorem guardE_tt {t:Nat}:Q5d P mt all os dst st K op t true (.val (.bool true))=runO P mt all os dst (st.put t (.val (.bool true))) K op:=by simp [Qh]
@[simp high] theorem guardE_ff {t:Nat}:Q5d P mt all os dst st K op t false (.val (.bool false))=runO P mt all os dst (st.put t (.val (.bool false))) K op:=by simp [Qh]
@[simp high] theorem guardE_tf {t:Nat}:Q5d P mt all os dst st K op t true (.val (.bool false))=Q1k P mt all os ((st.put t (.val (.bool false))).app dst { v:=.tup [] }) K:=by simp [Qh]
@[simp high] theorem guardE_ft {t:Nat}:Q5d P mt all os dst st K op t false (.val (.bool true))=Q1k P mt all os ((st.put t (.val (.bool true))).app dst { v:=.tup [] }) K:=by simp [Qh]
end
attribute [simp] cont_E wr_E Q8M storev_E layD_val layD_E Q8I Q8H src_nil src_lst src_E base_nil base_E appendv_E Q8X Q8W
attribute [simp] rl rlL rlLL rlE Q6O St.ev cst scB St.app putS Q4O Q4i Q3C St.get look lenv Q5N binop unop pick St.put setH delH fieldAddr Q5S nilCheck depth Qr Q56 Q5O roundA Q5f Q75 Q3o slen Q4m Q4l Qal build Q6t Q1S Q7B rep Q5c buildSlice Q2o Q22 layC alloc boxv Q1a AV.cells isVal Q5s
section
attribute [local simp] Qh QF Qs
def ments:Nat→List Mu→List (Nat × Ent)
 | _,[]=>[]
 | j,u :: r=>(j,.row u.sz u.es) :: ments (j+1) r
def resOk (ts:List Nat) (st:St) (res:AV):Prop :=
 match ts,res with
 | [t],.val v=>st.get t = .val v
 | [],.tup []=>True
 | _,_=>False
structure MRet (ts:List Nat) (res:AV) (ms:List Mu) (st:St):Prop where
 res:resOk ts st res
 ent:∀ j,j<ms.length→look j st.h=some (.row (ms.getD j .none).sz (ms.getD j .none).fs)
def isAli:Ent→Bool
 | .ali _ _ _ _=>true
 | _=>false
theorem stoA_row {P:Program} {mt:MT} {all:Array Oper} {t:TypeId} {ty:Tyi} {xv b:AV} {id i k sz:Nat} {es:List (List AV)} {ds:List Nat} {dst:Option Nat} {os:List Oper} {st:St} {K:St→Prop} (dels:List Nat) (h1:tyi P t=some ty) (h2:ty.sz=1)
  (he:look id st.h=some (.row sz es)) (hl:layC st.hp xv=some (b,ds)) (hi:i<es.length) (hk:k<sz) (hn:(id :: ds).Nodup) (hlt:∀ y∈ds++dels,y<st.n) (ha:∀ p∈st.h,isAli p.2=true→p.1∈dels)
  (h:Q1k P mt all os (st.app dst { v:=.bot,set:=[(id,.row sz (es.set i ((es.getD i []).set k b)))],del:=ds++dels }) K):stoA P mt all t (.adr id i k) xv dst os st K :=
 QaR dels h1 h2 ⟨he,hl,hi,hk,hn,hlt,fun id' _ _ _ _ _ h3=>.inl (ha (id',_) (Qq h3) rfl)⟩ h
attribute [simp] isAli ments resOk
end
section
attribute [local simp] Qh QF Qs
theorem PurTo.aggL {h:HP} {xs ys:List AV} (hp:PurL h xs ys):PurTo h (.agg xs) (.agg ys):=.agg hp.1 hp.2
inductive MArgL (m:List Nat):List AV→List AV→Prop
 | nil:MArgL m [] []
 | cons {a b xs ys}:MArg m a b→MArgL m xs ys→MArgL m (a :: xs) (b :: ys)
theorem MArgL.get {m:List Nat} {xs ys:List AV} (h:MArgL m xs ys):xs.length=ys.length∧∀ k,k<ys.length→MArg m (xs.getD k .bot) (ys.getD k .bot):=by
 induction h with
 | nil=>exact ⟨rfl,fun k hk=>by simp at hk⟩
 | cons h _ ih =>
  refine ⟨by simp [ih.1],fun k hk=>?_⟩;cases k with
  | zero=>simpa using h
  | succ k=>simpa using ih.2 k (by simpa using hk)
inductive Roots (h:List (Nat × Ent)):List Nat→List Mu→Prop
 | nil:Roots h [] []
 | cons {id u m ms}:look id h=some (.row u.sz u.es)→Roots h m ms→Roots h (id :: m) (u :: ms)
theorem Roots.get {h:List (Nat × Ent)} {m:List Nat} {ms:List Mu} (hr:Roots h m ms):m.length=ms.length∧∀ j,j<ms.length→look (m.getD j 0) h=some (.row (ms.getD j .none).sz (ms.getD j .none).es):=by
 induction hr with
 | nil=>exact ⟨rfl,fun j hj=>by simp at hj⟩
 | cons h _ ih =>
  refine ⟨by simp [ih.1],fun k hk=>?_⟩;cases k with
  | zero=>simpa using h
  | succ k=>simpa using ih.2 k (by simpa using hk)
inductive Ents (h:List (Nat × Ent)):Nat→List Mu→Prop
 | nil {j}:Ents h j []
 | cons {j u ms}:look j h=some (.row u.sz u.fs)→Ents h (j+1) ms→Ents h j (u :: ms)
theorem Ents.get {h:List (Nat × Ent)} {j:Nat} {ms:List Mu} (he:Ents h j ms):∀ i,i<ms.length→look (j+i) h=some (.row (ms.getD i .none).sz (ms.getD i .none).fs):=by
 induction he with
 | nil=>intro i hi;simp at hi
 | cons h _ ih =>
  intro i hi;cases i with
  | zero=>simpa using h
  | succ i=>have:=ih i (by simpa using hi);simpa [Nat.add_comm,Nat.add_left_comm] using this
end
section
attribute [local simp] Qh QF Qs
structure IRet (ts:List Nat) (H:List (Nat × Ent)) (n:Nat) (e:Eff) (st:St):Prop where
 res:Q1e (ts.map st.get)=e.v
 n:st.n=n+e.cnt
 h:st.h=Q4O e.set (Q4i e.del H)++e.new
def iretQ (ts:List Nat) (H:List (Nat × Ent)) (n:Nat) (e:Eff):Exit→St→Prop
 | .normal,st=>IRet ts H n e st
 | .ret,st=>IRet ts H n e st
 | _,_=>False
theorem res_rel {w:World} {R:Nat→Prop} {ρ:Nat→Option Bk} {tmps:Array Value} {st:St} (hx:∀ t,XRel w R ρ (tmps.getD t undef) (st.get t)) (ts:List Nat) :
  XRel w R ρ (Q2B (ts.map fun t=>tmps.getD t undef)) (Q1e (ts.map st.get)):=by
 match ts with
 | []=>exact .tup rfl fun k hk=>by simp at hk
 | [t]=>exact hx t
 | t :: u :: r =>
  simp only [qL,Q2B,Q1e];refine .tup (by simp) fun k hk=>?_;have hk':k<(t :: u :: r).length:=by simpa using hk
  have h1:((tmps.getD t undef :: tmps.getD u undef :: r.map fun t=>tmps.getD t undef).toArray).getD k undef=tmps.getD ((t :: u :: r)[k]) undef:=by
   have:(tmps.getD t undef :: tmps.getD u undef :: r.map fun t=>tmps.getD t undef)=(t :: u :: r).map fun t=>tmps.getD t undef:=rfl;rw [this];have hk2:k<(List.map (fun t=>tmps.getD t undef) (t :: u :: r)).toArray.size:=(by simpa using hk');rw [zE,qX hk2,qY];simp only [List.getElem_toArray,List.getElem_map]
  have h2:(st.get t :: st.get u :: r.map st.get).getD k .bot=st.get ((t :: u :: r)[k]):=by
   have:(st.get t :: st.get u :: r.map st.get)=(t :: u :: r).map st.get:=rfl;rw [this,qB,List.getElem?_map,qF hk',Option.map_some,qY]
  rw [h1,h2];exact hx _
theorem Qao {P:Program} {f:Nat} {fn:Func} {c:Code} {az:List AV} {ts:List Nat} {H:List (Nat × Ent)} {n:Nat} {e:Eff} (hf:P.funcs[f]? = some fn) (hb:fn.body=some c) (hrt:resT fn.results=some ts)
  (hname : (fn.name == "runtime.NumGoroutine") = false) (hN : az.length ≤ fn.ntmps) (hH : ∀ p ∈ H, p.1 < n) (hfine : e.fine n) (hnew : ∀ id, n ≤ id → id < n + e.cnt → id ∈ e.new.map Prod.fst)
  (h:∀ F:Fx,F.N=fn.ntmps→F.pins=n→Wp P F c (iretQ ts H n e) ⟨Q3C 0 az,H,n⟩):ICon P f az (fun id=>look id H) n e:=by
 refine ⟨⟨fn,hf,hname,by rw [hb];rfl⟩,fun _=>hfine,fun C w g h' vals hag hne hlim W HH hsz hargs=>?_⟩;refine calls_of_wp hf hb ?_
 let C':Ctx:=⟨w,fun b=>∃ L,g.o b=some L,g.ρ,n⟩
 have hrel:Rel C' g.R fn.ntmps { tmps:=vals++Array.replicate (fn.ntmps - vals.size) undef,defers:=[] } w ⟨Q3C 0 az,H,n⟩:=by
  refine ⟨by simp;omega,rfl,fun id x hx=>hH (id,x) (Qq hx),g.o,g.ρ,⟨W.R,fun b L hb=>⟨(W.o b L hb).1,.inr ⟨L,hb⟩⟩,rfl,⟨rfl,qD _⟩,rfl,qD _,fun b _ _=>rfl⟩,
   HH.grow fun id k hk=>(hag id (hlim id k hk)).symm,fun t=>?_,hlim,fun id _=>rfl,qD _⟩
  simp only [St.get,Q2E]
  by_cases ht:t<az.length
  ·rw [if_pos (by omega)];simp only [Nat.sub_zero,qY];have h2:(vals++Array.replicate (fn.ntmps - vals.size) undef).getD t undef=vals.getD t undef:=by
    simp [qV,show t<vals.size by omega]
   rw [h2];exact hargs t ht
  rw [if_neg (by omega)];exact .bot
 refine Q4d (fun ex a w' hq=>?_) (h ⟨C',g.R,fn.ntmps,n,rfl⟩ rfl rfl _ w (.of hrel));obtain ⟨st,⟨R',hX,hr⟩,hq⟩:=hq;have fin:IRet ts H n e st→a.defers=[]∧∃ v,(results fn a.tmps).run P w' = .ok v w'∧∃ v' R' o' ρ',Ending.returned v = .returned v'∧RX g.R R' C.w0.heap.size∧WF C w' ⟨R',o',ρ'⟩∧HRel w' ⟨R',o',ρ'⟩ (happ e h')∧(∀ id k,g.ρ id=some k→ρ' id=some k) ∧
   (∀ id k,ρ' id=some k→g.ρ id=some k∨(n≤id∧id<n+e.cnt))∧XRel w' R' ρ' v' e.v∧(∀ b,g.R b→w'.heap[b]? = w.heap[b]?):=by
  intro hA;obtain ⟨_,hdef,_,o',ρ',W',HH',hx,hlt',hpin⟩:=hr;obtain ⟨a1,a2,a3⟩:=hA;have hρ1:∀ id,id<n→ρ' id=g.ρ id:=hpin.1;have hcC:∀ b,b<C.w0.heap.size→¬ C.wrb b→g.o b=none:=by
   intro b hb hw;cases ho:g.o b with
   | none=>rfl
   | some L =>
    rcases (W.o b L ho).2 with h|h
    ·omega
    exact absurd h hw
  have hkeep:∀ b,b<w.heap.size→g.o b=none→w'.heap[b]? = w.heap[b]?:=fun b hb ho=>W'.keep b hb (by rintro ⟨L,hL⟩;rw [ho] at hL;cases hL);refine ⟨hdef,_,Q3v hrt _,_,R',o',ρ',rfl,⟨hX.1,fun b hb=>(hX.2 b hb).imp id (qO W.size)⟩,⟨W'.R,fun b L hb=>⟨(W'.o b L hb).1,?_⟩,W'.os.trans W.os,tpt W'.tape W.tape,W'.output.trans W.output,qO W.size W'.size,fun b hb hw=>?_⟩,
   HH'.grow fun id k hk=>?_,fun id k hk=>(hρ1 id (hlim id k hk)).trans hk,fun id k hk=>?_,?_,fun b hb=>hkeep b (W.R b hb).1 (W.R b hb).2⟩
  ·rcases (W'.o b L hb).2 with h|⟨L',h⟩
   ·exact .inl (qO W.size h)
   exact (W.o b L' h).2
  ·exact (hkeep b (qQ hb W.size) (hcC b hb hw)).trans (W.keep b hb hw)
  ·have hid:id<n+e.cnt:=(by rw [← a2];exact hlt' id k hk);have hl:look id st.h=match happ e (fun id=>look id H) id with|some x=>some x|none=>look id e.new:=by
    have:=Q2l (st:=⟨[],H,n⟩) none hfine id;simp only [St.app] at this;rw [a3];exact this
   show happ e h' id=look id st.h;rw [hl]
   by_cases hlt:id<n
   ·have hn:look id e.new=none:=by
     cases hq:look id e.new with
     | none=>rfl
     | some x=>have:=(hfine.new _ (Qq hq)).1;simp only at this;omega
    have he:happ e h' id=happ e (fun id=>look id H) id:=by
     simp only [happ,hag id hlt]
    rw [he,hn];cases happ e (fun id=>look id H) id<;>rfl
   obtain ⟨p,hp,hpe⟩:=List.mem_map.1 (hnew id (by omega) hid);have h1:happ e (fun id=>look id H) id=none:=by
    simp only [happ];have h2:look id e.set=none:=by
     cases hq:look id e.set with
     | none=>rfl
     | some x=>have:=hfine.sets.2 _ (Qq hq);simp only at this;omega
    have h3:look id H=none:=by
     cases hq:look id H with
     | none=>rfl
     | some x=>have:=hH _ (Qq hq);simp only at this;omega
    rw [h2,h3];simp
   have h2:happ e h' id=h' id:=by
    simp only [happ];have h2:look id e.set=none:=by
     cases hq:look id e.set with
     | none=>rfl
     | some x=>have:=hfine.sets.2 _ (Qq hq);simp only at this;omega
    rw [h2,if_neg];intro hd;have:=hfine.del id hd;omega
   rw [h1,h2];obtain ⟨i,x⟩:=p;simp only at hpe;subst hpe;rw [hne _ hp,Q14 hfine.nodup hp]
  ·by_cases hlt:id<n
   ·exact .inl ((hρ1 id hlt).symm.trans hk)
   exact .inr ⟨by omega,by rw [← a2];exact hlt' id k hk⟩
  rw [← a1];exact res_rel hx ts
 cases ex with
 | normal=>exact fin hq
 | ret=>exact fin hq
 | _=>exact hq.elim
end
section
attribute [local simp] Qh QF Qs
inductive RGet (P:Program) (st:St):List ResultVar→List AV→Prop
 | nil:RGet P st [] []
 | tmp {t r az}:RGet P st r az→RGet P st (.tmp t :: r) (st.get t :: az)
 | cell {a t ty id i k sz es r az}:tyi P t=some ty→ty.agg=true→st.get a = .adr id i k→look id st.h=some (.mix sz es)→i<es.length→k+ty.sz≤sz→RGet P st r az →
   RGet P st (.cell a t :: r) (.agg (((es.getD i []).drop k).take ty.sz) :: az)
 | cell1 {a t ty id i k sz es r az}:tyi P t=some ty→ty.agg=false→0<ty.sz→st.get a = .adr id i k→look id st.h=some (.mix sz es)→i<es.length→k+ty.sz≤sz→RGet P st r az →
   RGet P st (.cell a t :: r) ((es.getD i []).getD k .bot :: az)
def resM (tmps:Array Value):ResultVar→Sem Value
 | .tmp t=>pure (tmps.getD t undef)
 | .cell a t=>do loadVar t (← asAddr (tmps.getD a undef))
theorem rget_run {P:Program} {R:Nat→Prop} {w:World} {st:St} {o:Nat→Option (List Nat)} {ρ:Nat→Option Bk} (H:HRel w ⟨R,o,ρ⟩ st.hp) {tmps:Array Value} (hx:∀ t,XRel w R ρ (tmps.getD t undef) (st.get t))
  {rvs:List ResultVar} {az:List AV} (hg:RGet P st rvs az):∃ vs:List Value,(rvs.mapM (resM tmps)).run P w = .ok vs w∧vs.length=az.length∧∀ k,k<az.length→XRel w R ρ (vs.getD k undef) (az.getD k .bot):=by
 induction hg with
 | nil=>exact ⟨[],by simp,rfl,fun k hk=>by simp at hk⟩
 | @tmp t r az _ ih =>
  obtain ⟨vs,h1,h2,h3⟩:=ih;refine ⟨tmps.getD t undef :: vs,by simp [List.mapM_cons,resM,h1],by simp [h2],fun k hk=>?_⟩;cases k with
  | zero=>exact hx t
  | succ k=>exact h3 k (by simpa using hk)
 | @cell a t ty id i k sz es r az hty hag ha hl hi hk _ ih =>
  obtain ⟨vs,h1,h2,h3⟩:=ih;have hxa:=hx a;rw [ha] at hxa;obtain ⟨b,bsz,cap,hbk,hv⟩:=hxa.adr_eq;obtain ⟨b',cur,el,us,cpm,hbk',ho',hh,hsz',hcp,hml,hlen,hcur,hone,hxr⟩:=(H.mix id sz es _ hl hbk).ex (by simp);simp only [Bk.mk.injEq,qA] at hbk';obtain ⟨rfl,rfl,_⟩:=hbk';have hrun:=Q4s (P:=P) (w:=w) hty (b:=b) (x:=i * bsz+k) (us:=fun j=>us i (k+j)) (fun j hj=>by
   rw [Q1w hh,Nat.add_assoc];exact hcur i (k+j) hi (by omega))
  rw [hag] at hrun;simp only [cond_true] at hrun;have hlen2:(((es.getD i []).drop k).take ty.sz).length=ty.sz:=by rw [List.length_take,List.length_drop,hlen i hi];omega
  have hX:XRel w R ρ (.agg ((zD ty.sz).map fun j=>us i (k+j)).toArray) (.agg (((es.getD i []).drop k).take ty.sz)):=by
   refine .agg (by rw [hlen2];simp) ?_ ?_
   ·intro j hj;rw [hlen2] at hj;rw [Q1B _ _ _ hj];exact hone _ _ hi (by omega)
   intro j hj;rw [hlen2] at hj;rw [Q1B _ _ _ hj];have:=hxr i (k+j) hi (by omega);simpa [qB,qP,List.getElem?_drop,hj] using this
  have hv2:tmps.getD a undef = .pointer (some ⟨b,i * bsz+k,none⟩):=hv;refine ⟨.agg ((zD ty.sz).map fun j=>us i (k+j)).toArray :: vs,?_,by simp [h2],fun j hj=>?_⟩
  ·rw [List.mapM_cons];simp [resM,hv2,asAddr,hrun,h1]
  cases j with
  | zero=>exact hX
  | succ j=>exact h3 j (by simpa using hj)
 | @cell1 a t ty id i k sz es r az hty hag h0 ha hl hi hk _ ih =>
  obtain ⟨vs,h1,h2,h3⟩:=ih;have hxa:=hx a;rw [ha] at hxa;obtain ⟨b,bsz,cap,hbk,hv⟩:=hxa.adr_eq;obtain ⟨b',cur,el,us,cpm,hbk',ho',hh,hsz',hcp,hml,hlen,hcur,hone,hxr⟩:=(H.mix id sz es _ hl hbk).ex (by simp);simp only [Bk.mk.injEq,qA] at hbk';obtain ⟨rfl,rfl,_⟩:=hbk';have hrun:=Q4s (P:=P) (w:=w) hty (b:=b) (x:=i * bsz+k) (us:=fun j=>us i (k+j)) (fun j hj=>by
   rw [Q1w hh,Nat.add_assoc];exact hcur i (k+j) hi (by omega))
  rw [hag] at hrun;simp only [cond_false,Nat.add_zero] at hrun;have hv2:tmps.getD a undef = .pointer (some ⟨b,i * bsz+k,none⟩):=hv;refine ⟨us i k :: vs,?_,by simp [h2],fun j hj=>?_⟩
  ·rw [List.mapM_cons];simp [resM,hv2,asAddr,hrun,h1]
  cases j with
  | zero=>exact hxr i k hi (by omega)
  | succ j=>exact h3 j (by simpa using hj)
theorem Q8c {P:Program} {w:World} {fn:Func} {rvs:List ResultVar} {tmps:Array Value} {vs:List Value} (hr:fn.results=rvs.toArray) (h:(rvs.mapM (resM tmps)).run P w = .ok vs w):(results fn tmps).run P w = .ok (Q2B vs) w:=by
 have e:results fn tmps=(do let vs ← fn.results.mapM (resM tmps);pure (if h:vs.size=1 then vs[0] else .tuple vs)):=by
  unfold results
  congr 1
 rw [e,hr,List.mapM_toArray];simp only [map_eq_pure_bind];simp [h];rcases vs with _|⟨v,_|⟨u,r⟩⟩
 ·simp [Q2B]
 ·simp [Q2B]
 simp [Q2B]
structure RetG (P:Program) (rvs:List ResultVar) (st:St) (rs:List AV):Prop where
 ex:∃ az,RGet P st rvs az∧RetV az st rs
def retGQ (P:Program) (rvs:List ResultVar) (rs:List AV):Exit→St→Prop
 | .normal,st=>RetG P rvs st rs
 | .ret,st=>RetG P rvs st rs
 | _,_=>False
theorem Q3I {P:Program} {f:Nat} {fn:Func} {c:Code} {args:List AV} {rvs:List ResultVar} {rs:List AV} {res:AV} (hf:P.funcs[f]? = some fn) (hb:fn.body=some c) (hrt:fn.results=rvs.toArray) (hrs:res=Q1e rs)
  (hname : (fn.name == "runtime.NumGoroutine") = false) (hN : args.length ≤ fn.ntmps) (h : ∀ F : Fx, F.N = fn.ntmps → F.pins = 0 → (∀ b, ¬ F.C.wrb b) → Wp P F c (retGQ P rvs rs) ⟨Q3C 0 args, [], 0⟩) : Contract P f args res := by
 subst hrs;refine ⟨⟨fn,hf,hname,by rw [hb];rfl⟩,fun w R vals hR hsz hx=>?_⟩;refine calls_of_wp hf hb ?_
 let C:Ctx:=⟨w,fun _=>False,fun _=>none,0⟩
 have hrel:Rel C R fn.ntmps { tmps:=vals++Array.replicate (fn.ntmps - vals.size) undef,defers:=[] } w ⟨Q3C 0 args,[],0⟩:=by
  refine ⟨by simp;omega,rfl,(fun id x h=>by cases h),fun _=>none,noρ,⟨fun b hb=>⟨hR b hb,rfl⟩,(fun b L hb=>by cases hb),rfl,⟨rfl,qD _⟩,rfl,qD _,fun b _ _=>rfl⟩,⟨(fun id sz es bk _ hb=>by cases hb),(fun id sz es bk _ hb=>by cases hb),(fun id c i k sz bk _ hb=>by cases hb),(fun id kd es bk _ hb=>by cases hb)⟩,fun t=>?_,(fun id k hk=>by cases hk),(fun id hid=>by cases hid),qD _⟩;simp only [St.get,Q2E]
  by_cases ht:t<args.length
  ·rw [if_pos (by omega)];simp only [Nat.sub_zero,qY];have:=hx t ht;have h2:(vals++Array.replicate (fn.ntmps - vals.size) undef).getD t undef=vals.getD t undef:=by
    simp [qV,show t<vals.size by omega]
   rw [h2];exact this
  rw [if_neg (by omega)];exact .bot
 refine Q4d (fun e a w' hq=>?_) (h ⟨C,R,fn.ntmps,0,rfl⟩ rfl rfl (fun _ h=>h) _ w (.of hrel));obtain ⟨st,⟨R',hX,hr⟩,hq⟩:=hq;have fin:RetG P rvs st rs→a.defers=[]∧∃ v,(results fn a.tmps).run P w' = .ok v w'∧∃ v' o,Ending.returned v = .returned v'∧Blw w.heap.size w w'∧(∀ b L,o b=some L→w.heap.size≤b∧b<w'.heap.size)∧Res w' o v' (Q1e rs):=by
  intro hA;obtain ⟨az,hg,hv⟩:=hA.ex;obtain ⟨_,hdef,_,o,ρ,W,H,hxx,_⟩:=hr;obtain ⟨vs,h1,h2,h3⟩:=rget_run H hxx hg;obtain ⟨q1,o1,q2,q3⟩:=Q7n W H rfl hv (vs:=vs) h2 h3;exact ⟨hdef,_,Q8c hrt h1,_,o1,rfl,q1,q2,q3⟩
 cases e with
 | normal=>exact fin hq
 | ret=>exact fin hq
 | _=>exact hq.elim
theorem Qd {P:Program} {f:Nat} {fn:Func} {c:Code} {args:List AV} {rvs:List ResultVar} {rs:List AV} {res:AV} (hf:P.funcs[f]? = some fn) (hb:fn.body=some c) (hrt:fn.results=rvs.toArray) (hrs:res=Q1e rs)
  (hname : (fn.name == "runtime.NumGoroutine") = false) (hN : args.length ≤ fn.ntmps) (h : ∀ F : Fx, F.N = fn.ntmps → F.pins = 0 → Wp P F c (retGQ P rvs rs) ⟨Q3C 0 args, [], 0⟩) : Contract P f args res :=
 Q3I hf hb hrt hrs hname hN fun F h1 h2 _=>h F h1 h2
end
section
attribute [local simp] Qh QF Qs
def nlA (news:List (Nat × Nat)) (a b:AV):Prop:=a=b∨(a = .val (.slice none 0 0)∧∃ q∈news,b = .own q.1 0 0)
def nlL (news:List (Nat × Nat)):List AV→List AV→Prop
 | [],[]=>True
 | a :: r,b :: s=>nlA news a b∧nlL news r s
 | _,_=>False
def entN (news:List (Nat × Nat)):Ent→Ent→Prop
 | .mix sz [cs],.mix sz' [ds]=>sz=sz'∧nlL news cs ds
 | .mix sz [],.row sz' es=>sz=sz'∧es=[]
 | e,e'=>e=e'
theorem nlL_get {news:List (Nat × Nat)}:∀ {cs ds:List AV},nlL news cs ds→cs.length=ds.length∧∀ k,k<cs.length→nlA news (cs.getD k .bot) (ds.getD k .bot):=by
 intro cs
 induction cs with
 | nil=>intro ds h;cases ds with
  | nil=>exact ⟨rfl,fun k hk=>by simp at hk⟩
  | cons=>exact h.elim
 | cons a r ih =>
  intro ds h;cases ds with
  | nil=>exact h.elim
  | cons b s =>
   obtain ⟨h1,h2⟩:=h;obtain ⟨h3,h4⟩:=ih h2;refine ⟨by simp [h3],fun k hk=>?_⟩;cases k with
   | zero=>simpa using h1
   | succ k=>simpa using h4 k (by simpa using hk)
theorem Q39 {news:List (Nat × Nat)} {e e':Ent} (h:entN news e e'):e=e'∨(∃ sz cs ds,e = .mix sz [cs]∧e' = .mix sz [ds]∧nlL news cs ds)∨(∃ sz,e = .mix sz []∧e' = .row sz []):=by
 unfold entN at h;split at h
 ·obtain ⟨rfl,h⟩:=h;exact .inr (.inl ⟨_,_,_,rfl,rfl,h⟩)
 ·obtain ⟨rfl,rfl⟩:=h;exact .inr (.inr ⟨_,rfl,rfl⟩)
 exact .inl h
theorem Wk.nils {F:Fx} {st st':St} (news:List (Nat × Nat)) (hn:∀ p∈news,st.n≤p.1∧p.1<st'.n) (hle:st.n≤st'.n) (hs:∀ p∈st'.s,nlA news (st.get p.1) p.2∨p.2 = .bot)
  (hh:∀ p∈st'.h,(∃ q∈news,p=(q.1,.row q.2 []))∨∃ e,look p.1 st.h=some e∧entN news e p.2) (hnd:(news.map Prod.fst).Nodup):Wk F st st':=by
 refine Wk.mk fun R a w hr=>?_;obtain ⟨r1,r2,r3,o,ρ,W,H,hx,hρ,hp⟩:=hr
 let ρ':Nat→Option Bk:=fun id=>match look id news with|some sz=>some ⟨none,sz,0⟩|none=>ρ id
 have hnone:∀ q∈news,ρ q.1=none:=by
  intro q hq;cases h:ρ q.1 with
  | none=>rfl
  | some k=>have:=hρ _ _ h;have:=(hn q hq).1;omega
 have hold:∀ id k,ρ id=some k→ρ' id=some k:=by
  intro id k hk;simp only [ρ'];cases hl:look id news with
  | none=>exact hk
  | some sz=>have:=hnone _ (Qq hl);simp only at this;rw [hk] at this;cases this
 have hnew:∀ q∈news,ρ' q.1=some ⟨none,q.2,0⟩:=by
  intro q hq;simp only [ρ'];rw [Q14 hnd hq]
 have hA:∀ {v:Value} {x y:AV},XRel w R ρ v x→nlA news x y→XRel w R ρ' v y:=by
  intro v x y hv h;rcases h with rfl|⟨rfl,q,hq,rfl⟩
  ·exact hv.mono (fun b hb=>⟨hb,rfl⟩) hold
  obtain ⟨rfl,_⟩:=hv.val_eq;exact .own0 (hnew q hq)
 have hent:∀ id e',st'.hp id=some e'→(∃ q∈news,id=q.1∧e' = .row q.2 [])∨∃ e,st.hp id=some e∧entN news e e':=by
  intro id e' h;rcases hh (id,e') (Qq h) with ⟨q,hq,he⟩|h
  ·simp only [qC] at he;exact .inl ⟨q,hq,he.1,he.2⟩
  exact .inr h
 have hback:∀ id bk,ρ' id=some bk→(∃ q∈news,id=q.1∧bk=⟨none,q.2,0⟩)∨(ρ id=some bk∧∀ q∈news,id ≠ q.1):=by
  intro id bk h;simp only [ρ'] at h;cases hl:look id news with
  | some sz=>rw [hl] at h;simp only [qA] at h;exact .inl ⟨(id,sz),Qq hl,rfl,h.symm⟩
  | none =>
   rw [hl] at h;refine .inr ⟨h,fun q hq he=>?_⟩;subst he;rw [Q14 hnd hq] at hl;cases hl
 have hcont:∀ (d c:Nat) (szc:Nat) (esc:List (List AV)) (bk:Bk),ρ c=some bk→cont st'.hp d c=some (szc,esc)→Qr (st'.hp c)=false→esc=[]∨(cont st.hp d c=some (szc,esc)∧Qr (st.hp c)=false):=by
  intro d
  induction d with
  | zero=>intro c szc esc bk _ h;cases h
  | succ d ih =>
   intro c szc esc bk hb hc hm;unfold cont at hc ⊢;cases he:st'.hp c with
   | none=>simp [he] at hc
   | some e' =>
    rw [he] at hc hm;rcases hent c e' he with ⟨q,hq,rfl,rfl⟩|⟨e,h1,h2⟩
    ·rw [hnone q hq] at hb;cases hb
    rcases Q39 h2 with rfl|⟨sz,cs,ds,rfl,rfl,_⟩|⟨sz,rfl,rfl⟩
    ·cases e with
     | mix=>cases hm
     | mapE=>cases hc
     | row sz es=>exact .inr ⟨by rw [h1];exact hc,by rw [h1];rfl⟩
     | ali c2 i2 k2 s2 =>
      rw [h1];simp only at hc ⊢;split at hc
      ·cases hc
      rename_i hm2;cases hc2:cont st'.hp d c2 with
      | none=>simp [hc2] at hc
      | some p =>
       obtain ⟨sz2,es2⟩:=p;obtain ⟨_,bk2,hb2,_⟩:=H.ali c c2 i2 k2 s2 bk h1 hb;rw [hc2] at hc;rcases ih c2 sz2 es2 bk2 hb2 hc2 (by simpa using hm2) with rfl|⟨q1,q2⟩
       ·simp at hc
       right;rw [q2,q1];exact ⟨hc,rfl⟩
    ·cases hm
    simp only [qA,qC] at hc;exact .inl hc.2.symm
 refine ⟨r1,r2,fun id x hx=>?_,o,ρ',⟨W.R,W.o,W.os,W.tape,W.output,W.size,W.keep⟩,⟨fun id sz es bk he hb=>?_,fun id sz es bk he hb=>?_,fun id c i k sz bk he hb=>?_,fun id kd es bk he hb=>?_⟩,fun t=>?_,fun id k hk=>?_,fun id hid=>?_,qO hp.2 hle⟩;rotate_left 4
 ·rcases hent id _ he with ⟨q,hq,rfl,h⟩|⟨e,h1,h2⟩
  ·cases h
  rcases hback id bk hb with ⟨q,hq,rfl,rfl⟩|⟨hb',_⟩
  ·exact absurd (r3 _ e h1) (by have:=(hn q hq).1;omega)
  rcases Q39 h2 with rfl|⟨s1,cs,ds,rfl,hd,hl⟩|⟨s1,rfl,hd⟩
  ·exact H.map id kd es bk h1 hb'
  ·cases hd
  cases hd
 rotate_left 3
 ·rcases hent id x hx with ⟨q,hq,rfl,_⟩|⟨e,he,_⟩
  ·exact (hn q hq).2
  exact qQ (r3 id e he) hle
 ·rcases hent id _ he with ⟨q,hq,rfl,h⟩|⟨e,h1,h2⟩
  ·cases h
  rcases hback id bk hb with ⟨q,hq,rfl,rfl⟩|⟨hb',_⟩
  ·exact absurd (r3 _ e h1) (by have:=(hn q hq).1;omega)
  rcases Q39 h2 with rfl|⟨s1,cs,ds,rfl,hd,hl⟩|⟨s1,rfl,hd⟩
  ·rcases (H.mix id sz es bk h1 hb').ex0 with h0|⟨b,cur,el,us,cpm,q1,q2,q3,q4,q5,q5',q6,q7,q8,q9⟩
   ·exact ⟨.inl h0⟩
   exact .mk' ⟨b,cur,el,us,cpm,q1,q2,q3,q4,q5,q5',q6,q7,q8,fun i k hi hk=>(q9 i k hi hk).mono (fun b hb=>⟨hb,rfl⟩) hold⟩
  ·cases hd;rcases (H.mix id sz _ bk h1 hb').ex0 with ⟨h0,_⟩|⟨b,cur,el,us,cpm,q1,q2,q3,q4,q5,q5',q6,q7,q8,q9⟩
   ·cases h0
   obtain ⟨g1,g2⟩:=nlL_get hl;refine .mk' ⟨b,cur,el,us,cpm,q1,q2,q3,q4,by simpa using q5,q5',fun i hi=>?_,q7,q8,fun i k hi hk=>?_⟩
   ·have h0:i=0:=(by simp at hi;omega);subst h0;have:=q6 0 (by simp);simpa [← g1] using this
   have h0:i=0:=(by simp at hi;omega);subst h0;have h6:=q6 0 (by simp);simp only [List.getD_cons_zero] at h6;refine hA (q9 0 k (by simp) hk) ?_;simpa using g2 k (by omega)
  cases hd
 ·rcases hent id _ he with ⟨q,hq,rfl,h⟩|⟨e,h1,h2⟩
  ·cases h;have:=(show ρ' q.1=some bk from hb).symm.trans (hnew q hq);cases this;exact ⟨_,.nil,.nil⟩
  rcases hback id bk hb with ⟨q,hq,rfl,rfl⟩|⟨hb',_⟩
  ·exact absurd (r3 _ e h1) (by have:=(hn q hq).1;omega)
  rcases Q39 h2 with rfl|⟨s1,cs,ds,rfl,hd,hl⟩|⟨s1,rfl,hd⟩
  ·exact H.row id sz es bk h1 hb'
  ·cases hd
  cases hd;rcases (H.mix id sz [] bk h1 hb').ex0 with ⟨_,cp0,rfl⟩|⟨b,cur,el,us,cpm,q1,q2,q3,q4,q5,q5',q6,q7,q8,q9⟩
  ·exact ⟨_,.nil,.nil⟩
  subst q1;exact ⟨.slice (some ⟨b,0,none⟩) 0 cpm,.own (es:=[]) us q2 q3 q4 (Nat.zero_le _) q5' (fun i hi=>by simp at hi) (fun i k hi=>by simp at hi) (fun i k hi=>by simp at hi) (fun i k hi=>by simp at hi),.own⟩
 ·rcases hent id _ he with ⟨q,hq,rfl,h⟩|⟨e,h1,h2⟩
  ·cases h
  rcases hback id bk hb with ⟨q,hq,rfl,rfl⟩|⟨hb',_⟩
  ·exact absurd (r3 _ e h1) (by have:=(hn q hq).1;omega)
  rcases Q39 h2 with rfl|⟨s1,cs,ds,rfl,hd,hl⟩|⟨s1,rfl,hd⟩
  ·obtain ⟨q1,bkc,q2,q3⟩:=H.ali id c i k sz bk h1 hb';refine ⟨q1,bkc,hold _ _ q2,fun d szc esc hc hm hi hk=>?_⟩;rcases hcont d c szc esc bkc q2 hc hm with rfl|⟨g1,g2⟩
   ·simp at hi
   exact q3 d szc esc g1 g2 hi hk
  ·cases hd
  cases hd
 ·cases hl:look t st'.s with
  | none=>simp only [St.get,hl,Option.getD_none];exact .bot
  | some v =>
   simp only [St.get,hl,qY];rcases hs _ (Qq hl) with h|h
   ·exact hA (hx t) h
   simp only at h;rw [h];exact .bot
 ·rcases hback id k hk with ⟨q,hq,rfl,_⟩|⟨h,_⟩
  ·exact (hn q hq).2
  exact qQ (hρ id k h) hle
 show ρ' id=_;have hlt:id<st.n:=qQ hid hp.2;rw [← hp.1 id hid];simp only [ρ'];cases hl:look id news with
 | none=>rfl
 | some sz=>have:=(hn _ (Qq hl)).1;simp only at this;omega
def hhOk (m:List (Nat × Nat)) (h:List (Nat × Ent)) (j:Nat) (e':Ent):Prop:=(((look j (back m)).bind fun i=>look i h).bind (rlE m))=some e'
theorem Wk.rel {F:Fx} {st st':St} (m:List (Nat × Nat)) (h1:(m.map Prod.fst).Nodup) (h2:(m.map Prod.snd).Nodup) (hpin:∀ id,id<F.pins→look id m=some id) (hn:∀ p∈m,p.2<st'.n)
  (hok:∀ p∈st'.h,p.1<st'.n) (hs:∀ p∈st'.s,p.2=rl m (st.get p.1)∨p.2 = .bot) (hh:∀ p∈st'.h,hhOk m st.h p.1 p.2):Wk F st st':=by
 refine Wk.relabel m h1 h2 hpin hn hok hs fun p hp=>?_;have:=hh p hp;unfold hhOk at this;obtain ⟨e,he,hr⟩:=Option.bind_eq_some_iff.1 this;obtain ⟨i,hi,hl⟩:=Option.bind_eq_some_iff.1 he;exact ⟨i,e,Q71 h1 hi,hl,hr⟩
theorem join {P:Program} {F:Fx} {y:Code} {AQ:Exit→St→Prop} {K:St→Prop} {G:Prop} (hK:∀ st',Wp P F y AQ st'→K st') (S:Bool→St) (C:Prop) (h1:(∀ b:Bool,(b=true↔C)→∀ st',Wk F st' (S b)→K st')→G)
  (h2:∀ b:Bool,(b=true↔C)→Wp P F y AQ (S b)):G:=h1 fun b hb st' hw=>hK st' (Q4 hw (h2 b hb))
end
section
attribute [local simp] Qh QF Qs
theorem PurTo.field {h:HP} {id k sz:Nat} {row cs:List AV} (he:h id=some (.mix sz [row])) (hl:k+cs.length≤sz) (hp:PurL h ((row.drop k).take cs.length) cs):PurTo h (.adr id 0 k) (.rptr cs) :=
 .adr he (by simp) hl fun j hj=>by
  have:=hp.2 j (by rw [hp.1];exact hj);simpa [qB,qP,List.getElem?_drop,hj] using this
inductive PurLL (h:HP) (sz:Nat):List (List AV)→List (List AV)→Prop
 | nil:PurLL h sz [] []
 | cons {r s rs ss}:s.length=sz→PurL h r s→PurLL h sz rs ss→PurLL h sz (r :: rs) (s :: ss)
theorem PurLL.get {h:HP} {sz:Nat} {rs ss:List (List AV)} (hp:PurLL h sz rs ss):rs.length=ss.length∧∀ i,i<ss.length→(ss.getD i []).length=sz∧PurL h (rs.getD i []) (ss.getD i []):=by
 induction hp with
 | nil=>exact ⟨rfl,fun i hi=>by simp at hi⟩
 | cons h1 h2 _ ih =>
  refine ⟨by simp [ih.1],fun i hi=>?_⟩;cases i with
  | zero=>exact ⟨h1,h2⟩
  | succ i=>simpa using ih.2 i (by simpa using hi)
theorem PurTo.lits {h:HP} {id n sz:Nat} {u:Bool} {es fs:List (List AV)} (he:h id=some (.mix sz es)) (hp:PurLL h sz es fs) (hn:n=fs.length):PurTo h (.own id 0 n) (.lst u sz fs):=by
 subst hn;refine .mix he (by rw [hp.get.1];omega) rfl (fun i hi=>(hp.get.2 i hi).1) fun i k hi hk=>?_;have:=hp.get.2 i hi;rw [qR];exact this.2.2 k (by rw [this.2.1,this.1];exact hk)
end
section
attribute [local simp] Qh QF Qs
noncomputable def ass {α:Type} (p:Prop) (k:Option α):Option α:=@ite _ p (Classical.propDecidable p) k none
theorem Q0 {α:Type} {p:Prop} {k:Option α} {r:α} (h:ass p k=some r):p∧k=some r:=by
 unfold ass at h;split at h
 ·exact ⟨‹_›,h⟩
 cases h
theorem Q2 {α:Type} {p:Prop} {k:Option α} (h:p):ass p k=k:=by unfold ass;rw [if_pos h]
inductive Ctl (σ ε:Type) where
 | next (s:σ)
 | ret (e:ε)
def QA {σ ε:Type} (body:σ→Option (Ctl σ ε)):Nat→σ→Option ε
 | 0,_=>none
 | n+1,s=>match body s with
  | some (.next s')=>QA body n s'
  | some (.ret e)=>some e
  | none=>none
theorem bind_some {α β:Type} {x:Option α} {f:α→Option β} {r:β} (h:x.bind f=some r):∃ v,x=some v∧f v=some r:=Option.bind_eq_some_iff.1 h
theorem if_l {α:Type} {p:Prop} [Decidable p] {a b:Option α} {r:α} (g:p) (h:(if p then a else b)=some r):a=some r:=by rw [if_pos g] at h;exact h
theorem if_r {α:Type} {p:Prop} [Decidable p] {a b:Option α} {r:α} (g:¬ p) (h:(if p then a else b)=some r):b=some r:=by rw [if_neg g] at h;exact h
def contF {σ ε:Type} (body:σ→Option (Ctl σ ε)) (k:Nat) (e:ε):Ctl σ ε→Prop
 | .next s'=>QA body k s'=some e
 | .ret e'=>e'=e
def Qa2 {σ:Type} (F:Fx) (S:σ→St) (G:σ→Prop) (AQ:Exit→St→Prop):Exit→St→Prop
 | .normal,st=>∃ s',G s'∧Wk F st (S s')
 | e,st=>AQ e st
section
variable {P:Program} {mt:MT} {F:Fx} {AQ:Exit→St→Prop} {st:St}
theorem Wp.mono {c:Code} {AQ':Exit→St→Prop} (h:∀ e st,AQ e st→AQ' e st) (hw:Wp P F c AQ st):Wp P F c AQ' st:=by
 intro a w hr;refine wp_mono (hw a w hr) fun e a w he=>?_;obtain ⟨st',h1,h2⟩:=he;exact ⟨st',h1,h _ _ h2⟩
theorem Q2V {st1 st3:St} (st2:St) (h1:Wk F st1 st2) (h2:Wk F st2 st3):Wk F st1 st3:=fun a w h=>h2 a w (h1 a w h)
theorem Qu {σ ε:Type} {c:Code} {body:σ→Option (Ctl σ ε)} {N:Nat} {s0:σ} {e:ε} (h:QA body N s0=some e) (S:σ→St) (hk:Wk F st (S s0))
  (round:∀ (k:Nat) (s:σ) (c':Ctl σ ε),body s=some c'→contF body k e c'→Wp P F c (Qa2 F S (fun s'=>QA body k s'=some e) AQ) (S s)):Wp P F (.loop c) AQ st:=by
 refine Q1l (fun p:Nat × σ=>S p.2) (fun p=>QA body p.1 p.2=some e) (fun p=>p.1) (N,s0) h hk ?_
 rintro ⟨k,s⟩ hl
 cases k with
 | zero=>cases hl
 | succ k =>
  simp only [QA] at hl;cases hb:body s with
  | none=>rw [hb] at hl;cases hl
  | some c' =>
   have hc:contF body k e c':=by
    rw [hb] at hl;cases c' with
    | next s'=>exact hl
    | ret e'=>simpa [contF] using hl
   refine Wp.mono ?_ (round k s c' hb hc);intro ex st' hq;cases ex with
   | normal =>
    obtain ⟨s',h1,h2⟩:=hq;exact ⟨(k,s'),h1,Nat.lt_succ_self k,h2⟩
   | _=>exact hq
theorem Qk {β:Type} {x y:Code} (J:β→St) (C:β→Prop) (h2:Wp P F x (Q56 (fun st=>∃ b,C b∧Wk F st (J b)) AQ) st) (h1:∀ b,C b→Wp P F y AQ (J b)):Wp P F x (Q56 (Wp P F y AQ) AQ) st:=by
 refine Wp.mono ?_ h2;intro ex st' hq;cases ex with
 | normal =>
  obtain ⟨b,hc,hw⟩:=hq;exact Q4 hw (h1 b hc)
 | _=>exact hq
theorem QB {all:Array Oper} {os:List Oper} {dst:Option Nat} {K:St→Prop} {op:Op} {t:Nat} {want:Bool} {b:Bool}
  (h1:b=want→runO P mt all os dst (st.put t (.val (.bool want))) K op) (h2:b=(!want)→Q1k P mt all os ((st.put t (.val (.bool !want))).app dst { v:=.tup [] }) K) :
  Q5d P mt all os dst st K op t want (.val (.bool b)):=by
 rw [Qh];exact ⟨h1,h2⟩
end
section
variable {P:Program} {F:Fx} {AQ:Exit→St→Prop} {st:St} {i id:Nat}
theorem tn {K:St→Prop} (h:K st):Q56 K AQ .normal st:=h
theorem tx {K:St→Prop} (h:AQ (.exit i) st):Q56 K AQ (.exit i) st:=h
theorem tr {K:St→Prop} (h:AQ .ret st):Q56 K AQ .ret st:=h
theorem bn (h:AQ .normal st):Q5O id AQ .normal st:=h
theorem bh (h:AQ .normal st):Q5O id AQ (.exit id) st:=by simp only [Q5O,if_pos];exact h
theorem br (h:AQ .ret st):Q5O id AQ .ret st:=h
theorem lx {σ:Type} {S:σ→St} {G:σ→Prop} (h:AQ (.exit i) st):Qa2 F S G AQ (.exit i) st:=h
theorem lr {σ:Type} {S:σ→St} {G:σ→Prop} (h:AQ .ret st):Qa2 F S G AQ .ret st:=h
theorem rn {σ:Type} {S:σ→St} {G:σ→Prop} {s':σ} (h1:G s') (h2:Wk F st (S s')):Qa2 F S G AQ .normal st:=⟨s',h1,h2⟩
theorem jn {β:Type} {J:β→St} {C:β→Prop} {b:β} (h1:C b) (h2:Wk F st (J b)):Q56 (fun st=>∃ b,C b∧Wk F st (J b)) AQ .normal st:=⟨b,h1,h2⟩
end
theorem Wk.r1 {F:Fx} {st st':St} (m:List (Nat × Nat)) (h:(m.map Prod.fst).Nodup∧(m.map Prod.snd).Nodup∧(∀ id,id<F.pins→look id m=some id)∧(∀ p∈m,p.2<st'.n)∧(∀ p∈st'.h,p.1<st'.n)∧(∀ p∈st'.s,p.2=rl m (st.get p.1)∨p.2 = .bot)∧∀ p∈st'.h,hhOk m st.h p.1 p.2):Wk F st st':=Wk.rel m h.1 h.2.1 h.2.2.1 h.2.2.2.1 h.2.2.2.2.1 h.2.2.2.2.2.1 h.2.2.2.2.2.2
def fuel:Nat:=4611686018427387904
theorem PurTo.fnL {h:HP} {f:Nat} {az bs:List AV} (hb:∀ b∈bs,∀ cs,b ≠ .agg cs) (hp:PurL h az bs):PurTo h (.fn f az) (.fn f bs):=by
 refine .fn hp.1 (fun k hk cs he=>?_) hp.2;have hk':k<bs.length:=by rw [← hp.1];exact hk
 refine hb (bs.getD k .bot) ?_ cs he;simp only [qB,qF hk',qY];exact List.getElem_mem hk'
theorem PurTo.preT {h:HP} {xs cs:List AV} (e:xs.take cs.length=cs):PurTo h (.rptr xs) (.rptr cs):=by
 have:xs=cs++xs.drop cs.length:=by
  have h:=List.take_append_drop cs.length xs;rw [e] at h;exact h.symm
 rw [this];exact .pre
end
section
attribute [local simp] Qh QF Qs
def Q4g (ops:Array Oper) (x y:Oper):Bool :=
 (match x.dst with
  | some d=>(Q4K ops y).contains d || y.dst == some d
  | none=>false) ||
 (match y.dst with
  | some d=>(Q4K ops x).contains d
  | none=>false)
def Q5b (x y:Oper):Bool:=(wrM false x.op && Q1j y.op) || (Q1j x.op && wrM false y.op)
theorem Q9r {ops:Array Oper} {x y:Oper}:Q4o false ops x y=(Q4g ops x y || Q5b x y):=by
 have he:easy (false:Bool) x.op y.op=false:=rfl;unfold Q4o Q4g Q5b;rw [he,tch0,tch0,Bool.not_false,Bool.and_true];exact Bool.or_assoc _ _ _
theorem Q6D {ops:Array Oper} {x y:Oper} (h:Q4g ops x y=false):(∀ d,x.dst=some d→d ∉ Q4K ops y∧y.dst ≠ some d)∧∀ d,y.dst=some d→d ∉ Q4K ops x:=by
 unfold Q4g at h;simp only [Bool.or_eq_false_iff] at h;obtain ⟨h1,h2⟩:=h;refine ⟨fun d hd=>?_,fun d hd=>?_⟩
 ·rw [hd] at h1;simp only [Bool.or_eq_false_iff] at h1;refine ⟨by simpa using h1.1,?_⟩;intro hy;rw [hy] at h1;simp at h1
 rw [hd] at h2;simpa using h2
def Q36 (ops:Array Oper) (j s:Nat):Bool:=(zD ops.size).all fun m=>m == j || (ops[m]?).bind (·.dst) != some s
def Q85 (ops:Array Oper) (s:Nat):Bool:=(zD ops.size).all fun m=>(ops[m]?).bind (·.dst) != some s
theorem Q2Z {ops:Array Oper} {j s m:Nat} (h:Q36 ops j s=true) (hm:m<ops.size) (hj:m ≠ j):(ops[m]?).bind (·.dst) ≠ some s:=by
 unfold Q36 at h;have:=List.all_eq_true.1 h m (List.mem_range.2 hm);simpa [hj] using this
theorem Q44 {ops:Array Oper} {s m:Nat} (h:Q85 ops s=true) (hm:m<ops.size):(ops[m]?).bind (·.dst) ≠ some s:=by
 unfold Q85 at h;have:=List.all_eq_true.1 h m (List.mem_range.2 hm);simpa using this
def Q70 (ops:Array Oper) (j s:Nat):Bool:=match ops[j]? with
 | some ⟨d,.alloc _,_,_,_,none⟩=>d == some s && Q36 ops j s
 | _=>false
def Q5j (ds:List Nat) (ops:Array Oper) (k:Nat):Bool:=match ops[k]? with
 | some ⟨_,.store _ (.tmp s) _,_,_,_,none⟩=>((zD k).any fun j=>Q70 ops j s) || (ds.contains s && Q85 ops s)
 | _=>false
def stepAt (ops:Array Oper) (l t:Nat):Option Nat:=match ops[l]? with
 | some ⟨d,.fieldAddr _ (.tmp r) _,_,_,_,none⟩=>if d == some t && Q36 ops l t then some r else none
 | some ⟨d,.move (.tmp r),_,_,_,none⟩=>if d == some t && Q36 ops l t then some r else none
 | some ⟨d,.nilCheck (.tmp r),_,_,_,none⟩=>if d == some t && Q36 ops l t then some r else none
 | some ⟨d,.indexAddr _ (.tmp r) _,_,_,_,none⟩=>if d == some t && Q36 ops l t then some r else none
 | _=>none
def Q4W (ds:List Nat) (ops:Array Oper):Nat→Nat→Nat→Bool
 | 0,_,_=>false
 | k+1,i,t=>(Q85 ops t && !ds.contains t) || (zD i).any fun l=>match stepAt ops l t with|some r=>Q4W ds ops k l r|none=>false
def Q5h (ds:List Nat) (ops:Array Oper) (i:Nat):Bool:=match ops[i]? with
 | some ⟨_,.load _ (.tmp t),_,_,_,_⟩=>Q4W ds ops 8 i t
 | some ⟨_,.indexAddr _ (.tmp t) _,_,_,_,_⟩=>Q4W ds ops 8 i t
 | _=>false
def Q35 (ds:List Nat) (ops:Array Oper):Bool:=(zD ops.size).all fun k=>!((ops[k]?).map (wrM false ·.op)).getD false || Q5j ds ops k
def lateW (ops:Array Oper) (i k:Nat):Bool:=match ops[k]? with
 | some ⟨_,.store _ (.tmp s) _,_,_,_,none⟩=>(zD k).any fun a=>decide (i<a) && Q70 ops a s
 | _=>false
def Q7T (ops:Array Oper) (i:Nat):Bool:=!((ops[i]?).map (wrM false ·.op)).getD true && (zD ops.size).all fun k=>decide (k≤i) || !((ops[k]?).map (wrM false ·.op)).getD false || lateW ops i k
def Q6I (rs:List Nat) (ops:Array Oper) (l t:Nat):Bool:=match ops[l]? with
 | some ⟨d,.fieldAddr _ (.tmp r) _,_,_,_,none⟩=>d == some t && (Q36 ops l t && (Q85 ops r && rs.contains r))
 | _=>false
def Q4G (rs:List Nat) (ops:Array Oper) (i:Nat):Bool:=match ops[i]? with
 | some ⟨_,.load _ (.tmp t),_,_,_,_⟩=>(rs.contains t && Q85 ops t) || (zD i).any fun l=>Q6I rs ops l t
 | _=>false
def Q9R (rd0 ds rs:List Nat) (J:Nat) (ops:Array Oper):Bool :=
 let ms:=Q3N ops.toList []
 (zD ops.size).all fun j=>(zD j).all fun i =>
  match ops[i]?,ops[j]? with
  | some x,some y=>(!Q4g ops x y && (!Q5b x y || (roAt rd0 ops i || ((Q4G rs ops i && decide (j≤J)) || (Q35 ds ops && ((Q5h ds ops i && Q5j ds ops j) || Q7T ops i)))))) || (ms.getD j 0).testBit i
  | _,_=>true
structure SD (ds:List Nat) (st:St):Prop where
 mix:∀ s∈ds,∃ id,st.get s = .adr id 0 0∧Qr (st.hp id)=true
 sep:∀ t id i k,t ∉ ds→st.get t = .adr id i k→∀ s∈ds,st.get s ≠ .adr id 0 0
 sepO:∀ t id i k,t ∉ ds→st.get t = .own id i k→∀ s∈ds,st.get s ≠ .adr id 0 0
theorem sd_nil (st:St):SD [] st:=⟨fun _ h=>by simp at h,fun _ _ _ _ _ _ _ h=>by simp at h,fun _ _ _ _ _ _ _ h=>by simp at h⟩
theorem Q65 {rd0 ds rs:List Nat} {J:Nat} {ops:Array Oper} (h:Q9R rd0 ds rs J ops=true) {i j:Nat} {x y:Oper} (hij:i<j) (hx:ops[i]? = some x) (hy:ops[j]? = some y) :
  ((Q3N ops.toList []).getD j 0).testBit i=true∨(Q4g ops x y=false∧(Q5b x y=true→roAt rd0 ops i=true∨(Q4G rs ops i=true∧j≤J)∨(Q35 ds ops=true∧(Q5h ds ops i=true∨Q7T ops i=true)))):=by
 unfold Q9R at h;have h2:=h;simp only [List.all_eq_true,List.mem_range] at h2;have hj:j<ops.size:=by
  rcases qZ j ops.size with h'|h'
  ·exact h'
  simp [Array.getElem?_eq_none h'] at hy
 have:=h2 j hj i hij;rw [hx,hy] at this;simp only [Bool.or_eq_true,Bool.and_eq_true,Bool.not_eq_true'] at this;rcases this with ⟨h3,h4⟩|h3
 ·refine .inr ⟨h3,fun hm=>?_⟩;rcases h4 with h4|h4|h4|h4
  ·rw [hm] at h4;cases h4
  ·exact .inl h4
  ·exact .inr (.inl ⟨h4.1,of_decide_eq_true h4.2⟩)
  exact .inr (.inr ⟨h4.1,h4.2.imp_left fun q=>q.1⟩)
 exact .inl h3
theorem Q6a {ds:List Nat} {ops:Array Oper} {i:Nat} {o:Oper} (hi:ops[i]? = some o) (h:Q5h ds ops i=true):∃ ty t,(o.op = .load ty (.tmp t)∨∃ x,o.op = .indexAddr ty (.tmp t) x)∧Q4W ds ops 8 i t=true:=by
 unfold Q5h at h;split at h
 ·rename_i d ty t t2 p af g ho;rw [hi] at ho;cases ho;exact ⟨ty,t,.inl rfl,h⟩
 ·rename_i d ty t x t2 p af g ho;rw [hi] at ho;cases ho;exact ⟨ty,t,.inr ⟨x,rfl⟩,h⟩
 cases h
theorem stepAt_eq {ops:Array Oper} {l t r:Nat} (h:stepAt ops l t=some r):∃ o,ops[l]? = some o∧o.guard=none∧o.dst=some t∧Q36 ops l t=true∧((∃ ty k,o.op = .fieldAddr ty (.tmp r) k)∨o.op = .move (.tmp r)∨o.op = .nilCheck (.tmp r)∨∃ ty k,o.op = .indexAddr ty (.tmp r) k):=by
 unfold stepAt at h;split at h
 ·rename_i ho;split at h
  ·rename_i hq;simp only [Bool.and_eq_true,beq_iff_eq] at hq;cases h;exact ⟨_,ho,rfl,hq.1,hq.2,.inl ⟨_,_,rfl⟩⟩
  cases h
 ·rename_i ho;split at h
  ·rename_i hq;simp only [Bool.and_eq_true,beq_iff_eq] at hq;cases h;exact ⟨_,ho,rfl,hq.1,hq.2,.inr (.inl rfl)⟩
  cases h
 ·rename_i ho;split at h
  ·rename_i hq;simp only [Bool.and_eq_true,beq_iff_eq] at hq;cases h;exact ⟨_,ho,rfl,hq.1,hq.2,.inr (.inr (.inl rfl))⟩
  cases h
 ·rename_i ho;split at h
  ·rename_i hq;simp only [Bool.and_eq_true,beq_iff_eq] at hq;cases h;exact ⟨_,ho,rfl,hq.1,hq.2,.inr (.inr (.inr ⟨_,_,rfl⟩))⟩
  cases h
 cases h
theorem rootAt_wr {ds:List Nat} {ops:Array Oper} {i:Nat} {o:Oper} (hi:ops[i]? = some o) (h:Q5h ds ops i=true):wrM false o.op=false:=by
 obtain ⟨ty,t,ho|⟨x,ho⟩,_⟩:=Q6a hi h<;>(rw [ho];rfl)
section
variable {P:Program} {ds:List Nat} {ops:Array Oper} {S:Nat→St} {E:Nat→Option Eff} {C:Ctx} {R:Nat→Prop} {N:Nat} {w0:World}
theorem Q3p (T:Tr P false ops S E) {s a:Nat}:∀ b,a≤b→b≤ops.size→(∀ m,a≤m→m<b→(ops[m]?).bind (·.dst) ≠ some s)→(S b).get s=(S a).get s:=by
 intro b
 induction b with
 | zero =>
  intro h _ _;have:a=0:=by omega
  subst this;rfl
 | succ b ih =>
  intro h hb hk;rcases qZ a (b+1) with h'|h'
  ·obtain ⟨_,hS,_⟩:=T.step (qX (show b<ops.size by omega));rw [hS,Q2y,if_neg]
   ·exact ih (by omega) (by omega) fun m h1 h2=>hk m h1 (by omega)
   have:=hk b (by omega) (by omega);rw [qX (show b<ops.size by omega)] at this;exact this
  have:a=b+1:=by omega
  subst this;rfl
theorem Q4M (T:Tr P false ops S E) {k:Nat} {o:Oper} (ho:ops[k]? = some o) (hg:o.guard=none):∃ e,E k=some e∧AOp P false o.op (S k).ev (S k).hp (S k).n e∧S (k+1)=(S k).app o.dst e:=by
 have:=T.run k o ho;cases hE:E k with
 | none =>
  rw [hE] at this;have h1:=this.1;simp only [Q2u,hg] at h1;cases h1
 | some e =>
  rw [hE] at this;exact ⟨e,rfl,this.2.1,this.2.2⟩
theorem Q9m (T:Tr P false ops S E) {j s:Nat} (h:Q70 ops j s=true):j<ops.size∧Q36 ops j s=true∧(S (j+1)).get s = .adr (S j).n 0 0∧Qr ((S (j+1)).hp (S j).n)=true:=by
 unfold Q70 at h;split at h
 ·rename_i d e0 ty pos af ho;simp only [Bool.and_eq_true,beq_iff_eq] at h;have hjs:=(Array.getElem?_eq_some_iff.1 ho).1;obtain ⟨e,hE,hop,hS⟩:=Q4M T ho rfl;have he:∃ z:Nat × List (List AV),e = { v:=.adr (S j).n 0 0,new:=[((S j).n,.mix z.1 z.2)],cnt:=1 }:=by
   cases hop with
   | sem h0=>cases h0
   | blt h1 h2 =>
    simp only [opF,alloc] at h1;split at h1
    ·rename_i t _;simp only [qA,qC] at h1;exact ⟨(t.sz,[t.zero.map .val]),h1.2.symm⟩
    cases h1
   | call h1=>cases h1
   | mcall h1=>cases h1
   | icall h1=>cases h1
   | boxr h1=>cases h1
   | appM h1=>cases h1
   | fcall h1=>cases h1
   | fcallb h1=>cases h1
   | callb h1=>cases h1
   | mapo h1=>simp [mapF] at h1
   | mkz h1=>cases h1
   | cvs h1=>cases h1
   | sl3 h1=>cases h1
   | mkf h1=>cases h1
   | mkb h1=>cases h1
   | mki h1=>cases h1
   | mkis h1=>cases h1
   | tas h1=>cases h1
   | sto h1=>cases h1
   | stg h1=>cases h1
  obtain ⟨z,rfl⟩:=he;refine ⟨hjs,h.2,?_,?_⟩
  ·rw [hS,Q2y,if_pos h.1]
  have hf:=(hop.fine (T.all j (by omega))).1;show Qr (look (S j).n (S (j+1)).h)=true;rw [hS,Q2l _ _ hf];have hn:(S j).hp (S j).n=none:=by
   show look (S j).n (S j).h=none;cases hh:look (S j).n (S j).h with
   | none=>rfl
   | some x=>have:=T.all j (by omega) _ _ hh;omega
  have:happ ({ v:=.adr (S j).n 0 0,new:=[((S j).n,.mix z.1 z.2)],cnt:=1 }:Eff) (S j).hp (S j).n=none:=by
   simp [happ,look,hn]
  rw [this];simp [look,Qr]
 cases h
def Q3H (S:Nat→St) (ds:List Nat) (id:Nat):Prop:=(S 0).n≤id∨∃ s∈ds,(S 0).get s = .adr id 0 0
theorem Q7s (T:Tr P false ops S E) (hD:SD ds (S 0)) (hall:Q35 ds ops=true):∀ k,k<ops.size→Q5j ds ops k=true→∃ id sz es,(eff E k).set=[(id,.mix sz es)]∧(eff E k).del=[]∧Q3H S ds id∧Qr ((S k).hp id)=true:=by
 intro k
 induction k using Nat.strongRecOn with
 | _ k ih =>
  intro hks hk;unfold Q5j at hk;split at hk
  ·rename_i d ty s x ty2 pos af ho;obtain ⟨b,id,hbk,hdst,b3,b4,b5⟩:∃ b id,b≤k∧(∀ m,b≤m→m<ops.size→(ops[m]?).bind (·.dst) ≠ some s)∧(S b).get s = .adr id 0 0∧Qr ((S b).hp id)=true∧Q3H S ds id:=by
    simp only [Bool.or_eq_true,Bool.and_eq_true] at hk;rcases hk with hk|⟨hk,hk'⟩
    ·obtain ⟨j,hj,hal⟩:=List.any_eq_true.1 hk;have hj:=List.mem_range.1 hj;obtain ⟨a1,a2,a3,a4⟩:=Q9m T hal;exact ⟨j+1,(S j).n,by omega,fun m h1 h2=>Q2Z a2 h2 (by omega),a3,a4,.inl (T.nle (Nat.zero_le j) (by omega))⟩
    have hs:s∈ds:=(by simpa using hk);obtain ⟨id,q1,q2⟩:=hD.mix s hs;exact ⟨0,id,Nat.zero_le _,fun m _ h=>Q44 hk' h,q1,q2,.inr ⟨s,hs,q1⟩⟩
   have key:∀ m,b≤m→m≤k→(S m).get s = .adr id 0 0∧Qr ((S m).hp id)=true:=by
    intro m
    induction m with
    | zero =>
     intro h _;have:b=0:=(by omega);subst this;exact ⟨b3,b4⟩
    | succ m ihm =>
     intro h1 h2;rcases qZ b (m+1) with h|h
     ·obtain ⟨i1,i2⟩:=ihm (by omega) (by omega);have hg:=qX (show m<ops.size by omega);obtain ⟨hf,hS,hnw,_⟩:=T.step hg;refine ⟨?_,?_⟩
      ·rw [hS,Q2y,if_neg]
       ·exact i1
       have:=hdst m (by omega) (by omega);rw [hg] at this;exact this
      show Qr (look id (S (m+1)).h)=true;rw [hS,Q2l _ _ hf];have hh:Qr (happ (eff E m) (S m).hp id)=true:=by
       cases hw:wrM false (ops[m]).op with
       | false =>
        obtain ⟨n1,n2⟩:=hnw hw;rw [QW n1 n2];exact i2
       | true =>
        have hsf:Q5j ds ops m=true:=by
         have:=List.all_eq_true.1 hall m (List.mem_range.2 (by omega));rw [hg] at this;simpa [hw] using this
        obtain ⟨id',sz,es,e1,e2,_⟩:=ih m (by omega) (by omega) hsf;simp only [happ,e1,e2,look]
        by_cases hid:id'=id
        ·rw [if_pos hid];rfl
        rw [if_neg hid];simpa using i2
      cases hq:happ (eff E m) (S m).hp id with
      | none=>rw [hq] at hh;cases hh
      | some y=>rw [hq] at hh;exact hh
     have:b=m+1:=(by omega);subst this;exact ⟨b3,b4⟩
   obtain ⟨k1,k2⟩:=key k (by omega) (qD _);obtain ⟨e,hE,hop,hS⟩:=Q4M T ho rfl;have hev:(S k).ev (.tmp s) = .adr id 0 0:=k1;obtain ⟨sz,es,hmx⟩:∃ sz es,(S k).hp id=some (.mix sz es):=by
    cases hq:(S k).hp id with
    | none=>rw [hq] at k2;cases k2
    | some y=>cases y with
     | mix sz es=>exact ⟨sz,es,rfl⟩
     | row=>rw [hq] at k2;cases k2
     | mapE=>rw [hq] at k2;cases k2
     | ali=>rw [hq] at k2;cases k2
   have heff:eff E k=e:=(by simp [eff,hE]);rw [heff];cases hop with
   | sem h0=>cases h0
   | blt h1 h2 =>
    simp only [opF,hev,Q3i] at h1;cases hty:tyi P ty with
    | none=>rw [hty] at h1;cases h1
    | some t =>
     rw [hty] at h1;simp only [hmx] at h1;split at h1
     ·simp only [qA,qC] at h1;rw [← h1.2];exact ⟨_,_,_,rfl,rfl,b5,by rw [hmx];rfl⟩
     cases h1
   | call h1=>cases h1
   | mcall h1=>cases h1
   | icall h1=>cases h1
   | boxr h1=>cases h1
   | appM h1=>cases h1
   | fcall h1=>cases h1
   | fcallb h1=>cases h1
   | callb h1=>cases h1
   | mapo h1=>simp [mapF] at h1
   | mkz h1=>cases h1
   | cvs h1=>cases h1
   | sl3 h1=>cases h1
   | mkf h1=>cases h1
   | mkb h1=>cases h1
   | mki h1=>cases h1
   | mkis h1=>cases h1
   | tas h1=>cases h1
   | sto h1 h2 h3 h4 h5 =>
    cases h1;rw [hev] at h4;cases h4;have:=h5.ent;rw [hmx] at this;cases this
   | stg h1 h2 h3 h4 _ h5 =>
    cases h1;rw [hev] at h4;cases h4;have:=h5.ent;rw [hmx] at this;cases this
  cases hk
theorem HS_same (T:Tr P false ops S E) (hD:SD ds (S 0)) (hall:Q35 ds ops=true) {i:Nat}:∀ m,i≤m→m≤ops.size→∀ id,HS S E ops.size m id=HS S E ops.size i id∨(Qr (HS S E ops.size i id)=true∧Qr (HS S E ops.size m id)=true∧Q3H S ds id):=by
 intro m
 induction m with
 | zero =>
  intro h _ id;have:i=0:=by omega
  subst this;exact .inl rfl
 | succ m ih =>
  intro h hm id;rcases qZ i (m+1) with h'|h'
  ·have hi:=ih (by omega) (by omega) id;have hg:=qX (show m<ops.size by omega);rw [Q4U T (by omega)];cases hw:wrM false (ops[m]).op with
   | false =>
    obtain ⟨n1,n2⟩:=(T.step hg).2.2.1 hw;rw [QW n1 n2];exact hi
   | true =>
    have hsf:Q5j ds ops m=true:=by
     have:=List.all_eq_true.1 hall m (List.mem_range.2 (by omega));rw [hg] at this;simpa [hw] using this
    obtain ⟨id',sz,es,e1,e2,e3,e4⟩:=Q7s T hD hall m (by omega) hsf;simp only [happ,e1,e2,look]
    by_cases hid:id'=id
    ·subst hid;rw [if_pos rfl];have hmm:Qr (HS S E ops.size m id')=true:=by
      simp only [HS];cases hq:look id' (S m).h with
      | none =>
       have:(S m).hp id'=none:=hq;rw [this] at e4;cases e4
      | some y =>
       have:(S m).hp id'=some y:=hq;rw [this] at e4;exact e4
     rcases hi with hi|⟨h1,h2,h3⟩
     ·exact .inr ⟨by rw [← hi];exact hmm,rfl,e3⟩
     exact .inr ⟨h1,rfl,h3⟩
    rw [if_neg hid];simpa using hi
  have:i=m+1:=by omega
  subst this;exact .inl rfl
theorem Q9u {h h':HP} (hh:∀ x,h' x=h x∨(Qr (h x)=true∧Qr (h' x)=true)):∀ d id,h' id=h id→cont h' d id=cont h d id:=by
 intro d
 induction d with
 | zero=>intro id _;rfl
 | succ d ih =>
  intro id he;simp only [cont,he];cases hq:h id with
  | none=>rfl
  | some y =>
   cases y with
   | mix=>rfl
   | row=>rfl
   | mapE=>rfl
   | ali c i k sz =>
    simp only;rcases hh c with h1|⟨h1,h2⟩
    ·rw [h1,ih c h1]
    rw [h1,h2];rfl
theorem takeC_ali (id i:Nat):∀ (cs:List AV) (k n:Nat),∀ p∈(Q1a id i k n cs).2,Qr (some p.2)=false:=by
 intro cs
 induction cs with
 | nil=>intro k n p hp;simp [Q1a] at hp
 | cons a r ih =>
  intro k n p hp;unfold Q1a at hp;split at hp
  ·rename_i h;cases h
  ·rename_i h;cases h;simp only [List.mem_cons] at hp;rcases hp with rfl|hp
   ·rfl
   exact ih _ _ p hp
  rename_i h;cases h;exact ih _ _ p hp
theorem loadv_new {ty:Option Tyi} {a:AV} {h:HP} {n:Nat} {c:Prop} {e:Eff} (hc:Q2M ty a h n=some (c,e)):∀ p∈e.new,Qr (some p.2)=false:=by
 unfold Q2M at hc;split at hc
 ·split at hc
  ·simp only [qA,qC] at hc;rw [← hc.2];simp
  ·split at hc
   ·simp only [qA,qC] at hc;rw [← hc.2];exact takeC_ali _ _ _ _ _
   cases hc
  cases hc
 ·simp only [qA,qC] at hc;rw [← hc.2];simp
 cases hc
inductive Pts:AV→Nat→Prop
 | adr {id i k}:Pts (.adr id i k) id
 | own {id i k}:Pts (.own id i k) id
theorem Q7A (T:Tr P false ops S E) (hS0:∀ t id,t ∉ ds→Pts ((S 0).get t) id→¬ Q3H S ds id):∀ (n i t:Nat),i≤ops.size→Q4W ds ops n i t=true→∀ id,Pts ((S i).get t) id→¬ Q3H S ds id:=by
 intro n
 induction n with
 | zero=>intro i t _ h;cases h
 | succ n ih =>
  intro i t his h id hg;unfold Q4W at h;simp only [Bool.or_eq_true,Bool.and_eq_true,List.any_eq_true,List.mem_range] at h;rcases h with ⟨h,h'⟩|⟨l,hl,h⟩
  ·rw [Q3p T i (Nat.zero_le _) (by omega) fun q _ hq=>Q44 h (by omega)] at hg;exact hS0 _ _ (by simpa using h') hg
  split at h
  ·rename_i r hr;obtain ⟨o,hol,hgd,h1,h2,hop'⟩:=stepAt_eq hr;obtain ⟨e',hE,hop,hS⟩:=Q4M T hol hgd;rw [Q3p T (a:=l+1) i (by omega) (by omega) fun q hq1 hq2=>Q2Z h2 (by omega) (by omega),hS,Q2y,if_pos h1] at hg;have key:Pts ((S l).get r) id→¬ Q3H S ds id:=fun hx=>ih l r (by omega) h id hx;obtain ⟨d,op,ty,pos,af,gd⟩:=o;simp only at hop' hop;have fin:∀ c,opF P op (S l).ev (S l).hp (S l).n=some (c,e')→¬ Q3H S ds id:=by
    intro c q1;rcases hop' with ⟨ty1,k1,rfl⟩|rfl|rfl|⟨ty1,k1,rfl⟩
    ·have hx:(S l).ev (.tmp r)=(S l).get r:=rfl;simp only [opF,hx] at q1;unfold fieldAddr at q1;split at q1
     ·rename_i hf hx0;simp only [qA,qC] at q1;rw [← q1.2] at hg;cases hg;exact key (by rw [hx0];exact .adr)
     ·simp only [qA,qC] at q1;rw [← q1.2] at hg;cases hg
     cases q1
    ·simp only [opF,qA,qC] at q1;rw [← q1.2] at hg;exact key hg
    ·have hx:(S l).ev (.tmp r)=(S l).get r:=rfl;simp only [opF,hx] at q1;unfold nilCheck at q1;split at q1
     ·rename_i hx0;simp only [qA,qC] at q1;rw [← q1.2] at hg;cases hg;exact key (by rw [hx0];exact .adr)
     ·simp only [qA,qC] at q1;rw [← q1.2] at hg;cases hg
     ·simp only [qA,qC] at q1;rw [← q1.2] at hg;cases hg
     cases q1
    have hx:(S l).ev (.tmp r)=(S l).get r:=rfl;simp only [opF,hx] at q1;split at q1
    ·unfold Q16 at q1;split at q1
     ·rename_i hx0 _;split at q1
      ·split at q1
       ·simp only [qA,qC] at q1;rw [← q1.2] at hg;cases hg;exact key (by rw [hx0];exact .own)
       cases q1
      cases q1
     ·split at q1
      ·simp only [qA,qC] at q1;rw [← q1.2] at hg;cases hg
      cases q1
     cases q1
    cases q1
   rcases hop' with ⟨ty1,k1,rfl⟩|rfl|rfl|⟨ty1,k1,rfl⟩ <;>
   ·cases hop with
    | sem h0=>cases h0
    | blt q1 q2=>exact fin _ q1
    | call h1=>cases h1
    | mcall h1=>cases h1
    | icall h1=>cases h1
    | boxr h1=>cases h1
    | appM h1=>cases h1
    | fcall h1=>cases h1
    | fcallb h1=>cases h1
    | callb h1=>cases h1
    | mapo h1=>simp [mapF] at h1
    | mkz h1=>cases h1
    | cvs h1=>cases h1
    | sl3 h1=>cases h1
    | mkf h1=>cases h1
    | mkb h1=>cases h1
    | mki h1=>cases h1
    | mkis h1=>cases h1
    | tas h1=>cases h1
    | sto h1=>cases h1
    | stg h1=>cases h1
  cases h
theorem root_same (T:Tr P false ops S E) (hD:SD ds (S 0)) (hall:Q35 ds ops=true) (hS0:∀ t id,t ∉ ds→Pts ((S 0).get t) id→¬ Q3H S ds id) {i m:Nat} {oi:Oper} (hi:ops[i]? = some oi) (hr:Q5h ds ops i=true) (him:i≤m+1) (hm:m+1≤ops.size)
  {ev:Operand→AV} {e:Eff} (up:AOp P false oi.op ev (HS S E ops.size i) (S i).n e) (nw:∀ p∈e.new,HS S E ops.size i p.1=some p.2) (hev:∀ t,(.tmp t:Operand)∈oi.op.operands→ev (.tmp t)=(S i).get t) :
  AOp P false oi.op ev (HS S E ops.size (m+1)) (S i).n e∧∀ p∈e.new,HS S E ops.size (m+1) p.1=some p.2:=by
 obtain ⟨ty,t,ho,hsrc⟩:=Q6a hi hr;have his:=(Array.getElem?_eq_some_iff.1 hi).1;have hsame:=HS_same T hD hall (i:=i) (m+1) him hm;have hadr:∀ id a b,(S i).get t = .adr id a b→¬ Q3H S ds id:=fun id a b hg=>Q7A T hS0 8 i t (by omega) hsrc id (by rw [hg];exact .adr);have hidx:∀ ty' x c,Q16 ty' ((S i).get t) x (HS S E ops.size i)=some (c,e)→Q16 ty' ((S i).get t) x (HS S E ops.size (m+1))=some (c,e)∧e.new=[]:=by
  intro ty' x c hc;generalize hg:(S i).get t=v0 at hc ⊢;unfold Q16 at hc ⊢;split at hc
  ·rename_i tt id off n k j;have hlt:¬ Q3H S ds id:=Q7A T hS0 8 i t (by omega) hsrc id (by rw [hg];exact .own);have hid:HS S E ops.size (m+1) id=HS S E ops.size i id:=(hsame id).resolve_right fun h=>hlt h.2.2;have hcont:=Q9u (h:=HS S E ops.size i) (h':=HS S E ops.size (m+1)) (fun x=>(hsame x).imp_right fun h=>⟨h.1,h.2.1⟩) depth id hid;simp only [hcont];refine ⟨hc,?_⟩;split at hc
   ·split at hc
    ·simp only [qA,qC] at hc;rw [← hc.2]
    cases hc
   cases hc
  ·refine ⟨hc,?_⟩;split at hc
   ·simp only [qA,qC] at hc;rw [← hc.2]
   cases hc
  cases hc
 have hload:∀ c,Q2M (tyi P ty) ((S i).get t) (HS S E ops.size i) (S i).n=some (c,e)→Q2M (tyi P ty) ((S i).get t) (HS S E ops.size (m+1)) (S i).n=some (c,e)∧∀ p∈e.new,Qr (some p.2)=false:=by
  intro c hc;refine ⟨?_,loadv_new hc⟩;cases hg:(S i).get t with
  | adr id a b =>
   have hlt:=hadr id a b hg;have hid:HS S E ops.size (m+1) id=HS S E ops.size i id:=(hsame id).resolve_right fun h=>hlt h.2.2;have hcont:=Q9u (h:=HS S E ops.size i) (h':=HS S E ops.size (m+1)) (fun x=>(hsame x).imp_right fun h=>⟨h.1,h.2.1⟩) depth id hid;rw [hg] at hc;cases hty:tyi P ty with
   | none=>rw [hty] at hc;cases hc
   | some tt =>
    rw [hty,Q8M] at hc;rw [Q8M,hid];cases hq:HS S E ops.size i id with
    | none=>rw [hq] at hc;cases hc
    | some y =>
     rw [hq] at hc;cases y with
     | mix=>exact hc
     | row=>exact hc
     | mapE=>cases hc
     | ali=>simp only [Qaq] at hc ⊢;rw [hcont];exact hc
  | rptr cs =>
   rw [hg] at hc;cases hty:tyi P ty with
   | none=>rw [hty] at hc;cases hc
   | some tt=>rw [hty] at hc;exact hc
  | _=>rw [hg] at hc;cases hty:tyi P ty<;>(rw [hty] at hc;cases hc)
 rcases ho with ho|⟨x,ho⟩
 ·rw [ho] at up hev ⊢;have hevt:=hev t (by simp [Op.operands]);cases up with
  | sem h0=>cases h0
  | blt h1 h2 =>
   simp only [opF] at h1;rw [hevt] at h1;obtain ⟨q1,q2⟩:=hload _ h1;refine ⟨.blt (by simp only [opF];rw [hevt];exact q1) h2,fun p hp=>?_⟩;rcases hsame p.1 with h|⟨h,_⟩
   ·rw [h];exact nw p hp
   rw [nw p hp,q2 p hp] at h;cases h
  | call h1=>cases h1
  | mcall h1=>cases h1
  | icall h1=>cases h1
  | boxr h1=>cases h1
  | appM h1=>cases h1
  | fcall h1=>cases h1
  | fcallb h1=>cases h1
  | callb h1=>cases h1
  | mapo h1=>simp [mapF] at h1
  | mkz h1=>cases h1
  | cvs h1=>cases h1
  | sl3 h1=>cases h1
  | mkf h1=>cases h1
  | mkb h1=>cases h1
  | mki h1=>cases h1
  | mkis h1=>cases h1
  | tas h1=>cases h1
  | sto h1=>cases h1
  | stg h1=>cases h1
 rw [ho] at up hev ⊢;have hevt:=hev t (by simp [Op.operands]);cases up with
 | sem h0=>cases h0
 | blt h1 h2 =>
  simp only [opF] at h1;split at h1
  ·rename_i et het;rw [hevt] at h1;obtain ⟨q1,q2⟩:=hidx _ _ _ h1;refine ⟨.blt (by simp only [opF,het];rw [hevt];exact q1) h2,fun p hp=>?_⟩;rw [q2] at hp;cases hp
  cases h1
 | call h1=>cases h1
 | mcall h1=>cases h1
 | icall h1=>cases h1
 | boxr h1=>cases h1
 | appM h1=>cases h1
 | fcall h1=>cases h1
 | fcallb h1=>cases h1
 | callb h1=>cases h1
 | mapo h1=>simp [mapF] at h1
 | mkz h1=>cases h1
 | cvs h1=>cases h1
 | sl3 h1=>cases h1
 | mkf h1=>cases h1
 | mkb h1=>cases h1
 | mki h1=>cases h1
 | mkis h1=>cases h1
 | tas h1=>cases h1
 | sto h1=>cases h1
 | stg h1=>cases h1
def isApp:Op→Bool
 | .call ⟨.builtin .append,_,_⟩=>true
 | _=>false
theorem app_set {op:Op} {ev:Operand→AV} {h:HP} {n:Nat} {e:Eff} (hop:AOp P false op ev h n e) (ha:isApp op=true):e.set=[]:=by
 unfold isApp at ha;split at ha
 case h_2=>cases ha
 rename_i az ts;cases hop with
 | sem h0=>cases h0
 | blt he hc =>
  simp only [opF] at he;unfold bltF at he;split at he
  ·first|(rename_i hq _ _;cases hq;done)|(rename_i hq _;cases hq;done)|(rename_i hq;cases hq;done)
  ·split at he
   ·split at he
    ·unfold Q2v at he;split at he
     ·split at he
      ·split at he
       ·simp only [qA,qC] at he;obtain ⟨_,rfl⟩:=he;rfl
       cases he
      cases he
     cases he
    cases he
   cases he
  ·first|(rename_i hq _ _;cases hq;done)|(rename_i hq _;cases hq;done)|(rename_i hq;cases hq;done)
  ·first|(rename_i hq _ _;cases hq;done)|(rename_i hq _;cases hq;done)|(rename_i hq;cases hq;done)
  cases he
 | call h1 h2=>cases h1;cases h2
 | mcall h1=>cases h1
 | icall h1=>cases h1
 | boxr h1=>cases h1
 | appM h1 h2 h3 =>
  unfold Vc.appM at h3;split at h3
  ·split at h3
   ·simp only [qA,qC] at h3;obtain ⟨_,rfl⟩:=h3;rfl
   cases h3
  cases h3
 | fcall h1 h2=>cases h1;cases h2
 | fcallb h1 h2=>cases h1;cases h2
 | callb h1 h2=>cases h1;cases h2
 | mapo h1=>simp [mapF] at h1
 | mkz h1=>cases h1
 | cvs h1=>cases h1
 | sl3 h1=>cases h1
 | mkf h1=>cases h1
 | mkb h1=>cases h1
 | mki h1=>cases h1
 | mkis h1=>cases h1
 | tas h1=>cases h1
 | sto h1=>cases h1
 | stg h1=>cases h1
theorem wr_ex {h:HP}:∀ (d id:Nat) (es:List (List AV)) (s:List (Nat × Ent)),wr h d id es=some s→∃ p y,s=[p]∧h p.1=some y:=by
 intro d
 induction d with
 | zero=>intro id es s hw;simp [wr] at hw
 | succ d ih =>
  intro id es s hw;unfold wr at hw;cases he:h id with
  | none=>simp [he] at hw
  | some e =>
   cases e with
   | mix=>simp [he] at hw;exact ⟨_,_,hw.symm,he⟩
   | row=>simp [he] at hw;exact ⟨_,_,hw.symm,he⟩
   | mapE=>simp [he] at hw
   | ali c i k sz =>
    simp only [he] at hw;cases hc:cont h d c with
    | none=>simp [hc] at hw
    | some p=>rw [hc] at hw;exact ih _ _ _ hw
theorem Q8h {ty:TypeId} {a:Nat} {x:Operand} {ev:Operand→AV} {h:HP} {n j i k:Nat} {e:Eff} (hop:AOp P false (.store ty (.tmp a) x) ev h n e) (ha:ev (.tmp a) = .adr j i k) :
  ∀ p∈e.set,(∃ y,h p.1=some y)∧(Qr (h j)=true→p.1=j∧Qr (some p.2)=true):=by
 cases hop with
 | sem h0=>cases h0
 | blt h1 h2 =>
  simp only [opF,ha,Q3i] at h1;cases hty:tyi P ty with
  | none=>rw [hty] at h1;cases h1
  | some t =>
   rw [hty] at h1;have gen:∀ (c0:Prop) y,h j=some y→Qr (some y)=false→(match cont h depth j with
     | some (sz,es)=>match ev x with
      | .val v=>if t.sz=1∧Q6O v=true then
        match wr h depth j (es.set i ((es.getD i []).set k (.val v))) with
        | some s=>some (i<es.length∧k<sz,({ v:=.bot,set:=s }:Eff))
        | none=>none
       else none
      | _=>none
     | none=>none)=some (c0,e)→∀ p∈e.set,(∃ y,h p.1=some y)∧(Qr (h j)=true→p.1=j∧Qr (some p.2)=true):=by
    intro c0 y hy hm hq;split at hq
    ·split at hq
     ·split at hq
      ·split at hq
       ·rename_i s hs;simp only [qA,qC] at hq;obtain ⟨_,rfl⟩:=hq;obtain ⟨q,y',rfl,hq⟩:=wr_ex _ _ _ _ hs;intro p hp;simp only [List.mem_singleton] at hp;subst hp;exact ⟨⟨_,hq⟩,fun hm'=>by rw [hy,hm] at hm';cases hm'⟩
       cases hq
      cases hq
     cases hq
    cases hq
   cases hj:h j with
   | none=>simp [hj] at h1
   | some y =>
    cases y with
    | mix sz es =>
     simp only [hj] at h1;split at h1
     ·simp only [qA,qC] at h1;obtain ⟨_,rfl⟩:=h1;intro p hp;simp only [List.mem_singleton] at hp;subst hp;exact ⟨⟨_,hj⟩,fun _=>⟨rfl,rfl⟩⟩
     cases h1
    | row=>simp only [hj] at h1;rw [← hj];exact gen _ _ hj rfl h1
    | mapE=>simp only [hj] at h1;rw [← hj];exact gen _ _ hj rfl h1
    | ali=>simp only [hj] at h1;rw [← hj];exact gen _ _ hj rfl h1
 | call h1=>cases h1
 | mcall h1=>cases h1
 | icall h1=>cases h1
 | boxr h1=>cases h1
 | appM h1=>cases h1
 | fcall h1=>cases h1
 | fcallb h1=>cases h1
 | callb h1=>cases h1
 | mapo h1=>simp [mapF] at h1
 | mkz h1=>cases h1
 | cvs h1=>cases h1
 | sl3 h1=>cases h1
 | mkf h1=>cases h1
 | mkb h1=>cases h1
 | mki h1=>cases h1
 | mkis h1=>cases h1
 | tas h1=>cases h1
 | sto h1 h2 h3 h4 h5 =>
  cases h1;rw [ha] at h4;cases h4;intro p hp;simp only [List.mem_singleton] at hp;subst hp;have:=h5.ent;exact ⟨⟨_,this⟩,fun hm=>by rw [this] at hm;cases hm⟩
 | stg h1 h2 h3 h4 _ h5 =>
  cases h1;rw [ha] at h4;cases h4;intro p hp;simp only [List.mem_singleton] at hp;subst hp;have:=h5.ent;exact ⟨⟨_,this⟩,fun hm=>by rw [this] at hm;cases hm⟩
def Tgt (rs:List Nat) (st st':St) (j:Nat):Prop:=Qr (st.hp j)=true∧Qr (st'.hp j)=true∧∀ s∈rs,∀ id,st.get s = .adr id 0 0→j ≠ id
structure Kp (rs:List Nat) (J:Nat) (ops:Array Oper) (st st':St):Prop where
 var:∀ s∈rs,∃ id,st.get s = .adr id 0 0∧Qr (st.hp id)=true∧Qr (st'.hp id)=true
 wr:∀ k o,ops[k]? = some o→wrM false o.op=true→isApp o.op=true∨∃ ty a x,o.op = .store ty (.tmp a) x∧(∀ m,k≤m→m<ops.size→(ops[m]?).bind (·.dst) ≠ some a)∧∃ j i' k',st'.get a = .adr j i' k'∧(k≤J→Tgt rs st st' j)
theorem kp_set (T:Tr P false ops S E) {rs:List Nat} {J:Nat} (hK:Kp rs J ops (S 0) (S ops.size)) {m:Nat} (hm:m<ops.size):∀ p∈(eff E m).set,(∃ y,(S m).hp p.1=some y)∧(m≤J→∃ j,Tgt rs (S 0) (S ops.size) j∧(Qr ((S m).hp j)=true→p.1=j∧Qr (some p.2)=true)):=by
 have hg:=qX hm;obtain ⟨hf,hS,hnw,_⟩:=T.step hg;intro p hp;cases hw:wrM false (ops[m]).op with
 | false=>rw [(hnw hw).1] at hp;cases hp
 | true =>
  have hrun:=T.run m _ hg;cases hE:E m with
  | none=>simp [eff,hE] at hp
  | some e =>
   rw [hE] at hrun;have hop:=hrun.2.1;have heff:eff E m=e:=(by simp [eff,hE]);rw [heff] at hp;rcases hK.wr m _ hg hw with ha|⟨ty,a,x,ho,hd,j,i',k',hj,ht⟩
   ·rw [app_set hop ha] at hp;cases hp
   rw [ho] at hop;have hga:(S m).get a = .adr j i' k':=(by rw [← hj];exact (Q3p T ops.size (by omega) (qD _) fun q h1 h2=>hd q h1 h2).symm);have:=Q8h hop (show (S m).ev (.tmp a) = .adr j i' k' from hga) p hp;exact ⟨this.1,fun hJ=>⟨j,ht hJ,this.2⟩⟩
theorem kp_gone (T:Tr P false ops S E) {rs:List Nat} {J:Nat} (hK:Kp rs J ops (S 0) (S ops.size)) {x m:Nat} (hx:x<(S m).n) (h0:(S m).hp x=none):∀ k,m≤k→k≤ops.size→(S k).hp x=none:=by
 intro k
 induction k with
 | zero =>
  intro h _;have:m=0:=by omega
  subst this;exact h0
 | succ k ih =>
  intro h hk;rcases qZ m (k+1) with h'|h'
  ·have hn:=ih (by omega) (by omega);have hg:=qX (show k<ops.size by omega);obtain ⟨hf,hS,_⟩:=T.step hg;have hle:=T.nle (show m≤k by omega) (by omega);show look x (S (k+1)).h=none;rw [hS,Q2l _ _ hf];have h1:look x (eff E k).set=none:=by
    cases hq:look x (eff E k).set with
    | none=>rfl
    | some y =>
     obtain ⟨⟨z,hz⟩,_⟩:=kp_set T hK (show k<ops.size by omega) _ (Qq hq);rw [hn] at hz;cases hz
   have h2:look x (eff E k).new=none:=by
    cases hq:look x (eff E k).new with
    | none=>rfl
    | some y=>have:=(hf.new _ (Qq hq)).1;simp only at this;omega
   simp only [happ,h1,hn,h2];simp
  have:m=k+1:=by omega
  subst this;exact h0
theorem kp_all (T:Tr P false ops S E) {rs:List Nat} {J:Nat} (hK:Kp rs J ops (S 0) (S ops.size)):∀ m,m≤ops.size→m≤J+1→(∀ s∈rs,∀ id,(S 0).get s = .adr id 0 0→(S m).hp id=(S 0).hp id)∧∀ j,Tgt rs (S 0) (S ops.size) j→Qr ((S m).hp j)=true:=by
 intro m
 induction m with
 | zero=>intro _ _;exact ⟨fun _ _ _ _=>rfl,fun j hj=>hj.1⟩
 | succ m ih =>
  intro hm hmJ;obtain ⟨i1,i2⟩:=ih (by omega) (by omega);have hg:=qX (show m<ops.size by omega);obtain ⟨hf,hS,_⟩:=T.step hg;have hms:∀ x,Qr ((S 0).hp x)=true→x<(S 0).n:=by
   intro x hx;cases hq:(S 0).hp x with
   | none=>rw [hq] at hx;cases hx
   | some y=>exact T.all 0 (by omega) _ _ hq
  have hnew:∀ x,Qr ((S 0).hp x)=true→look x (eff E m).new=none:=by
   intro x hx0;have hlt':x<(S m).n:=qQ (hms x hx0) (T.nle (Nat.zero_le _) (by omega));cases hq:look x (eff E m).new with
   | none=>rfl
   | some y=>have:=(hf.new _ (Qq hq)).1;simp only at this;omega
  have hdel:∀ x,Qr ((S 0).hp x)=true→Qr ((S ops.size).hp x)=true→look x (eff E m).set=none→x ∉ (eff E m).del:=by
   intro x hx0 hx hl hc;have hlt:x<(S (m+1)).n:=qQ (hms x hx0) (T.nle (Nat.zero_le _) hm);have hn:(S (m+1)).hp x=none:=by
    show look x (S (m+1)).h=none;rw [hS,Q2l _ _ hf];simp only [happ,hl,if_pos hc,hnew x hx0]
   rw [kp_gone T hK hlt hn ops.size hm (qD _)] at hx;cases hx
  have step:∀ x,Qr ((S 0).hp x)=true→look x (eff E m).set=none→x ∉ (eff E m).del→(S (m+1)).hp x=(S m).hp x:=by
   intro x hx0 hl hd;show look x (S (m+1)).h=_;rw [hS,Q2l _ _ hf];simp only [happ,hl,if_neg hd,hnew x hx0];cases (S m).hp x<;>rfl
  refine ⟨fun s hs id hid=>?_,fun j hj=>?_⟩
  ·obtain ⟨id',q1,q2,q3⟩:=hK.var s hs;rw [hid] at q1;cases q1;have hl:look id (eff E m).set=none:=by
    cases hq:look id (eff E m).set with
    | none=>rfl
    | some y =>
     obtain ⟨_,hh0⟩:=kp_set T hK (show m<ops.size by omega) _ (Qq hq);obtain ⟨j,ht,hh⟩:=hh0 (by omega);exact absurd (hh (i2 j ht)).1.symm (ht.2.2 s hs id hid)
   rw [step id q2 hl (hdel id q2 q3 hl)];exact i1 s hs id hid
  cases hq:look j (eff E m).set with
  | none=>rw [step j hj.1 hq (hdel j hj.1 hj.2.1 hq)];exact i2 j hj
  | some y =>
   obtain ⟨_,hh0⟩:=kp_set T hK (show m<ops.size by omega) _ (Qq hq);obtain ⟨j',ht,hh⟩:=hh0 (by omega);have:=(hh (i2 j' ht)).2;show Qr (look j (S (m+1)).h)=true;rw [hS,Q2l _ _ hf];simp only [happ,hq];exact this
theorem kept_nil (ops:Array Oper) (i:Nat):Q4G [] ops i=false:=by
 have h:∀ l t,Q6I [] ops l t=false:=by
  intro l t;unfold Q6I;split<;>simp
 unfold Q4G;split
 ·simp [h]
 rfl
theorem Q5Z {rs:List Nat} {i:Nat} {o:Oper} (hi:ops[i]? = some o) (h:Q4G rs ops i=true):∃ ty t,o.op = .load ty (.tmp t)∧((t∈rs∧Q85 ops t=true)∨∃ l,l<i∧Q6I rs ops l t=true):=by
 unfold Q4G at h;split at h
 ·rename_i d ty t t2 p af g ho;rw [hi] at ho;cases ho;simp only [Bool.or_eq_true,Bool.and_eq_true,List.any_eq_true,List.mem_range] at h;refine ⟨ty,t,rfl,?_⟩;rcases h with h|⟨l,hl,h⟩
  ·exact .inl ⟨by simpa using h.1,h.2⟩
  exact .inr ⟨l,hl,h⟩
 cases h
theorem kept_adr (T:Tr P false ops S E) {rs:List Nat} {J:Nat} (hK:Kp rs J ops (S 0) (S ops.size)) {i:Nat} (his:i<ops.size) {t:Nat} (h:(t∈rs∧Q85 ops t=true)∨∃ l,l<i∧Q6I rs ops l t=true):∃ s∈rs,∃ id a b,(S 0).get s = .adr id 0 0∧(S i).get t = .adr id a b:=by
 rcases h with ⟨ht,hd⟩|⟨l,hl,h⟩
 ·obtain ⟨id,q1,_⟩:=hK.var t ht;exact ⟨t,ht,id,0,0,q1,by rw [Q3p T i (Nat.zero_le _) (by omega) fun q _ hq=>Q44 hd (by omega)];exact q1⟩
 unfold Q6I at h;split at h
 ·rename_i d ty1 r off ty2 pos af hol;simp only [Bool.and_eq_true,beq_iff_eq] at h;obtain ⟨h1,h2,h3,h4⟩:=h;have h4:r∈rs:=by simpa using h4
  obtain ⟨id,q1,_⟩:=hK.var r h4;obtain ⟨e',hE,hop,hS⟩:=Q4M T hol rfl;have hr0:(S l).get r = .adr id 0 0:=by rw [Q3p T l (Nat.zero_le _) (by omega) fun q _ hq=>Q44 h3 (by omega)];exact q1
  have hg:(S i).get t=e'.v:=by rw [Q3p T (a:=l+1) i (by omega) (by omega) fun q hq1 hq2=>Q2Z h2 (by omega) (by omega),hS,Q2y,if_pos h1]
  cases hop with
  | sem h0=>cases h0
  | blt p1 p2 =>
   have hx:(S l).ev (.tmp r) = .adr id 0 0:=hr0;simp only [opF,hx] at p1;unfold fieldAddr at p1;split at p1
   ·rename_i hf hx0;cases hx0;simp only [qA,qC] at p1;rw [← p1.2] at hg;exact ⟨r,h4,id,_,_,q1,hg⟩
   ·rename_i hx0;cases hx0
   cases p1
  | call h1=>cases h1
  | mcall h1=>cases h1
  | icall h1=>cases h1
  | boxr h1=>cases h1
  | appM h1=>cases h1
  | fcall h1=>cases h1
  | fcallb h1=>cases h1
  | callb h1=>cases h1
  | mapo h1=>simp [mapF] at h1
  | mkz h1=>cases h1
  | cvs h1=>cases h1
  | sl3 h1=>cases h1
  | mkf h1=>cases h1
  | mkb h1=>cases h1
  | mki h1=>cases h1
  | mkis h1=>cases h1
  | tas h1=>cases h1
  | sto h1=>cases h1
  | stg h1=>cases h1
 cases h
theorem kept_same (T:Tr P false ops S E) {rs:List Nat} {J:Nat} (hK:Kp rs J ops (S 0) (S ops.size)) {i m:Nat} {oi:Oper} (hi:ops[i]? = some oi) (hr:Q4G rs ops i=true) (him:i≤m+1) (hmJ:m≤J) (hm:m+1≤ops.size)
  {ev:Operand→AV} {e:Eff} (up:AOp P false oi.op ev (HS S E ops.size i) (S i).n e) (hev:∀ t,(.tmp t:Operand)∈oi.op.operands→ev (.tmp t)=(S i).get t) :
  AOp P false oi.op ev (HS S E ops.size (m+1)) (S i).n e∧∀ p∈e.new,HS S E ops.size (m+1) p.1=some p.2:=by
 obtain ⟨ty,t,ho,hsrc⟩:=Q5Z hi hr;have his:=(Array.getElem?_eq_some_iff.1 hi).1;obtain ⟨s,hs,id,a,b,q1,q4⟩:=kept_adr T hK his hsrc;obtain ⟨id',q1',q2,q3⟩:=hK.var s hs;rw [q1] at q1';cases q1';rw [ho] at up hev ⊢;have hevt:ev (.tmp t) = .adr id a b:=by rw [hev t (by simp [Op.operands])];exact q4
 obtain ⟨sz,es,hmx⟩:∃ sz es,(S 0).hp id=some (.mix sz es):=by
  cases hq:(S 0).hp id with
  | none=>rw [hq] at q2;cases q2
  | some y=>cases y with
   | mix sz es=>exact ⟨sz,es,rfl⟩
   | row=>rw [hq] at q2;cases q2
   | mapE=>rw [hq] at q2;cases q2
   | ali=>rw [hq] at q2;cases q2
 have hH:∀ k,k≤ops.size→k≤J+1→HS S E ops.size k id=some (.mix sz es):=by
  intro k hk hkJ;have h1:look id (S k).h=some (.mix sz es):=by
   have:=(kp_all T hK k hk hkJ).1 s hs id q1;rw [hmx] at this;exact this
  simp only [HS,h1]
 cases up with
 | sem h0=>cases h0
 | blt h1 h2 =>
  simp only [opF] at h1;rw [hevt] at h1;cases hty:tyi P ty with
  | none=>rw [hty] at h1;cases h1
  | some tt =>
   rw [hty] at h1;simp only [Q2M,hH i (by omega) (by omega),qA,qC] at h1;obtain ⟨hc,he⟩:=h1;subst he;refine ⟨.blt (c:=a<es.length∧b+tt.sz≤sz) ?_ (by rw [hc];exact h2),fun p hp=>by cases hp⟩;simp only [opF];rw [hevt,hty];simp only [Q2M,hH (m+1) hm (by omega)]
 | call h1=>cases h1
 | mcall h1=>cases h1
 | icall h1=>cases h1
 | boxr h1=>cases h1
 | appM h1=>cases h1
 | fcall h1=>cases h1
 | fcallb h1=>cases h1
 | callb h1=>cases h1
 | mapo h1=>simp [mapF] at h1
 | mkz h1=>cases h1
 | cvs h1=>cases h1
 | sl3 h1=>cases h1
 | mkf h1=>cases h1
 | mkb h1=>cases h1
 | mki h1=>cases h1
 | mkis h1=>cases h1
 | tas h1=>cases h1
 | sto h1=>cases h1
 | stg h1=>cases h1
def Mov (P:Program) (ops:Array Oper) (S:Nat→St) (E:Nat→Option Eff) (i m:Nat):Prop:=∀ oi,ops[i]? = some oi→wrM false oi.op=false∧∀ (ev:Operand→AV) (e:Eff),i≤m+1→m+1≤ops.size →
 AOp P false oi.op ev (S i).hp (S i).n e→e=eff E i→AOp P false oi.op ev (HS S E ops.size i) (S i).n e→(∀ p∈e.new,HS S E ops.size i p.1=some p.2)→(∀ t,(.tmp t:Operand)∈oi.op.operands→ev (.tmp t)=(S i).get t) →
 AOp P false oi.op ev (HS S E ops.size (m+1)) (S i).n e∧∀ p∈e.new,HS S E ops.size (m+1) p.1=some p.2
theorem mov_soft (T:Tr P false ops S E) (hD:SD ds (S 0)) (hall:Q35 ds ops=true) (hS0:∀ t id,t ∉ ds→Pts ((S 0).get t) id→¬ Q3H S ds id) {i m:Nat} (hr:Q5h ds ops i=true):Mov P ops S E i m :=
 fun oi hi=>⟨rootAt_wr hi hr,fun ev e him hm _ _ up nw hev=>root_same T hD hall hS0 hi hr him hm up nw hev⟩
theorem mov_kept (T:Tr P false ops S E) {rs:List Nat} {J:Nat} (hK:Kp rs J ops (S 0) (S ops.size)) {i m:Nat} (hmJ:m≤J) (hr:Q4G rs ops i=true):Mov P ops S E i m :=
 fun oi hi=>⟨by obtain ⟨ty,t,ho,_⟩:=Q5Z hi hr;rw [ho];rfl,fun ev e him hm _ _ up nw hev=>kept_same T hK hi hr him hmJ hm up hev⟩
theorem rdT_wr {op:Op} {t:Nat} (h:rdT op=some t):wrM false op=false:=by
 unfold rdT at h;split at h<;>first|rfl|cases h
theorem mov_ro (T:Tr P false ops S E) {rd0:List Nat} (h0:∀ t∈rd0,RoV ((S 0).get t)) {i m:Nat} (hr:roAt rd0 ops i=true):Mov P ops S E i m:=fun oi hi=>by
 obtain ⟨t,ht,hv⟩:=Q6Q h0 (fun k o ho=>T.run k o (by simpa using ho)) hi hr;refine ⟨rdT_wr ht,fun ev e _ _ _ _ up nw hev=>?_⟩;have:=up.calmR ht (by rw [hev t (rdT_mem ht)];exact hv);exact ⟨this.2 _,by rw [this.1.2.2.1];simp⟩
theorem mix_keep (T:Tr P false ops S E) (hD:SD ds (S 0)) (hall:Q35 ds ops=true) {b id:Nat} (hb:Qr ((S b).hp id)=true):∀ m,b≤m→m≤ops.size→Qr ((S m).hp id)=true:=by
 intro m
 induction m with
 | zero =>
  intro h _;have:b=0:=by omega
  subst this;exact hb
 | succ m ihm =>
  intro h1 h2;rcases qZ b (m+1) with h|h
  ·have i2:=ihm (by omega) (by omega);have hg:=qX (show m<ops.size by omega);obtain ⟨hf,hS,hnw,_⟩:=T.step hg;show Qr (look id (S (m+1)).h)=true;rw [hS,Q2l _ _ hf];have hh:Qr (happ (eff E m) (S m).hp id)=true:=by
    cases hw:wrM false (ops[m]).op with
    | false =>
     obtain ⟨n1,n2⟩:=hnw hw;rw [QW n1 n2];exact i2
    | true =>
     have hsf:Q5j ds ops m=true:=by
      have:=List.all_eq_true.1 hall m (List.mem_range.2 (by omega));rw [hg] at this;simpa [hw] using this
     obtain ⟨id',sz,es,e1,e2,_⟩:=Q7s T hD hall m (by omega) hsf;simp only [happ,e1,e2,look]
     by_cases hid:id'=id
     ·rw [if_pos hid];rfl
     rw [if_neg hid];simpa using i2
   cases hq:happ (eff E m) (S m).hp id with
   | none=>rw [hq] at hh;cases hh
   | some y=>rw [hq] at hh;exact hh
  have:b=m+1:=by omega
  subst this;exact hb
theorem late_eff (T:Tr P false ops S E) (hD:SD ds (S 0)) (hall:Q35 ds ops=true) {i k:Nat} (hk:k<ops.size) (hl:lateW ops i k=true):(∀ p∈(eff E k).set,(S (i+1)).n≤p.1)∧(eff E k).del=[]:=by
 have hl2:=hl;unfold lateW at hl;split at hl
 ·rename_i d ty s x ty2 pos af ho;obtain ⟨a,ha,hal⟩:=List.any_eq_true.1 hl;have ha:=List.mem_range.1 ha;simp only [Bool.and_eq_true,decide_eq_true_eq] at hal;obtain ⟨a1,a2,a3,a4⟩:=Q9m T hal.2;have hsf:Q5j ds ops k=true:=by
   have:=List.all_eq_true.1 hall k (List.mem_range.2 hk);rw [ho] at this;simpa [wrM,Q1r] using this
  obtain ⟨id,sz,es,e1,e2,_⟩:=Q7s T hD hall k hk hsf;obtain ⟨e,hE,hop,hS⟩:=Q4M T ho rfl;have heff:eff E k=e:=by simp [eff,hE]
  have hg:(S k).get s = .adr (S a).n 0 0:=by
   rw [Q3p T (a:=a+1) k (by omega) (by omega) fun m h1 h2=>Q2Z a2 (by omega) (by omega)];exact a3
  have hm:=mix_keep T hD hall a4 k (by omega) (by omega);refine ⟨fun p hp=>?_,e2⟩;rw [heff] at hp;have:=((Q8h hop (show (S k).ev (.tmp s)=_ from hg)) p hp).2 hm;rw [this.1];exact T.nle (by omega) (by omega)
 cases hl
theorem mov_late (T:Tr P false ops S E) (hD:SD ds (S 0)) (hall:Q35 ds ops=true) {i m:Nat} (hl:Q7T ops i=true):Mov P ops S E i m:=fun oi hi=>by
 have his:=(Array.getElem?_eq_some_iff.1 hi).1;unfold Q7T at hl;rw [Bool.and_eq_true] at hl;obtain ⟨hl1,hl2⟩:=hl;have hw:wrM false oi.op=false:=by
  rw [hi] at hl1;simpa using hl1
 refine ⟨hw,fun ev e him hm up0 hee up nw hev=>?_⟩;obtain ⟨n1,n2⟩:=(T.step hi).2.2.1 hw;have h0:HS S E ops.size (i+1)=HS S E ops.size i:=by rw [Q4U T his,QW n1 n2]
 have key:∀ q,i+1≤q→q≤ops.size→∀ id,id<(S (i+1)).n→HS S E ops.size q id=HS S E ops.size (i+1) id:=by
  intro q
  induction q with
  | zero=>intro h;omega
  | succ q ih =>
   intro h1 h2 id hid;rcases qZ (i+1) (q+1) with h|h
   ·rw [← ih (by omega) (by omega) id hid,Q4U T (by omega)];have hg:=qX (show q<ops.size by omega);cases hwq:wrM false (ops[q]).op with
    | false =>
     obtain ⟨g1,g2⟩:=(T.step hg).2.2.1 hwq;rw [QW g1 g2]
    | true =>
     have hlw:lateW ops i q=true:=by
      have:=List.all_eq_true.1 hl2 q (List.mem_range.2 (by omega));rw [hg] at this;simp only [Option.map_some,qY,hwq,Bool.not_true,Bool.or_false,Bool.or_eq_true,decide_eq_true_eq] at this;exact this.resolve_left (by omega)
     obtain ⟨g1,g2⟩:=late_eff T hD hall (by omega) hlw;simp only [happ,g2];have:look id (eff E q).set=none:=by
      cases hq:look id (eff E q).set with
      | none=>rfl
      | some y =>
       obtain ⟨p,hp,hpe⟩:=List.mem_map.1 (Q2p hq);have:=g1 p hp;omega
     rw [this];simp
   have:i=q:=(by omega);subst this;rfl
 have all:∀ id,id<(S (i+1)).n→HS S E ops.size (m+1) id=HS S E ops.size i id:=by
  intro id hid;rcases qZ i (m+1) with h|h
  ·rw [key (m+1) (by omega) hm id hid,h0]
  have:i=m+1:=by omega
  rw [this]
 have hle:=T.nle (show i≤i+1 by omega) (by omega);have hok:=T.all i (by omega);refine ⟨up0.up (fun id x hid=>?_) fun id hid=>?_,fun p hp=>?_⟩
 ·have hid':look id (S i).h=some x:=hid;have:=hok _ _ hid';rw [all id (by omega)];simp only [HS,hid']
 ·rw [all id (by omega)];simp only [HS,St.hp];cases hh:look id (S i).h with
  | some x=>rfl
  | none =>
   cases hl:look id (Q2L E i (ops.size - i)) with
   | none=>rfl
   | some x =>
    obtain ⟨p,hp,hpe⟩:=List.mem_map.1 (Q2p hl);have:=(Q4H T (ops.size - i) i (by omega) p hp).1;omega
 have hfe:e.fine (S i).n:=by rw [hee];exact (T.step hi).1
 have hlt:=(hfe.new p hp).2;have hn:=T.n his;rw [all p.1 (by rw [hn,← hee];exact hlt)];exact nw p hp
theorem hU_last (L:Nat→Bool):∀ n,(∃ k,k<n∧L k=true∧isW false ops k=true)→∃ m,m<n∧hU false ops S E L n=HS S E ops.size (m+1)∧(∀ k,m<k→k<n→L k=true→isW false ops k=false)∧L m=true∧isW false ops m=true:=by
 intro n
 induction n with
 | zero=>rintro ⟨k,hk,_⟩;omega
 | succ n ih =>
  rintro ⟨k,hk,h1,h2⟩
  by_cases hn:L n=true∧isW false ops n=true
  ·refine ⟨n,by omega,?_,(fun q h3 h4=>by omega),hn.1,hn.2⟩;simp only [hU];rw [if_pos (by simpa [isW] using hn)]
  have hkn:k<n:=by
   rcases qZ k n with h|h
   ·exact h
   have:k=n:=(by omega);subst this;exact absurd ⟨h1,h2⟩ hn
  obtain ⟨m,m1,m2,m3,m4,m5⟩:=ih ⟨k,hkn,h1,h2⟩;refine ⟨m,by omega,?_,fun q h3 h4 h5=>?_,m4,m5⟩
  ·simp only [hU];rw [if_neg (by simpa [isW] using hn)];exact m2
  by_cases hq:q=n
  ·subst hq;cases hw:isW false ops q with
   | false=>rfl
   | true=>exact absurd ⟨h5,hw⟩ hn
  exact m3 q h3 (by omega) h5
theorem mid_stepS (T:Tr P false ops S E) (hN:∀ o∈ops.toList,∀ d,o.dst=some d→d<N) {L:Nat→Bool} {i:Nat} {oi:Oper} (hi:ops[i]? = some oi) (hL:L i=false)
  (hA:∀ k o,k<i→ops[k]? = some o→Q4o false ops o oi=true→L k=true∨(Mov P ops S E k i∧Q4g ops o oi=false)) (hB:∀ k o,i<k→ops[k]? = some o→L k=true→Q4g ops oi o=false∧(Q5b oi o=true→Mov P ops S E i k))
  {a:Act} {w:World} (M:Mid false C R N ops S E w0 L a w) {K:Act→World→Prop} (hK:∀ R' a' w',RX R R' C.w0.heap.size→Mid false C R' N ops S E w0 (upL L i) a' w'→K a' w'):wpOp P ops i K a w:=by
 classical
 have hin:i<ops.size:=(Array.getElem?_eq_some_iff.1 hi).1;obtain ⟨o,ρ,W,H,hx,hρ,hpin⟩:=M.ex;obtain ⟨hf,hS,hnw,hnt⟩:=T.step hi;have hd:(ops[i]?).bind (·.dst)=oi.dst:=by rw [hi];rfl
 have hslot:∀ t,t∈Q4K ops oi→envU ops S E L ops.size t=(S i).get t:=by
  intro t ht;rw [Q7F L t i ops.size (by omega) fun k hk1 hk2 hk3=>?_]
  ·refine Q8y T L t i (by omega) fun k hk1 hk2=>?_;have hk:k<ops.size:=(by omega);rw [qX hk] at hk2;have hk2:(ops[k]).dst=some t:=hk2;have hcs:Q4g ops ops[k] oi=true:=by
    simp only [Q4g,hk2,Bool.or_eq_true];left;left;simpa using ht
   rcases hA k _ hk1 (qX hk) (by rw [Q9r,hcs];rfl) with h|h
   ·exact h
   rw [hcs] at h;cases h.2
  intro hdk
  by_cases hki:k=i
  ·subst hki;rw [hL] at hk3;cases hk3
  have hk:k<ops.size:=hk2;have h1:=hB k _ (by omega) (qX hk) hk3;rw [qX hk] at hdk;exact (Q6D h1.1).2 t hdk ht
 have hown:∀ t,envU ops S E (upL L i) ops.size t=if oi.dst=some t then (eff E i).v else envU ops S E L ops.size t:=by
  intro t;rw [Q9A hL t ops.size fun k h1 h2 h3=>?_,hd]
  ·by_cases hdt:oi.dst=some t
   ·rw [if_pos ⟨hin,hdt⟩,if_pos hdt]
   rw [if_neg (fun h=>hdt h.2),if_neg hdt]
  cases hdi:oi.dst with
  | none=>right;rw [hd,hdi]
  | some d =>
   left;rw [hd,hdi,qX h2];have h4:=hB k _ h1 (qX h2) h3;exact ((Q6D h4.1).1 d hdi).2
 have hdN:∀ x,oi.dst=some x→x<a.tmps.size:=fun x hx=>by
  rw [M.size];exact hN oi (by rw [← Array.getElem?_toList] at hi;exact List.mem_of_getElem? hi) x hx
 have fin:∀ v w' R' o' ρ',RX R R' C.w0.heap.size→WF C w' ⟨R',o',ρ'⟩→HRel w' ⟨R',o',ρ'⟩ (hU false ops S E (upL L i) ops.size)→(∀ id k,ρ id=some k→ρ' id=some k)→(∀ id k,ρ' id=some k→ρ id=some k∨((S i).n≤id∧id<(S i).n+(eff E i).cnt)) →
   XRel w' R' ρ' v (eff E i).v→(∀ b,R b→w'.heap[b]? = w.heap[b]?)→K (a.put oi.dst v) w':=by
  intro v w' R' o' ρ' hX W' H' h1 h2 hv h3;refine hK R' _ _ hX ⟨by rw [Q5E];exact M.size,by rw [← M.defers];cases oi.dst<;>rfl,⟨o',ρ',W',H',fun t=>?_,fun id k hk=>?_,fun id hid=>?_,hpin.2⟩⟩
  ·rw [put_get a oi.dst v t hdN,hown];split
   ·exact hv
   exact (hx t).mono (fun b hb=>⟨hX.1 b hb,h3 b hb⟩) h1
  ·rcases h2 id k hk with h4|h4
   ·rcases hρ id k h4 with h5|⟨j,hj,hLj,h5⟩
    ·exact .inl h5
    exact .inr ⟨j,hj,by simp only [upL];split<;>simp_all,h5⟩
   exact .inr ⟨i,hin,by simp [upL],h4.1,by rw [T.n hin];exact h4.2⟩
  rw [← hpin.1 id hid];cases hr:ρ id with
  | some k=>exact h1 id k hr
  | none =>
   cases hr':ρ' id with
   | none=>rfl
   | some k =>
    exfalso;rcases h2 id k hr' with h4|h4
    ·rw [hr] at h4;cases h4
    have:=T.nle (show 0≤i by omega) (by omega);have:=hpin.2;omega
 have hW:isW false ops i=true→(∀ k,k<i→isW false ops k=true→L k=true)∧∀ k,i<k→k<ops.size→L k=true→isW false ops k=false:=by
  intro hw;have hwi:wrM false oi.op=true:=by simpa [isW,hi] using hw
  have htw:∀ x:Op,wrM false x=true→Q1j x=true:=by
   intro x hx;cases x with
   | call cl =>
    obtain ⟨ce,args,ts⟩:=cl;cases ce with
    | builtin b=>cases b<;>simp_all [wrM,Q3r,roC,Q3S,Q1r,Q1j]
    | value=>rfl
    | invoke=>simp [wrM,Q3r,roC,Q3S,Q1r] at hx
   | _=>first|rfl|(simp [wrM,Q3r,roC,Q3S,Q1r] at hx;done)
  refine ⟨fun k hk hwk=>?_,fun k hk hk2 hLk=>?_⟩
  ·have hks:k<ops.size:=(by omega);have hg:=qX hks;have hwk':wrM false (ops[k]).op=true:=(by simpa [isW,hg] using hwk);rcases hA k _ hk hg (by simp only [Q4o,Bool.or_eq_true,Bool.and_eq_true];left;right;exact ⟨⟨hwk',(tch0 _).trans (htw _ hwi)⟩,rfl⟩) with h|h
   ·exact h
   have:=(h.1 _ hg).1;rw [hwk'] at this;cases this
  have hg:=qX hk2;have h1:=hB k _ hk hg hLk;cases hwk:isW false ops k with
  | false=>rfl
  | true =>
   have hwk':wrM false (ops[k]).op=true:=(by simpa [isW,hg] using hwk);have h2:=h1.2 (by simp only [Q5b,hwi,htw _ hwk',Bool.and_self,Bool.true_or]);have:=(h2 _ hi).1;rw [hwi] at this;cases this
 have hhU:=hU_upL T hin hL hW;have hguard:∀ b,Q2u ops oi (S i)=some b→Region.wanted oi (yielded ops a.tmps)=b:=by
  intro b hb;unfold Q2u at hb;unfold Region.wanted;split at hb
  ·rename_i hg;rw [hg];simpa using hb
  rename_i j want hg;rw [hg];split at hb
  ·rename_i t ht;split at hb
   ·rename_i bb hbb;have h1:=hx t;rw [hslot t (Q3q hg ht),hbb] at h1;have h2:=h1.val_eq.1;have h3:a.tmps[t]? = some (.bool bb):=by
     cases hh:a.tmps[t]? with
     | none=>simp [hh,undef] at h2
     | some x=>simp [hh] at h2;rw [h2]
    simp only [yielded,ht,Option.bind_some,h3];simp only [qA] at hb;rw [← hb];cases bb<;>cases want<;>rfl
   ·rename_i htt;have h1:=hx t;rw [hslot t (Q3q hg ht),htt] at h1;obtain ⟨cs,h2,h3,_⟩:=h1.tup_eq;have h4:cs = #[]:=(by simpa using h3);subst h4;simp only [qA] at hb;rw [← hb];have h5:a.tmps[t]? = none∨a.tmps[t]? = some (.tuple #[]):=by
     cases hh:a.tmps[t]? with
     | none=>exact .inl rfl
     | some x=>simp [hh] at h2;rw [h2];exact .inr rfl
    rcases h5 with h5|h5<;>simp [yielded,ht,h5]
   cases hb
  cases hb
 have hrun:=T.run i oi hi;unfold wpOp;rw [hi];simp only;cases hE:E i with
 | none =>
  rw [hE] at hrun;rw [hguard false hrun.1];simp only [Bool.false_eq_true,if_false];have heff:eff E i = { v:=.tup [] }:=by simp [eff,hE]
  refine fin undef w R o ρ .refl W ?_ (fun _ _ h=>h) (fun _ _ h=>.inl h) (by rw [heff];exact .tup rfl fun k hk=>by simp at hk) (fun _ _=>rfl);rw [hhU,heff];cases isW false ops i<;>simpa [QW] using H
 | some e =>
  rw [hE] at hrun;obtain ⟨hwant,hop,_⟩:=hrun;have heff:eff E i=e:=by simp [eff,hE]
  rw [hguard true hwant];simp only [if_true]
  let ev:Operand→AV:=fun x=>if x∈oi.op.operands then (S i).ev x else .bot
  have hev:∀ x,XRel w R ρ (a.eval x) (ev x):=by
   intro x;simp only [ev];split
   ·rename_i hmem;cases x with
    | tmp t =>
     have:=hx t;rw [hslot t (Q8i hmem)] at this;exact this
    | const v =>
     simp only [St.ev,cst,Act.eval];split
     ·rename_i hsc;exact .r (.val (Q8d hsc))
     exact .bot
    | global=>exact .bot
    | func f=>exact .fn (by simp) (fun k hk=>by simp at hk)
   exact .bot
  have hop1:AOp P false oi.op ev (S i).hp (S i).n e:=hop.congr fun x hx=>by simp only [ev];rw [if_pos hx]
  have hop2:AOp P false oi.op ev (hU false ops S E L ops.size) (S i).n e∧(∀ p∈e.new,hU false ops S E L ops.size p.1=some p.2):=by
   cases ht:Q1j oi.op with
   | false =>
    have hc:=hop1.calm ht;exact ⟨hc.2 _,by rw [hc.1.2.2.1];simp⟩
   | true =>
    have hok:=T.all i (by omega);have up:AOp P false oi.op ev (HS S E ops.size i) (S i).n e:=by
     refine hop1.up (fun id x hid=>?_) fun id hid=>?_
     ·have hid':look id (S i).h=some x:=hid;simp only [HS,hid']
     simp only [HS,St.hp];cases hh:look id (S i).h with
     | some x=>rfl
     | none =>
      cases hl:look id (Q2L E i (ops.size - i)) with
      | none=>rfl
      | some x =>
       obtain ⟨p,hp,hpe⟩:=List.mem_map.1 (Q2p hl);have:=(Q4H T (ops.size - i) i (by omega) p hp).1;omega
    have nw:∀ p∈e.new,HS S E ops.size i p.1=some p.2:=by
     intro p hp;have hfe:e.fine (S i).n:=(by rw [← heff];exact hf);have hlt:=(hfe.new p hp).1;have hnone:look p.1 (S i).h=none:=by
      cases hh:look p.1 (S i).h with
      | none=>rfl
      | some x=>have:=hok _ _ hh;omega
     simp only [HS,hnone];have hlat:Q2L E i (ops.size - i)=(eff E i).new++Q2L E (i+1) (ops.size - (i+1)):=by
      rw [show ops.size - i=(ops.size - (i+1))+1 by omega];rfl
     rw [hlat,Q2b,heff,Q14 hfe.nodup hp]
    by_cases hlate:∃ k,i<k∧k<ops.size∧L k=true∧isW false ops k=true
    ·obtain ⟨k1,hk1,hk2,hk3,hk4⟩:=hlate;have hg1:=qX hk2;have hwk1:wrM false (ops[k1]).op=true:=(by simpa [isW,hg1] using hk4);obtain ⟨m,hm1,hm2,hm3,hm4,hm5⟩:=hU_last (S:=S) (E:=E) L ops.size ⟨k1,hk2,hk3,hk4⟩;have him:i≤m:=by
      rcases qZ m i with h|h
      ·have:=hm3 k1 (by omega) hk2 hk3;rw [this] at hk4;cases hk4
      exact h
     rw [hm2];have hne:i ≠ m:=fun q=>by rw [q,hm4] at hL;cases hL
     have hgm:=qX hm1;have hwm:wrM false (ops[m]).op=true:=(by simpa [isW,hgm] using hm5);have hr:=(hB m _ (by omega) hgm hm4).2 (by simp only [Q5b,ht,hwm,Bool.and_self,Bool.or_true]);exact (hr _ hi).2 ev e (by omega) (by omega) hop1 heff.symm up nw fun t ht=>by simp only [ev];rw [if_pos ht];rfl
    have e1:hU false ops S E L ops.size=HS S E ops.size i:=by
     rw [Q5X L i ops.size (by omega) fun k hk1 hk2 hk3=>?_]
     ·refine hU_at T L i (by omega) fun k hk hwk=>?_;have hks:k<ops.size:=(by omega);have hg:=qX hks;have hwk':wrM false (ops[k]).op=true:=(by simpa [isW,hg] using hwk);rcases hA k _ hk hg (by simp only [Q4o,Bool.or_eq_true,Bool.and_eq_true];left;right;exact ⟨⟨hwk',(tch0 _).trans ht⟩,rfl⟩) with h|h
      ·exact h
      have:=(h.1 _ hg).1;rw [hwk'] at this;cases this
     by_cases hki:k=i
     ·subst hki;rw [hL] at hk3;cases hk3
     cases hwk:isW false ops k with
     | false=>rfl
     | true=>exact absurd ⟨k,by omega,hk2,hk3,hwk⟩ hlate
    rw [e1];exact ⟨up,nw⟩
  have hfr:∀ id,(S i).n≤id→id<(S i).n+e.cnt→ρ id=none:=by
   intro id h1 h2;cases hh:ρ id with
   | none=>rfl
   | some k =>
    have hni:=T.n hin;rw [heff] at hni;rcases hρ id k hh with h3|⟨j,hj,hLj,h3,h4⟩
    ·have:=T.nle (show 0≤i by omega) (by omega);omega
    rcases Nat.lt_trichotomy j i with hji|hji|hji
    ·have:=T.nle (show j+1≤i by omega) (by omega);omega
    ·subst hji;rw [hL] at hLj;cases hLj
    have:=T.nle (show i+1≤j by omega) (by omega);omega
  have hlim:wrM false oi.op=true→∀ id k,ρ id=some k→id<(S i).n:=by
   intro hw id k hk;rcases hρ id k hk with h3|⟨j,hj,hLj,h3,h4⟩
   ·exact qQ h3 (T.nle (by omega) (by omega))
   rcases Nat.lt_trichotomy j i with hji|hji|hji
   ·have:=T.nle (show j+1≤i by omega) (by omega);omega
   ·subst hji;rw [hL] at hLj;cases hLj
   have hg:=qX hj;have h5:Q1j (ops[j]).op=false:=by
    cases h:Q1j (ops[j]).op with
    | false=>rfl
    | true =>
     have h2:=(hB j _ hji hg hLj).2 (by simp only [Q5b,hw,h,Bool.and_self,Bool.true_or]);have:=(h2 _ hi).1;rw [hw] at this;cases this
   have h6:=(T.step hg).2.2.2 ((tch0 _).trans h5);have:=T.n hj;rw [h6.2.2.2] at this;omega
  have hstep:=hop2.1.step (fun h=>hlim (lim_wr h)) hev W H hop2.2 hfr;refine hstep K (fun _ _ _=>True) fun v w' R' o' ρ' hX W' H' h1 h2 hv h3=>?_;have hv':XRel w' R' ρ' v (eff E i).v:=by rw [heff];exact hv
  refine fin v w' R' o' ρ' hX W' ?_ h1 (by rw [heff];exact h2) hv' h3;rw [hhU,heff];cases hw:isW false ops i with
  | true=>exact H'
  | false =>
   have hwf:wrM false oi.op=false:=(by simpa [isW,hi] using hw);have:=hnw hwf;rw [heff] at this;rw [QW this.1 this.2] at H';rw [cond_false,QW rfl rfl];exact H'
theorem Q8Q {rd0:List Nat} (hrd:∀ t∈rd0,RoV ((S 0).get t)) (T:Tr P false ops S E) (hN:okN N ops=true) {rs:List Nat} (hD:SD ds (S 0)) {J:Nat} (hK:rs ≠ []→Kp rs J ops (S 0) (S ops.size)) (hreg:Q9R rd0 ds rs J ops=true) (hback:Q2z ops=true) (hm:P.follows .mixedOrders=true) {id:Nat} {Q:Exit→Act→World→Prop} {a:Act} {w:World} (h:Rel C R N a w (S 0))
  (hQ:∀ R' a' w',RX R R' C.w0.heap.size→Rel C R' N a' w' (S ops.size)→Q .normal a' w'):(Code.region id ops true).wpT P Q a w:=by
 have hS0:∀ t id,t ∉ ds→Pts ((S 0).get t) id→¬ Q3H S ds id:=by
  intro t id hn ht hs;generalize hg:(S 0).get t=v0 at ht;rcases hs with hs|⟨s,hs,hc⟩
  case inr=>cases ht with
   | adr=>exact hD.sep t id _ _ hn hg s hs hc
   | own=>exact hD.sepO t id _ _ hn hg s hs hc
  refine absurd hs (Nat.not_le.2 ?_);obtain ⟨_,_,_,o,ρ,_,_,hx,hρ,_⟩:=h;have:=hx t;rw [hg] at this;cases ht with
  | adr =>
   obtain ⟨b,bsz,cap,hb,_⟩:=this.adr_eq;exact hρ id _ hb
  | own =>
   rcases this.own_eq with ⟨s0,c0,hb,_⟩|⟨b,bsz,cap,cc,x0,hb,_⟩
   ·exact hρ id _ hb
   exact hρ id _ hb
 have mv:∀ i j,(roAt rd0 ops i=true∨(Q4G rs ops i=true∧j≤J)∨(Q35 ds ops=true∧(Q5h ds ops i=true∨Q7T ops i=true)))→Mov P ops S E i j:=fun i j hi=>hi.elim (fun h=>mov_ro T hrd h) fun hi=>hi.elim (fun h=>mov_kept T (hK (by rintro rfl;rw [kept_nil] at h;cases h.1)) h.2 h.1) fun h=>h.2.elim (fun q=>mov_soft T hD h.1 hS0 q) fun q=>mov_late T hD h.1 q;refine wp_region_any hm fun wr hrl=>?_;have key:∀ (fuel:Nat) (listed:Array Bool) (R':Nat→Prop) (a:Act) (w':World),RX R R' C.w0.heap.size→listed.size=ops.size→left (fun k=>listed.getD k false) ops.size≤fuel →
   (∀ j,listed.getD j false=true→∀ i,((Q3N ops.toList []).getD j 0).testBit i=true→listed.getD i false=true)→Mid false C R' N ops S E wr.drew (fun k=>listed.getD k false) a w'→wpAny P .any ops Q fuel listed a w':=by
  intro fuel
  induction fuel with
  | zero =>
   intro listed R' a w' hX hsz hleft hanc M;have hall:=Q7X _ (show left (fun k=>listed.getD k false) ops.size=0 by omega);refine ⟨?_,hQ _ _ _ hX (Q62 T M hall)⟩;cases hr:Region.ready .any ops listed with
   | nil=>rfl
   | cons x xs =>
    have hx:x∈Region.ready .any ops listed:=(by rw [hr];simp);obtain ⟨hf,o,ho,_⟩:=mem_ready.1 hx;have hxs:=(Array.getElem?_eq_some_iff.1 ho).1;have h1:listed.getD x false=true:=hall x hxs;have:listed.getD x true=listed.getD x false:=(by simp [show x<listed.size by omega]);rw [this,h1] at hf;cases hf
  | succ fuel ih =>
   intro listed R' a w' hX hsz hleft hanc M;refine ⟨fun hr=>?_,fun i hi w₁ hrl1=>?_⟩
   ·
    have hall:∀ k,k<ops.size→listed.getD k false=true:=by
     intro k
     induction k using Nat.strongRecOn with
     | _ k ihk =>
      intro hk;cases hl:listed.getD k false with
      | true=>rfl
      | false =>
       have:k∈Region.ready .any ops listed:=by
        refine mem_ready.2 ⟨?_,ops[k],qX hk,fun e he hb=>?_⟩
        ·have:listed.getD k true=listed.getD k false:=(by simp [show k<listed.size by omega]);rw [this,hl]
        have h1:=hback;unfold Q2z at h1;simp only [List.all_eq_true] at h1;have h2:=h1 (ops[k],k) (List.mk_mem_zipIdx_iff_getElem?.2 (by simp [hk])) e (by simpa using he);rw [hb] at h2;have hlt:e.on<k:=(by simpa using h2);exact ihk e.on hlt (by omega)
       rw [hr] at this;cases this
    exact hQ _ _ _ hX (Q62 T M hall)
   obtain ⟨hf,oi,hoi,hafter⟩:=mem_ready.1 hi;have hin:=(Array.getElem?_eq_some_iff.1 hoi).1;have hLi:listed.getD i false=false:=by
    have:listed.getD i true=listed.getD i false:=(by simp [show i<listed.size by omega]);rw [← this];exact hf
   have hanci:∀ k,((Q3N ops.toList []).getD i 0).testBit k=true→listed.getD k false=true:=by
    intro k hk;obtain ⟨o',ho',e,he,hb,hx⟩:=Q80 ops.toList [] i k (by simp) hk;have hoo:o'=oi:=by
     simp only [List.length_nil,Nat.sub_zero] at ho';rw [Array.getElem?_toList,hoi] at ho';simpa using ho'.symm
    subst hoo;have h1:=hafter e (by simpa using he) hb;rcases hx with hx|⟨_,hx⟩
    ·rw [← hx];exact h1
    exact hanc _ h1 _ hx
   refine mid_stepS T (Q7k hN) hoi hLi (fun k o hk ho hc=>?_) (fun k o hk ho hLk=>?_) (M.rly hrl1) fun R'' a' w'' hX' M'=>?_
   ·rcases Q65 hreg hk ho hoi with h|⟨h1,h2⟩
    ·exact .inl (hanci k h)
    rw [Q9r,h1,Bool.false_or] at hc;exact .inr ⟨mv k i (h2 hc),h1⟩
   ·rcases Q65 hreg hk hoi ho with h|⟨h1,h2⟩
    ·have:=hanc k hLk i h;rw [hLi] at this;cases this
    exact ⟨h1,fun hc=>mv i k (h2 hc)⟩
   have hset:∀ k,(listed.setIfInBounds i true).getD k false=upL (fun k=>listed.getD k false) i k:=by
    intro k;simp only [upL]
    by_cases hk:k=i
    ·subst hk;simp [show k<listed.size by omega]
    rw [if_neg hk,getD_set_ne false (Ne.symm hk)]
   refine ih _ R'' a' w'' (hX.trans hX' (qD _)) (by simpa using hsz) ?_ ?_ (M'.congrL fun k=>(hset k).symm)
   ·have h1:=left_up (L:=fun k=>listed.getD k false) hLi ops.size;rw [if_pos hin] at h1;have h2:left (fun k=>(listed.setIfInBounds i true).getD k false) ops.size=left (upL (fun k=>listed.getD k false) i) ops.size:=by
     congr 1;funext k;exact hset k
    omega
   intro j hj k hk;rw [hset] at hj ⊢;simp only [upL] at hj ⊢
   by_cases hki:k=i
   ·rw [if_pos hki]
   rw [if_neg hki]
   by_cases hji:j=i
   ·subst hji;exact hanci k hk
   rw [if_neg hji] at hj;exact hanc j hj k hk
 refine key ops.size _ R a _ .refl (by simp) ?_ ?_ ?_
 ·have:∀ m,left (fun k=>(Array.replicate ops.size false).getD k false) m≤m:=by
   intro m
   induction m with
   | zero=>simp [left]
   | succ m ih=>simp only [left];split<;>omega
  exact this _
 ·intro j hj;exfalso
  by_cases hjs:j<ops.size
  ·simp [hjs] at hj
  simp [hjs] at hj
 refine Q63 T (h.rly hrl).drew fun k=>?_
 by_cases hk:k<ops.size
 ·simp [hk]
 simp [hk]
end
end
section
attribute [local simp] Qh QF Qs
def callX (P:Program) (mt:MT) (all:Array Oper) (f:Nat) (az:List AV) (dst:Option Nat) (os:List Oper) (st:St) (K:St→Prop):Prop :=
 callA P mt all f az dst os st K∨∃ keep bs res,PurK keep st.hp az bs∧FContract P keep f bs res∧Q3a P mt all os (st.app dst { v:=res }) K
def callB (P:Program) (mt:MT) (all:Array Oper) (f:Nat) (az:List AV) (dst:Option Nat) (os:List Oper) (st:St) (K:St→Prop):Prop :=
 (∃ bs res,PurL st.hp az bs∧Contract P f bs res∧Q3a P mt all os (st.app dst (unk st.n res)) K)∨∃ keep bs res,PurK keep st.hp az bs∧FContract P keep f bs res∧Q3a P mt all os (st.app dst { v:=res }) K
def Q7w (P:Program) (mt:MT) (all:Array Oper) (az:List AV) (dst:Option Nat) (os:List Oper) (st:St) (K:St→Prop):AV→Prop
 | .fn f caps=>callX P mt all f (az++caps) dst os st K
 | .bnd f rs=>callB P mt all f (rs++az) dst os st K
 | _=>False
def callI (P:Program) (mt:MT) (all:Array Oper) (F:Option Nat) (az:List AV) (dst:Option Nat) (os:List Oper) (st:St) (K:St→Prop):Prop:=False
def Q7x (P:Program) (mt:MT) (all:Array Oper) (name:String) (az:List AV) (dst:Option Nat) (os:List Oper) (st:St) (K:St→Prop):AV→Prop
 | .ifc t cs=>callI P mt all (mth P t name) (.agg cs :: az) dst os st K
 | .ifs t sz es=>callI P mt all (mth P t name) (.lst true sz es :: az) dst os st K
 | _=>False
def mkI (t:TypeId):Bool→Bool→AV→Option (Prop × Eff)
 | true,_,.agg cs=>some (True,{ v:=.ifc t cs })
 | _,true,.lst _ sz es=>some (True,{ v:=.ifs t sz es })
 | _,_,_=>none
def asB (t sz:Nat) (es:List (List AV)):Bool→Option (Prop × Eff)
 | true=>some (True,{ v:=.tup [.ifs t sz es,.val (.bool true)] })
 | false=>none
def asA (P:Program) (s:TypeId):Bool→AV→Option (Prop × Eff)
 | true,.ifs t sz es=>asB t sz es (tas P s t)
 | _,_=>none
def inZ (fz:List Nat):Option Nat→Bool
 | some d=>fz.contains d
 | none=>false
def Q9M (P:Program) (et:Option TypeId) (l c:AV) (n:Nat):Option (Prop × Eff) :=
 match et with
 | some e=>Q5g (some (((elm P e).bind (tyi P)).getD ⟨false,1,8,[]⟩)) (tyi P e) l c n
 | none=>none
noncomputable def opX (P:Program) (fz:List Nat) (dst:Option Nat) (op:Op) (ev:Operand→AV) (h:HP) (n:Nat):Option (Prop × Eff) :=
 match op with
 | .box t x=>bif inZ fz dst then boxr (ev x) else boxv (ev x) n
 | .call ⟨.builtin .append,⟨[s,x]⟩,⟨[t,u]⟩⟩=>match elm P t with
  | some e=>if t=u then (bif inZ fz dst then appM (tyi P e) (ev s) (ev x) h n else Q2v (tyi P e) (ev s) (ev x) h n) else none
  | none=>none
 | .call ⟨.builtin .len,⟨[x]⟩,⟨[t]⟩⟩=>bif inZ fz dst then lenm (mty P t) (Q3O h (ev x)) else match elm P t with
  | some _=>lenv (ev x)
  | none=>none
 | .makeSlice t l c=>bif inZ fz dst then Q9M P (elm P t) (ev l) (ev c) n else match elm P t with
  | some e=>Q5f (tyi P e) (ev l) (ev c) n
  | none=>none
 | .makeFunc (.func f) ⟨[]⟩ caps=>some (True,{ v:=.fn f (caps.toList.map ev) })
 | .makeInterface t x=>mkI t (sty P t) (slt P t) (ev x)
 | .typeAssert x _ s ok=>asA P s ok (ev x)
 | .makeFunc (.func f) ⟨r :: rs⟩ ⟨[]⟩=>some (True,{ v:=.bnd f ((r :: rs).map ev) })
 | .convert s d x=>bif inZ fz dst then convS (byS P s d) h (ev x) else Q75 (intk P s) (intk P d) (ev x)
 | .slice t x none (some y) (some z)=>match elm P t with
  | some e=>Q3B (tyi P e) h (ev x) (ev y) (ev z)
  | none=>none
 | .makeMap t none=>makv (mty P t) n
 | .lookup t x k ok=>Q60 (mty P t) (Q3O h (ev x)) (ev k) ok
 | .mapUpdate t x k y=>updv (mty P t) h (ev x) (ev k) (ev y)
 | op=>opF P op ev h n
theorem Q9V {P:Program} {mt:MT} {fz:List Nat} {dst:Option Nat} {op:Op} {ev:Operand→AV} {h:HP} {n:Nat} {c:Prop} {e:Eff} (hx:opX P fz dst op ev h n=some (c,e)) (hc:c):AOp P mt op ev h n e:=by
 unfold opX at hx;split at hx
 ·rename_i t x;cases hz:inZ fz dst with
  | true=>rw [hz] at hx;exact .boxr rfl hx
  | false=>rw [hz] at hx;exact .blt hx hc
 ·rename_i s x t u;split at hx
  ·rename_i e0 hel;split at hx
   ·rename_i htu;subst htu;cases hz:inZ fz dst with
    | true=>rw [hz] at hx;exact .appM rfl hel hx hc
    | false =>
     rw [hz] at hx;refine .blt (c:=c) ?_ hc;simp only [opF,bltF,hel,if_true];exact hx
   cases hx
  cases hx
 ·rename_i x t;cases hz:inZ fz dst with
  | true=>rw [hz] at hx;exact .mapo hx hc
  | false=>rw [hz] at hx;exact .blt hx hc
 ·rename_i t l cc;cases hz:inZ fz dst with
  | true =>
   rw [hz] at hx;simp only [cond_true] at hx;unfold Q9M at hx;split at hx
   ·rename_i et hel;exact .mkz rfl hel hx hc
   cases hx
  | false=>rw [hz] at hx;exact .blt hx hc
 ·simp only [qA,qC] at hx;obtain ⟨_,rfl⟩:=hx;exact .mkf rfl
 ·rename_i t x;unfold mkI at hx;split at hx
  ·rename_i hs hx2;simp only [qA,qC] at hx;obtain ⟨_,rfl⟩:=hx;exact .mki rfl hs hx2
  ·rename_i hs hx2;simp only [qA,qC] at hx;obtain ⟨_,rfl⟩:=hx;exact .mkis rfl hs hx2
  cases hx
 ·rename_i x xt s ok;unfold asA at hx;split at hx
  ·rename_i t sz es hx2;unfold asB at hx;split at hx
   ·rename_i hs;simp only [qA,qC] at hx;obtain ⟨_,rfl⟩:=hx;exact .tas rfl hs hx2
   cases hx
  cases hx
 ·simp only [qA,qC] at hx;obtain ⟨_,rfl⟩:=hx;exact .mkb rfl
 ·rename_i s d x;cases hz:inZ fz dst with
  | true =>
   rw [hz] at hx;obtain ⟨e2,id,ns,h1,h2,h3,rfl⟩:=convS_eq hx hc;exact .cvs rfl h1 h2 h3
  | false=>rw [hz] at hx;exact .blt hx hc
 ·split at hx
  ·rename_i et hel;exact .sl3 rfl hel hx hc
  cases hx
 ·exact .mapo hx hc
 ·exact .mapo hx hc
 ·exact .mapo hx hc
 exact .blt hx hc
def semA (P:Program) (mt:MT) (all:Array Oper) (op:Op) (dst:Option Nat) (os:List Oper) (st:St) (K:St→Prop):Prop :=
 (mt.on && wrM mt op)=true∧∃ e,SemOp P op st.ev st.hp st.n e∧Q3a P mt all os (st.app dst e) K
def stoZ (P:Program) (mt:MT) (all:Array Oper) (op:Op) (t:TypeId) (av xv:AV) (dst:Option Nat) (os:List Oper) (st:St) (K:St→Prop):Prop:=stoA P mt all t av xv dst os st K∨semA P mt all op dst os st K
def Q5u (P:Program) (mt:MT) (fz:List Nat) (all:Array Oper) (os:List Oper) (K R:St→Prop) (dst:Option Nat) (st:St) (op:Op):Prop :=
 match op with
 | .call ⟨.value x,args,_⟩=>Q7w P mt all (args.toList.map st.ev) dst os st K (st.ev x)
 | .call ⟨.invoke x name,args,_⟩=>Q7x P mt all name (args.toList.map st.ev) dst os st K (st.ev x)
 | .store t a x=>Q55 R (stoZ P mt all (.store t a x) t (st.ev a) (st.ev x) dst os st K) dst st (Q3i (tyi P t) (st.ev a) (st.ev x) st.hp)
 | .call ⟨.builtin .append,args,ts⟩=>Q55 R (semA P mt all (.call ⟨.builtin .append,args,ts⟩) dst os st K) dst st (opX P fz dst (.call ⟨.builtin .append,args,ts⟩) st.ev st.hp st.n)
 | .lookup t x k ok=>Q55 R (semA P mt all (.lookup t x k ok) dst os st K) dst st (Q60 (mty P t) (Q3O st.hp (st.ev x)) (st.ev k) ok)
 | .mapUpdate t x k y=>Q55 R (semA P mt all (.mapUpdate t x k y) dst os st K) dst st (updv (mty P t) st.hp (st.ev x) (st.ev k) (st.ev y))
 | .call ⟨.builtin .clear,args,ts⟩=>semA P mt all (.call ⟨.builtin .clear,args,ts⟩) dst os st K
 | op=>Q6u R dst st (opX P fz dst op st.ev st.hp st.n)
def Q8G (P:Program) (mt:MT) (fz:List Nat) (all:Array Oper) (os:List Oper) (K R:St→Prop) (dst:Option Nat) (st:St) (op:Op) (t:Nat) (want:Bool):AV→Prop
 | .val (.bool b)=>(b=want→Q5u P mt fz all os K R dst (st.put t (.val (.bool want))) op)∧(b = !want→R ((st.put t (.val (.bool !want))).app dst { v:=.tup [] }))
 | .tup []=>R (st.app dst { v:=.tup [] })
 | _=>False
def Q9G (P:Program) (mt:MT) (fz:List Nat) (all:Array Oper) (os:List Oper) (K R:St→Prop) (dst:Option Nat) (st:St) (op:Op) (want:Bool):Option Nat→Prop
 | some t=>Q8G P mt fz all os K R dst st op t want (st.get t)
 | none=>False
def runX (P:Program) (mt:MT) (fz:List Nat) (all:Array Oper):List Oper→St→(St→Prop)→Prop
 | [],st,K=>K st
 | o :: os,st,K=>match o.guard with
  | none=>Q5u P mt fz all os K (fun st'=>runX P mt fz all os st' K) o.dst st o.op
  | some (j,want)=>Q9G P mt fz all os K (fun st'=>runX P mt fz all os st' K) o.dst st o.op want ((all[j]?).bind (·.dst))
theorem goX_one {P:Program} {mt:MT} {fz:List Nat} {all:Array Oper} {o:Oper} {os:List Oper} {st:St} {K R:St→Prop} (hw:Q2u all o st=some true)
  (ih:∀ st',R st'→Q3a P mt all os st' K) (h:Q5u P mt fz all os K R o.dst st o.op):Q3a P mt all (o :: os) st K:=by
 refine .inl ⟨hw,?_⟩;unfold Q5u at h;split at h
 ·rename_i x args ts ho;unfold Q7w at h;split at h
  ·rename_i f caps hx;rcases h with (⟨bs,res,h1,h2,h3⟩|⟨h0,args,ms,res,m,Pt,sets,dels,h1,h2,h3,h4,h5,h6⟩|⟨h0,e,h1,h2⟩)|⟨keep,bs,res,h1,h2,h3⟩
   ·exact ⟨_,.call ho rfl hx h1 h2,h3⟩
   ·exact ⟨_,.mcall (Q5K h0 ho hx) ho rfl hx h1 h2 h3 h4 h5,h6⟩
   ·exact ⟨_,.icall (Q5K h0 ho hx) ho rfl hx h1,h2⟩
   exact ⟨_,.fcall ho rfl hx h1 h2,h3⟩
  ·rename_i f rs hx;rcases h with ⟨bs,res,h1,h2,h3⟩|⟨keep,bs,res,h1,h2,h3⟩
   ·exact ⟨_,.callb ho rfl hx h1 h2,h3⟩
   exact ⟨_,.fcallb ho rfl hx h1 h2,h3⟩
  exact h.elim
 ·rename_i x name args ts ho;unfold Q7x at h;split at h
  ·rename_i t cs hx;exact h.elim
  ·rename_i t sz es hx;exact h.elim
  exact h.elim
 ·rename_i t a x ho;unfold Q55 at h;split at h
  ·rename_i c e he;exact ⟨e,.blt (by rw [ho];exact he) h.1,ih _ h.2⟩
  rcases h with (⟨ty,id,i,k,b,sz,es,ds,dels,h1,h2,h3,h4,h5⟩|⟨ty,id,i,az,bs,sz,es,ds,dels,h1,h2,h3,h3',h4,h5⟩)|⟨h0,e,h1,h2⟩
  ·exact ⟨_,.sto ho h1 h2 h3 h4,h5⟩
  ·exact ⟨_,.stg ho h1 h2 h3 h3' h4,h5⟩
  exact ⟨e,.sem (by rw [ho];exact h0) (by rw [ho];exact h1),h2⟩
 ·rename_i args ts ho;unfold Q55 at h;split at h
  ·rename_i c e he;exact ⟨e,Q9V (fz:=fz) (dst:=o.dst) (by rw [ho];exact he) h.1,ih _ h.2⟩
  obtain ⟨h0,e,h1,h2⟩:=h;exact ⟨e,.sem (by rw [ho];exact h0) (by rw [ho];exact h1),h2⟩
 ·rename_i t x k ok ho;unfold Q55 at h;split at h
  ·rename_i c e he;exact ⟨e,Q9V (fz:=fz) (dst:=o.dst) (by rw [ho];exact he) h.1,ih _ h.2⟩
  obtain ⟨h0,e,h1,h2⟩:=h;exact ⟨e,.sem (by rw [ho];exact h0) (by rw [ho];exact h1),h2⟩
 ·rename_i t x k y ho;unfold Q55 at h;split at h
  ·rename_i c e he;exact ⟨e,Q9V (fz:=fz) (dst:=o.dst) (by rw [ho];exact he) h.1,ih _ h.2⟩
  obtain ⟨h0,e,h1,h2⟩:=h;exact ⟨e,.sem (by rw [ho];exact h0) (by rw [ho];exact h1),h2⟩
 ·rename_i args ts ho;obtain ⟨h0,e,h1,h2⟩:=h;exact ⟨e,.sem (by rw [ho];exact h0) (by rw [ho];exact h1),h2⟩
 unfold Q6u at h;split at h
 ·rename_i c e he;exact ⟨e,Q9V he h.1,ih _ h.2⟩
 exact h.elim
theorem Q2J {P:Program} {mt:MT} {fz:List Nat} {all:Array Oper}:∀ (os:List Oper) (st:St) (K:St→Prop),runX P mt fz all os st K→Q3a P mt all os st K:=by
 intro os
 induction os with
 | nil=>intro st K h;exact h
 | cons o os ih =>
  intro st K h;unfold runX at h;split at h
  ·rename_i hg;exact goX_one (by simp [Q2u,hg]) (fun st'=>ih st' K) h
  rename_i j want hg;unfold Q9G at h;split at h
  ·rename_i t ht;unfold Q8G at h;split at h
   ·rename_i b hb;have hput:∀ b',b=b'→st.put t (.val (.bool b'))=st:=(by rintro _ rfl;exact St.put_get hb (by simp));obtain ⟨h1,h2⟩:=h
    by_cases hbw:b=want
    ·have h1:=h1 hbw;rw [hput _ hbw] at h1;exact goX_one (by simp only [Q2u,hg,ht,hb,hbw,beq_self_eq_true]) (fun st'=>ih st' K) h1
    have hb':b = !want:=(by cases b<;>cases want<;>simp_all);have h2:=h2 hb';rw [hput _ hb'] at h2;refine .inr ⟨?_,ih _ _ h2⟩;have:(b == want)=false:=(by simpa using hbw);simp only [Q2u,hg,ht,hb,this]
   ·rename_i htt;refine .inr ⟨?_,ih _ _ h⟩;simp only [Q2u,hg,ht,htt]
   exact h.elim
  exact h.elim
section
variable {P:Program} {mt:MT} {fz:List Nat} {all:Array Oper} {f:Nat} {az bs:List AV} {res:AV} {dst:Option Nat} {os:List Oper} {st:St} {K:St→Prop}
theorem QU (hc:Contract P f bs res) (hp:PurL st.hp az bs) (h:runX P mt fz all os (st.app dst (unk st.n res)) K):callX P mt all f az dst os st K:=.inl (.inl ⟨bs,res,hp,hc,Q2J _ _ _ h⟩)
theorem Q5P (keep:Bool) (hc:FContract P keep f bs res) (hp:PurK keep st.hp az bs) (h:runX P mt fz all os (st.app dst { v:=res }) K):callX P mt all f az dst os st K:=.inr ⟨keep,bs,res,hp,hc,Q2J _ _ _ h⟩
theorem Q4w {e:Eff} (hc:ICon P f az st.hp st.n e) (h:runX P mt fz all os (st.app dst e) K) (hm:mt.may f=true:=by rfl):callX P mt all f az dst os st K:=.inl (.inr (.inr ⟨hm,e,hc,Q2J _ _ _ h⟩))
theorem QaS {op:Op} {t:TypeId} {ty:Tyi} {xv b:AV} {id i k sz:Nat} {es:List (List AV)} {ds:List Nat} (dels:List Nat) (h1:tyi P t=some ty) (h2:ty.sz=1)
  (h3:Sto st.hp st.n id i k xv b sz es ds dels) (h:runX P mt fz all os (st.app dst { v:=.bot,set:=[(id,.row sz (es.set i ((es.getD i []).set k b)))],del:=ds++dels }) K):stoZ P mt all op t (.adr id i k) xv dst os st K :=
 .inl <| .inl ⟨ty,id,i,k,b,sz,es,ds,dels,h1,h2,rfl,h3,Q2J _ _ _ h⟩
theorem Q94 {op:Op} {t:TypeId} {ty:Tyi} {az bs:List AV} {id i sz:Nat} {es:List (List AV)} {ds:List Nat} (dels:List Nat) (h1:tyi P t=some ty) (h2:ty.sz=sz)
  (h3:StoG st.hp st.n id i az bs sz es ds dels) (h:runX P mt fz all os (st.app dst { v:=.bot,set:=[(id,.row sz (es.set i bs))],del:=ds++dels }) K):stoZ P mt all op t (.adr id i 0) (.agg az) dst os st K :=
 .inl <| .inr ⟨ty,id,i,az,bs,sz,es,ds,dels,h1,h2,rfl,rfl,h3,Q2J _ _ _ h⟩
theorem PurK.ofL {h:HP} (hp:PurL h az bs):PurK false h az bs:=hp
theorem PurK.ofN {h:HP} (hp:PurL (fun _=>none) az bs):PurK true h az bs:=hp
end
theorem Qn {P:Program} {F:Fx} {AQ:Exit→St→Prop} {st:St} {id:Nat} {ops:Array Oper} {d:Bool} (fz:List Nat) (hm:P.follows .mixedOrders=true) (hok:(okN F.N ops && (!d || (Q53 false ops && Q2z ops)))=true)
  (h:∀ K:St→Prop,(∀ st',AQ .normal st'→K st')→runX P false fz ops ops.toList st K):Wp P F (.region id ops d) AQ st :=
 Q5J hm hok fun K hK=>Q2J _ _ _ (h K hK)
theorem Q9c {P:Program} {F:Fx} {AQ:Exit→St→Prop} {st:St} {id:Nat} {ops:Array Oper} {d:Bool} (fz:List Nat) (hm:P.follows .mixedOrders=true) (hok:(okN F.N ops && (!d || (Q53 true ops && Q2z ops)))=true)
  (h:∀ K:St→Prop,(∀ st',AQ .normal st'→K st')→runX P true fz ops ops.toList st K):Wp P F (.region id ops d) AQ st :=
 Q5J hm hok fun K hK=>Q2J _ _ _ (h K hK)
theorem w_runXR {P:Program} {F:Fx} {AQ:Exit→St→Prop} {st:St} {id:Nat} {ops:Array Oper} {d:Bool} (lk:Bool) (fz ro:List Nat) (hm:P.follows .mixedOrders=true) (hok:(okN F.N ops && (!d || (Q53 ⟨true,ro,lk,[],false⟩ ops && Q2z ops)))=true)
  (h:∀ K:St→Prop,(∀ st',AQ .normal st'→K st')→runX P ⟨true,ro,lk,[],false⟩ fz ops ops.toList st K):Wp P F (.region id ops d) AQ st :=
 Q5J hm hok fun K hK=>Q2J _ _ _ (h K hK)
theorem w_runXQ {P:Program} {F:Fx} {AQ:Exit→St→Prop} {st:St} {id:Nat} {ops:Array Oper} {d:Bool} (lk:Bool) (fz ro rd0 rd:List Nat) (hrd:∀ t∈rd0,RoV (st.get t)) (hm:P.follows .mixedOrders=true) (hok:(okN F.N ops && (!d || (Q53 ⟨true,ro,lk,rd,false⟩ ops && Q2z ops)) && rdChk rd0 rd ops)=true)
  (h:∀ K:St→Prop,(∀ st',AQ .normal st'→K st')→runX P ⟨true,ro,lk,rd,false⟩ fz ops ops.toList st K):Wp P F (.region id ops d) AQ st :=
 Q8l rd0 hrd (Bool.and_eq_true _ _ ▸ hok:_∧_).2 hm (Bool.and_eq_true _ _ ▸ hok:_∧_).1 fun K hK=>Q2J _ _ _ (h K hK)
theorem w_runXS {P:Program} {F:Fx} {AQ:Exit→St→Prop} {st:St} {id:Nat} {ops:Array Oper} (fz:List Nat) (hm:P.follows .mixedOrders=true) (hok:(okN F.N ops && (Q9R [] [] [] 0 ops && Q2z ops))=true)
  (h:∀ K:St→Prop,(∀ st',AQ .normal st'→K st')→runX P false fz ops ops.toList st K):Wp P F (.region id ops true) AQ st:=by
 intro a w hr;obtain ⟨R',hX,hr⟩:=hr;obtain ⟨S,E,h0,hend,htr⟩:=Q5W ops _ _ _ (Q2J _ _ _ (h (AQ .normal) fun _ h=>h));subst h0;have T:Tr P false ops S E:=⟨hr.ok,(fun _ _ _ h=>by have:=(rdL_nil _).symm.trans h;cases this),fun k o ho=>htr k o (by simpa using ho)⟩;simp only [Bool.and_eq_true] at hok;have hend':AQ .normal (S ops.size):=by simpa using hend
 exact Q8Q (rd0:=[]) (by simp) (ds:=[]) (rs:=[]) (J:=0) T hok.1 (sd_nil _) (fun h=>absurd rfl h) hok.2.1 hok.2.2 hm hr fun R'' a' w' hX' h'=>⟨_,⟨R'',hX.trans hX' (qD _),h'⟩,hend'⟩
def rE (P:Program) (mt:MT) (fz:List Nat) (all:Array Oper) (os:List Oper) (dst:Option Nat) (st:St) (K:St→Prop) (x:Option (Prop × Eff)):Prop:=Q6u (fun st'=>runX P mt fz all os st' K) dst st x
def rS (P:Program) (mt:MT) (fz:List Nat) (all:Array Oper) (os:List Oper) (dst:Option Nat) (st:St) (K:St→Prop) (op:Op) (t:TypeId) (av xv:AV) (x:Option (Prop × Eff)):Prop:=Q55 (fun st'=>runX P mt fz all os st' K) (stoZ P mt all op t av xv dst os st K) dst st x
def rL (P:Program) (mt:MT) (fz:List Nat) (all:Array Oper) (os:List Oper) (dst:Option Nat) (st:St) (K:St→Prop) (op:Op) (x:Option (Prop × Eff)):Prop:=Q55 (fun st'=>runX P mt fz all os st' K) (semA P mt all op dst os st K) dst st x
def rO (P:Program) (mt:MT) (fz:List Nat) (all:Array Oper) (os:List Oper) (dst:Option Nat) (st:St) (K:St→Prop) (op:Op):Prop:=Q5u P mt fz all os K (fun st'=>runX P mt fz all os st' K) dst st op
def gE (P:Program) (mt:MT) (fz:List Nat) (all:Array Oper) (os:List Oper) (dst:Option Nat) (st:St) (K:St→Prop) (op:Op) (t:Nat) (want:Bool) (x:AV):Prop:=Q8G P mt fz all os K (fun st'=>runX P mt fz all os st' K) dst st op t want x
section
variable {P:Program} {mt:MT} {fz:List Nat} {all:Array Oper} {os:List Oper} {dst:Option Nat} {st:St} {K:St→Prop} {op:Op} {ty:TypeId} {pos:String} {af:Array Edge}
@[simp] theorem rE_some {c:Prop} {e:Eff}:rE P mt fz all os dst st K (some (c,e))=(c∧runX P mt fz all os (st.app dst e) K):=rfl
@[simp] theorem callIX_ifc {name:String} {t:Nat} {cs az:List AV}:Q7x P mt all name az dst os st K (.ifc t cs)=callI P mt all (mth P t name) (.agg cs :: az) dst os st K:=rfl
@[simp] theorem callIX_ifs {name:String} {t sz:Nat} {es:List (List AV)} {az:List AV}:Q7x P mt all name az dst os st K (.ifs t sz es)=callI P mt all (mth P t name) (.lst true sz es :: az) dst os st K:=rfl
@[simp] theorem mkI_agg {t:TypeId} {b:Bool} {cs:List AV}:mkI t true b (.agg cs)=some (True,{ v:=.ifc t cs }):=rfl
@[simp] theorem asA_ifs {s t sz:Nat} {es:List (List AV)}:asA P s true (.ifs t sz es)=asB t sz es (tas P s t):=rfl
@[simp] theorem asB_true {t sz:Nat} {es:List (List AV)}:asB t sz es true=some (True,{ v:=.tup [.ifs t sz es,.val (.bool true)] }):=rfl
@[simp] theorem callEX_bnd {f:Nat} {rs az:List AV}:Q7w P mt all az dst os st K (.bnd f rs)=callB P mt all f (rs++az) dst os st K:=rfl
@[simp] theorem callEX_fn {f:Nat} {caps az:List AV}:Q7w P mt all az dst os st K (.fn f caps)=callX P mt all f (az++caps) dst os st K:=rfl
@[simp] theorem rO_call {x:Operand} {args:Array Operand} {ts:Array TypeId}:rO P mt fz all os dst st K (.call ⟨.value x,args,ts⟩)=Q7w P mt all (args.toList.map st.ev) dst os st K (st.ev x):=rfl
@[simp] theorem rO_move {x}:rO P mt fz all os dst st K (.move x)=runX P mt fz all os (st.app dst { v:=st.ev x }) K:=by simp [rO,Q5u,Q6u,opX,opF]
@[simp] theorem rO_assign {x}:rO P mt fz all os dst st K (.assign x)=runX P mt fz all os (st.app dst { v:=st.ev x }) K:=by simp [rO,Q5u,Q6u,opX,opF]
@[simp] theorem rO_pick {c a b}:rO P mt fz all os dst st K (.pick c a b)=rE P mt fz all os dst st K (pick (st.ev c) (st.ev a) (st.ev b)):=rfl
@[simp] theorem rO_alloc {e}:rO P mt fz all os dst st K (.alloc e)=rE P mt fz all os dst st K (Vc.alloc (tyi P e) st.n):=rfl
@[simp] theorem rO_box {t x}:rO P mt fz all os dst st K (.box t x)=rE P mt fz all os dst st K (bif inZ fz dst then boxr (st.ev x) else boxv (st.ev x) st.n):=rfl
@[simp] theorem rO_build {t parts}:rO P mt fz all os dst st K (.build t parts)=rE P mt fz all os dst st K (build (tyi P t) (Q3V P t) (parts.toList.map fun p=>(p.1,st.ev p.2))):=rfl
@[simp] theorem rO_buildSlice {t len parts}:rO P mt fz all os dst st K (.buildSlice t len parts)=rE P mt fz all os dst st K (elmE (fun e=>buildSlice (tyi P e) len (parts.toList.map fun p=>(p.1,st.ev p.2)) st.n) (elm P t)):=by
 simp only [rO,rE,Q5u,opX,opF];cases elm P t<;>rfl
@[simp] theorem rO_load {t a}:rO P mt fz all os dst st K (.load t a)=rE P mt fz all os dst st K (Q2M (tyi P t) (st.ev a) st.hp st.n):=rfl
@[simp] theorem rO_store {t a x}:rO P mt fz all os dst st K (.store t a x)=rS P mt fz all os dst st K (.store t a x) t (st.ev a) (st.ev x) (Q3i (tyi P t) (st.ev a) (st.ev x) st.hp):=rfl
@[simp] theorem rS_some {op:Op} {t:TypeId} {av xv:AV} {c:Prop} {e:Eff}:rS P mt fz all os dst st K op t av xv (some (c,e))=(c∧runX P mt fz all os (st.app dst e) K):=rfl
@[simp] theorem rS_none {op:Op} {t:TypeId} {av xv:AV}:rS P mt fz all os dst st K op t av xv none=stoZ P mt all op t av xv dst os st K:=rfl
@[simp] theorem rO_nilCheck {x}:rO P mt fz all os dst st K (.nilCheck x)=rE P mt fz all os dst st K (nilCheck (st.ev x)):=rfl
@[simp] theorem rO_binOp {o xt x y yt}:rO P mt fz all os dst st K (.binOp o xt x y yt)=rE P mt fz all os dst st K (Q5N (eqT P xt) o (st.ev x) (st.ev y)):=rfl
@[simp] theorem rO_unOp {o t x}:rO P mt fz all os dst st K (.unOp o t x)=rE P mt fz all os dst st K (unop o (st.ev x)):=rfl
@[simp] theorem rO_convert {s d x}:rO P mt fz all os dst st K (.convert s d x)=rE P mt fz all os dst st K (bif inZ fz dst then convS (byS P s d) st.hp (st.ev x) else Q75 (intk P s) (intk P d) (st.ev x)):=rfl
@[simp] theorem rO_makeSlice {t l c}:rO P mt fz all os dst st K (.makeSlice t l c)=rE P mt fz all os dst st K (bif inZ fz dst then Q9M P (elm P t) (st.ev l) (st.ev c) st.n else elmE (fun e=>Q5f (tyi P e) (st.ev l) (st.ev c) st.n) (elm P t)):=by
 simp only [rO,rE,Q5u,opX,opF];cases elm P t<;>rfl
@[simp] theorem makeSX_some {e:TypeId} {l c:AV} {n:Nat}:Q9M P (some e) l c n=Q5g (some (((elm P e).bind (tyi P)).getD ⟨false,1,8,[]⟩)) (tyi P e) l c n:=rfl
attribute [simp] Q5g zc
@[simp] theorem rO_fieldAddr {t x k}:rO P mt fz all os dst st K (.fieldAddr t x k)=rE P mt fz all os dst st K (fieldAddr (fld P t k) (st.ev x)):=rfl
@[simp] theorem rO_field {t x k}:rO P mt fz all os dst st K (.field t x k)=rE P mt fz all os dst st K (Q5S (fld P t k) (st.ev x)):=rfl
@[simp] theorem rO_indexAddr {t x i}:rO P mt fz all os dst st K (.indexAddr t x i)=rE P mt fz all os dst st K (elmE (fun e=>Q16 (tyi P e) (st.ev x) (st.ev i) st.hp) (elm P t)):=by
 simp only [rO,rE,Q5u,opX,opF];cases elm P t<;>rfl
@[simp] theorem rO_extract {x k}:rO P mt fz all os dst st K (.extract x k)=rE P mt fz all os dst st K (Q3o (st.ev x) k):=rfl
@[simp] theorem rO_len {x t}:rO P mt fz all os dst st K (.call ⟨.builtin .len,#[x],#[t]⟩)=rE P mt fz all os dst st K (bif inZ fz dst then lenm (mty P t) (Q3O st.hp (st.ev x)) else elmE (fun _=>lenv (st.ev x)) (elm P t)):=by
 simp only [rO,rE,Q5u,opX];cases inZ fz dst<;>cases elm P t<;>rfl
@[simp] theorem rO_append {x y t u}:rO P mt fz all os dst st K (.call ⟨.builtin .append,#[x,y],#[t,u]⟩)=rL P mt fz all os dst st K (.call ⟨.builtin .append,#[x,y],#[t,u]⟩) (elmE (fun e=>if t=u then (bif inZ fz dst then appM (tyi P e) (st.ev x) (st.ev y) st.hp st.n else Q2v (tyi P e) (st.ev x) (st.ev y) st.hp st.n) else none) (elm P t)):=by
 simp only [rO,rL,Q5u,opX];cases elm P t<;>rfl
@[simp] theorem rO_min {xs ts}:rO P mt fz all os dst st K (.call ⟨.builtin .min,xs,ts⟩)=rE P mt fz all os dst st K (Q4l (fun a b=>if b<a then b else a) (xs.toList.map st.ev)):=rfl
@[simp] theorem rO_max {xs ts}:rO P mt fz all os dst st K (.call ⟨.builtin .max,xs,ts⟩)=rE P mt fz all os dst st K (Q4l (fun a b=>if b > a then b else a) (xs.toList.map st.ev)):=rfl
@[simp] theorem QaY {t x}:rO P mt fz all os dst st K (.makeInterface t x)=rE P mt fz all os dst st K (mkI t (sty P t) (slt P t) (st.ev x)):=rfl
@[simp] theorem rO_typeAssert {x xt s ok}:rO P mt fz all os dst st K (.typeAssert x xt s ok)=rE P mt fz all os dst st K (asA P s ok (st.ev x)):=rfl
@[simp] theorem rO_invoke {x:Operand} {name:String} {args:Array Operand} {ts:Array TypeId}:rO P mt fz all os dst st K (.call ⟨.invoke x name,args,ts⟩)=Q7x P mt all name (args.toList.map st.ev) dst os st K (st.ev x):=rfl
@[simp] theorem rO_makeFuncB {f r}:rO P mt fz all os dst st K (.makeFunc (.func f) #[r] #[])=rE P mt fz all os dst st K (some (True,{ v:=.bnd f [st.ev r] })):=rfl
@[simp] theorem rO_makeFunc {f caps}:rO P mt fz all os dst st K (.makeFunc (.func f) #[] caps)=rE P mt fz all os dst st K (some (True,{ v:=.fn f (caps.toList.map st.ev) })):=rfl
@[simp] theorem rO_makeMap {t}:rO P mt fz all os dst st K (.makeMap t none)=rE P mt fz all os dst st K (makv (mty P t) st.n):=rfl
@[simp] theorem rL_some {op:Op} {c:Prop} {e:Eff}:rL P mt fz all os dst st K op (some (c,e))=(c∧runX P mt fz all os (st.app dst e) K):=rfl
@[simp] theorem rL_none {op:Op}:rL P mt fz all os dst st K op none=semA P mt all op dst os st K:=rfl
theorem Q6S {op:Op} {e:Eff} (hs:SemOp P op st.ev st.hp st.n e) (h:runX P mt fz all os (st.app dst e) K) (hm:(mt.on && wrM mt op)=true:=by rfl):semA P mt all op dst os st K:=⟨hm,e,hs,Q2J _ _ _ h⟩
@[simp] theorem rO_clear {args:Array Operand} {ts:Array TypeId}:rO P mt fz all os dst st K (.call ⟨.builtin .clear,args,ts⟩)=semA P mt all (.call ⟨.builtin .clear,args,ts⟩) dst os st K:=rfl
@[simp] theorem MK.plain_ext {x:XP}:(MK.ext x).plain=false:=rfl
@[simp] theorem rO_lookup {t x k ok}:rO P mt fz all os dst st K (.lookup t x k ok)=rL P mt fz all os dst st K (.lookup t x k ok) (Q60 (mty P t) (Q3O st.hp (st.ev x)) (st.ev k) ok):=rfl
@[simp] theorem rO_mapUpdate {t x k y}:rO P mt fz all os dst st K (.mapUpdate t x k y)=rL P mt fz all os dst st K (.mapUpdate t x k y) (updv (mty P t) st.hp (st.ev x) (st.ev k) (st.ev y)):=rfl
@[simp] theorem runX_nil:runX P mt fz all [] st K=K st:=rfl
@[simp] theorem runX_go:runX P mt fz all (⟨dst,op,ty,pos,af,none⟩ :: os) st K=rO P mt fz all os dst st K op:=rfl
@[simp high] theorem gE_tup {t:Nat} {want:Bool}:gE P mt fz all os dst st K op t want (.tup [])=runX P mt fz all os (st.app dst { v:=.tup [] }) K:=rfl
end
section
variable {h:HP} {n:Nat} {sz off m id:Nat} {es:List (List AV)} {kd:MK} {me:List (Value × Value)} {z:Value} {t:Tyi}
def srcME (sz off m:Nat):Option Ent→Option (Prop × List (List AV))
 | some (.mix sz' es)=>if sz'=sz then some (off+m≤es.length,(es.drop off).take m) else none
 | _=>none
def baseME (sz id m:Nat):Option Ent→Option (Prop × List (List AV) × List Nat)
 | some (.mix sz' es)=>if sz'=sz then some (m=es.length,es,[id]) else none
 | _=>none
def mcontE:Option Ent→Option (MK × List (Value × Value))
 | some (.mapE kd es)=>if kd.plain=true then some (kd,es) else none
 | _=>none
noncomputable def updE (kd:MK) (id:Nat) (kv v:Value):Option Ent→Option (Prop × Eff)
 | some (.mapE kd' es)=>if kd'=kd∧kd.is kv=true then some (es.length<1099511627776,{ v:=.bot,set:=[(id,.mapE kd (mset kv v es))] }) else none
 | _=>none
theorem srcM_nil:srcM h sz (.val (.slice none 0 0))=some (True,[]):=rfl
theorem srcM_lst {u:Bool} {sz':Nat}:srcM h sz (.lst u sz' es)=if sz'=sz then some (True,es) else none:=rfl
theorem srcM_E:srcM h sz (.own id off m)=srcME sz off m (h id):=rfl
@[simp] theorem srcME_mix {sz':Nat}:srcME sz off m (some (.mix sz' es))=if sz'=sz then some (off+m≤es.length,(es.drop off).take m) else none:=rfl
theorem baseM_nil:Q6s h sz (.val (.slice none 0 0))=some (True,[],[]):=rfl
theorem baseM_E:Q6s h sz (.own id 0 m)=baseME sz id m (h id):=rfl
@[simp] theorem baseME_mix {sz':Nat}:baseME sz id m (some (.mix sz' es))=if sz'=sz then some (m=es.length,es,[id]) else none:=rfl
def appME (t:Tyi) (n:Nat):Option (Prop × List (List AV) × List Nat)→Option (Prop × List (List AV))→Option (Prop × Eff)
 | some (c1,es,i),some (c2,news)=>some ((0<news.length∨i ≠ [])∧n ∉ i∧c1∧c2∧(es.length+news.length) * t.bytes≤140737488355328∧es.length+news.length≤140737488355328∧0<t.sz,
    { v:=.own n 0 (es.length+news.length),del:=i,new:=[(n,.mix t.sz (es++news))],cnt:=1 })
 | _,_=>none
theorem appM_E {s x:AV}:appM (some t) s x h n=appME t n (Q6s h t.sz s) (srcM h t.sz x):=by
 simp only [appM,appME];cases Q6s h t.sz s with
 | none=>rfl
 | some p=>cases srcM h t.sz x<;>rfl
@[simp] theorem appME_some {c1 c2:Prop} {i:List Nat} {news:List (List AV)}:appME t n (some (c1,es,i)) (some (c2,news))=some ((0<news.length∨i ≠ [])∧n ∉ i∧c1∧c2∧(es.length+news.length) * t.bytes≤140737488355328∧es.length+news.length≤140737488355328∧0<t.sz,
    { v:=.own n 0 (es.length+news.length),del:=i,new:=[(n,.mix t.sz (es++news))],cnt:=1 }):=rfl
theorem mcont_mp:Q3O h (.mp id)=mcontE (h id):=rfl
theorem Qau:Q3O h (.cmap kd me)=some (kd,me):=rfl
@[simp] theorem mcontE_map:mcontE (some (.mapE kd me))=if kd.plain=true then some (kd,me) else none:=rfl
theorem Qar {kd':MK} {kv:Value} {ok:Bool}:Q60 (some (kd,z)) (some (kd',me)) (.val kv) ok=if kd'=kd∧kd.is kv=true then
   some (True,{ v:=bif ok then .tup [.val ((Q1J kv me).getD z),.val (.bool (Q1J kv me).isSome)] else .val ((Q1J kv me).getD z) }) else none:=rfl
theorem lookv_agg {kd':MK} {az:List AV} {ok:Bool}:Q60 (some (kd,z)) (some (kd',me)) (.agg az) ok=(Qf az).elim none fun l=>if kd'=kd∧kd.is (.agg (l.map (Value.int .i64)).toArray)=true then
   some (True,{ v:=bif ok then .tup [.val ((Q1J (.agg (l.map (Value.int .i64)).toArray) me).getD z),.val (.bool (Q1J (.agg (l.map (Value.int .i64)).toArray) me).isSome)] else .val ((Q1J (.agg (l.map (Value.int .i64)).toArray) me).getD z) }) else none:=by
 simp only [Q60,keyV];cases Qf az<;>rfl
theorem updv_agg {az:List AV} {v:Value}:updv (some (kd,z)) h (.mp id) (.agg az) (.val v)=(Qf az).elim none fun l=>updE kd id (.agg (l.map (Value.int .i64)).toArray) v (h id):=by
 simp only [updv,keyV];cases Qf az<;>rfl
theorem updv_mp {kv v:Value}:updv (some (kd,z)) h (.mp id) (.val kv) (.val v)=updE kd id kv v (h id):=rfl
@[simp] theorem updE_map {kd':MK} {kv v:Value}:updE kd id kv v (some (.mapE kd' me))=if kd'=kd∧kd.is kv=true then some (me.length<1099511627776,{ v:=.bot,set:=[(id,.mapE kd (mset kv v me))] }) else none:=rfl
theorem makv_some:makv (some (kd,z)) n=some (True,{ v:=.mp n,new:=[(n,.mapE kd [])],cnt:=1 }):=rfl
theorem lenm_some {p:MK × Value} {kd':MK}:lenm (some p) (some (kd',me))=some (True,{ v:=.val (.int .i64 me.length) }):=rfl
end
theorem boxr_if {x:AV}:boxr x=if x.cells.all AV.ro && x.shr then some (True,{ v:=.rptr x.cells }) else none:=rfl
attribute [simp] srcM_nil srcM_lst srcM_E baseM_nil baseM_E appM_E mcont_mp Qau Qar updv_mp lookv_agg updv_agg makv_some lenm_some boxr_if inZ AV.ro AV.ro1 AV.shr MK.is
attribute [simp] rl
def Em {α β:Type} (ek:α→Value) (ev:β→Value) (xs:List (α × β)):List (Value × Value):=xs.map fun p=>(ek p.1,ev p.2)
def QV {α β:Type} [DecidableEq α] (k:α):List (α × β)→Option β
 | []=>none
 | (a,v) :: r=>if a=k then some v else QV k r
def tset {α β:Type} [DecidableEq α] (k:α) (v:β):List (α × β)→List (α × β)
 | []=>[(k,v)]
 | (a,x) :: r=>if a=k then (a,v) :: r else (a,x) :: tset k v r
theorem Q7h {α β:Type} [DecidableEq α] {ek:α→Value} {ev:β→Value} (hi:∀ a b,ek a=ek b→a=b) (k:α):∀ xs:List (α × β),Q1J (ek k) (Em ek ev xs)=(QV k xs).map ev:=by
 intro xs
 induction xs with
 | nil=>rfl
 | cons p r ih =>
  obtain ⟨a,v⟩:=p;simp only [Em,qL,Q1J,QV]
  by_cases h:a=k
  ·subst h;simp
  rw [if_neg (fun h'=>h (hi _ _ h')),if_neg h];exact ih
theorem mset_Em {α β:Type} [DecidableEq α] {ek:α→Value} {ev:β→Value} (hi:∀ a b,ek a=ek b→a=b) (k:α) (v:β):∀ xs:List (α × β),mset (ek k) (ev v) (Em ek ev xs)=Em ek ev (tset k v xs):=by
 intro xs
 induction xs with
 | nil=>rfl
 | cons p r ih =>
  obtain ⟨a,x⟩:=p;simp only [Em,qL,mset,tset]
  by_cases h:a=k
  ·subst h;simp
  rw [if_neg (fun h'=>h (hi _ _ h')),if_neg h];simp only [qL];have:mset (ek k) (ev v) (r.map fun p=>(ek p.1,ev p.2))=(tset k v r).map fun p=>(ek p.1,ev p.2):=ih;rw [this]
def vI (x:Int):Value:=.int .i64 x
def Mii (xs:List (Int × Int)):List (Value × Value):=Em vI vI xs
theorem vI_inj (a b:Int) (h:vI a=vI b):a=b:=by cases h;rfl
@[simp] theorem Mii_nil:Mii []=[]:=rfl
@[simp] theorem Mii_length (xs:List (Int × Int)):(Mii xs).length=xs.length:=by simp [Mii,Em]
@[simp] theorem find_Mii (k:Int) (xs:List (Int × Int)):(Q1J (.int .i64 k) (Mii xs)).getD (.int .i64 0) = .int .i64 ((QV k xs).getD 0):=by
 have:=Q7h (ev:=vI) vI_inj k xs;show ((Q1J (vI k) (Em vI vI xs)).getD (vI 0))=_;rw [this];cases QV k xs<;>rfl
@[simp] theorem some_Mii (k:Int) (xs:List (Int × Int)):(Q1J (.int .i64 k) (Mii xs)).isSome=(QV k xs).isSome:=by
 have:=Q7h (ev:=vI) vI_inj k xs;show (Q1J (vI k) (Em vI vI xs)).isSome=_;rw [this];cases QV k xs<;>rfl
@[simp] theorem set_Mii (k v:Int) (xs:List (Int × Int)):mset (.int .i64 k) (.int .i64 v) (Mii xs)=Mii (tset k v xs):=mset_Em (ev:=vI) vI_inj k v xs
@[simp] theorem set_Mii0 (k v:Int):mset (.int .i64 k) (.int .i64 v) []=Mii [(k,v)]:=rfl
structure RetF (keep:Bool) (ts:List Nat) (st:St) (rs:List AV):Prop where
 len:rs.length=ts.length
 pur:∀ k,k<ts.length→PurTo st.hp (st.get (ts.getD k 0)) (rs.getD k .bot)
 own:keep=false→∀ k,k<ts.length→(match st.get (ts.getD k 0) with|.val _=>True|.mp _=>True|_=>False)
def retFQ (keep:Bool) (ts:List Nat) (rs:List AV):Exit→St→Prop
 | .normal,st=>RetF keep ts st rs
 | .ret,st=>RetF keep ts st rs
 | _,_=>False
theorem Q5R {P:Program} (keep:Bool) {f:Nat} {fn:Func} {c:Code} {args:List AV} {ts:List Nat} {rs:List AV} {res:AV} (hf:P.funcs[f]? = some fn) (hb:fn.body=some c) (hrt:resT fn.results=some ts) (hrs:res=Q1e rs)
  (hname : (fn.name == "runtime.NumGoroutine") = false) (hN : args.length ≤ fn.ntmps) (h : ∀ F : Fx, F.N = fn.ntmps → F.pins = 0 → Wp P F c (retFQ keep ts rs) ⟨Q3C 0 args, [], 0⟩) : FContract P keep f args res := by
 subst hrs;refine ⟨⟨fn,hf,hname,by rw [hb];rfl⟩,fun w R vals hR hsz hx=>?_⟩;refine calls_of_wp hf hb ?_
 let C:Ctx:=⟨w,fun _=>False,fun _=>none,0⟩
 have hrel:Rel C R fn.ntmps { tmps:=vals++Array.replicate (fn.ntmps - vals.size) undef,defers:=[] } w ⟨Q3C 0 args,[],0⟩:=by
  refine ⟨by simp;omega,rfl,(fun id x h=>by cases h),fun _=>none,noρ,⟨fun b hb=>⟨hR b hb,rfl⟩,(fun b L hb=>by cases hb),rfl,⟨rfl,qD _⟩,rfl,qD _,fun b _ _=>rfl⟩,⟨(fun id sz es bk _ hb=>by cases hb),(fun id sz es bk _ hb=>by cases hb),(fun id c i k sz bk _ hb=>by cases hb),(fun id kd es bk _ hb=>by cases hb)⟩,fun t=>?_,(fun id k hk=>by cases hk),(fun id hid=>by cases hid),qD _⟩;simp only [St.get,Q2E]
  by_cases ht:t<args.length
  ·rw [if_pos (by omega)];simp only [Nat.sub_zero,qY];have:=hx t ht;have h2:(vals++Array.replicate (fn.ntmps - vals.size) undef).getD t undef=vals.getD t undef:=by
    simp [qV,show t<vals.size by omega]
   rw [h2];exact this
  rw [if_neg (by omega)];exact .bot
 refine Q4d (fun e a w' hq=>?_) (h ⟨C,R,fn.ntmps,0,rfl⟩ rfl rfl _ w (.of hrel));obtain ⟨st,⟨R',hX,hr⟩,hq⟩:=hq;have fin:RetF keep ts st rs→a.defers=[]∧∃ v,(results fn a.tmps).run P w' = .ok v w'∧∃ v' R1,Ending.returned v = .returned v'∧Blw w.heap.size w w'∧(∀ b,R1 b→b<w'.heap.size∧((keep=true∧R b)∨w.heap.size≤b))∧XRel w' R1 noρ v' (Q1e rs):=by
  intro hA;obtain ⟨_,hdef,_,o,ρ,W,H,hxx,_⟩:=hr
  let R1:Nat→Prop:=if keep then RAll ⟨R',o,ρ⟩ else fun b=>∃ L,o b=some L
  have hown:∀ b L,o b=some L→b<w'.heap.size∧w.heap.size≤b:=fun b L hb=>by
   obtain ⟨q1,q2⟩:=W.o b L hb;exact ⟨q1,q2.resolve_right id⟩
  have hR1:∀ b,R1 b→b<w'.heap.size∧((keep=true∧R b)∨w.heap.size≤b):=fun b hb=>by
   cases keep with
   | true =>
    rcases (show RAll ⟨R',o,ρ⟩ b from hb) with hb|⟨L,hb⟩
    ·exact ⟨(W.R b hb).1,(hX.2 b hb).imp (fun h=>⟨rfl,h⟩) id⟩
    exact ⟨(hown b L hb).1,.inr (hown b L hb).2⟩
   | false =>
    obtain ⟨L,hb⟩:=hb;exact ⟨(hown b L hb).1,.inr (hown b L hb).2⟩
  have hcell:∀ k,k<ts.length→XRel w' R1 noρ (a.tmps.getD (ts.getD k 0) undef) (rs.getD k .bot):=by
   intro k hk;have h1:=hA.pur k hk;have h2:=hxx (ts.getD k 0);cases hkp:keep with
   | true=>subst hkp;exact (Q69 H h1 h2).1
   | false =>
    subst hkp;have h3:=hA.own rfl k hk;generalize st.get (ts.getD k 0)=av at h1 h2 h3;generalize rs.getD k .bot=rv at h1 ⊢;generalize a.tmps.getD (ts.getD k 0) undef=vv at h2 ⊢;cases av with
    | val v =>
     cases h1 with
     | val=>obtain ⟨rfl,hs⟩:=h2.val_eq;exact .r (.val hs)
     | nil=>obtain ⟨rfl,hs⟩:=h2.val_eq;exact .r (.nil (by decide))
    | mp id =>
     cases h1 with
     | mp he hk =>
      obtain ⟨b,rfl,hb⟩:=h2.mp_eq;obtain ⟨b',q1,q2,q3,q4⟩:=(H.map _ _ _ _ he hb).plain hk;simp only [Bk.mk.injEq,qA,and_true] at q1;subst q1;exact .r (.cmap ⟨_,q2⟩ q3 q4)
    | _=>exact h3.elim
  refine ⟨hdef,_,Q3v hrt _,_,R1,rfl,⟨W.os,W.tape,W.output,W.size,fun b hb=>W.keep b hb id⟩,hR1,?_⟩;have hl:=hA.len
  match ts,rs,hl,hcell with
  | [],[],_,_=>exact .tup rfl fun k hk=>by simp at hk
  | [t],[r],_,hcell=>exact hcell 0 (by simp)
  | t :: u :: ts,r :: s :: rs,hl,hcell =>
   simp only [qL,Q2B,Q1e];refine .tup (by simp at hl;simp;omega) fun k hk=>?_;have hk':k<(t :: u :: ts).length:=(by simp at hl hk;simp;omega);have:=hcell k hk';have h1:((a.tmps.getD t undef :: a.tmps.getD u undef :: ts.map fun t=>a.tmps.getD t undef).toArray).getD k undef=a.tmps.getD ((t :: u :: ts).getD k 0) undef:=by
    have e1:(a.tmps.getD t undef :: a.tmps.getD u undef :: ts.map fun t=>a.tmps.getD t undef)=(t :: u :: ts).map fun t=>a.tmps.getD t undef:=rfl;rw [e1];have hk2:k<(List.map (fun t=>a.tmps.getD t undef) (t :: u :: ts)).toArray.size:=(by simpa using hk');rw [zE,qX hk2,qY];simp only [List.getElem_toArray,List.getElem_map];rw [qB,qF hk',qY]
   rw [h1];exact this
 cases e with
 | normal=>exact fin hq
 | ret=>exact fin hq
 | _=>exact hq.elim
theorem RetF.nil {keep:Bool} {st:St}:RetF keep [] st []:=⟨rfl,fun k hk=>by simp at hk,fun _ k hk=>by simp at hk⟩
theorem RetF.cons {keep:Bool} {t:Nat} {ts:List Nat} {st:St} {r:AV} {rs:List AV} (hp:PurTo st.hp (st.get t) r) (ho:keep=false→(match st.get t with|.val _=>True|.mp _=>True|_=>False)) (h:RetF keep ts st rs):RetF keep (t :: ts) st (r :: rs):=by
 refine ⟨by simp [h.len],fun k hk=>?_,fun hkp k hk=>?_⟩
 ·cases k with
  | zero=>exact hp
  | succ k=>simpa using h.pur k (by simpa using hk)
 cases k with
 | zero=>exact ho hkp
 | succ k=>simpa using h.own hkp k (by simpa using hk)
end
section
attribute [local simp] Qh QF Qs
theorem wp_wk {P:Program} {F:Fx} {c:Code} {AQ:Exit→St→Prop} {st:St} (h:Wp P F c (fun e st=>∃ st',Wk F st st'∧AQ e st') st):Wp P F c AQ st:=by
 intro a w hr;refine wp_mono (h a w hr) fun e a w he=>?_;obtain ⟨st1,h1,st2,h2,h3⟩:=he;exact ⟨st2,h2 a w h1,h3⟩
def iretWQ (F:Fx) (ts:List Nat) (H:List (Nat × Ent)) (n:Nat) (e:Eff):Exit→St→Prop
 | .normal,st=>∃ st',Wk F st st'∧IRet ts H n e st'
 | .ret,st=>∃ st',Wk F st st'∧IRet ts H n e st'
 | _,_=>False
theorem Q2K {P:Program} {f:Nat} {fn:Func} {c:Code} {az:List AV} {ts:List Nat} {H:List (Nat × Ent)} {n:Nat} {e:Eff} (hf:P.funcs[f]? = some fn) (hb:fn.body=some c) (hrt:resT fn.results=some ts)
  (hname : (fn.name == "runtime.NumGoroutine") = false) (hN : az.length ≤ fn.ntmps) (hH : ∀ p ∈ H, p.1 < n) (hfine : e.fine n) (hnew : ∀ id, n ≤ id → id < n + e.cnt → id ∈ e.new.map Prod.fst)
  (h:∀ F:Fx,F.N=fn.ntmps→F.pins=n→Wp P F c (iretWQ F ts H n e) ⟨Q3C 0 az,H,n⟩):ICon P f az (fun id=>look id H) n e:=by
 refine Qao hf hb hrt hname hN hH hfine hnew fun F h1 h2=>wp_wk (Wp.mono ?_ (h F h1 h2));intro ex st hq;cases ex with
 | normal=>exact hq
 | ret=>exact hq
 | _=>exact hq.elim
theorem iw_r {F:Fx} {ts:List Nat} {H:List (Nat × Ent)} {n:Nat} {e:Eff} {st st':St} (h:Wk F st st') (h2:IRet ts H n e st'):iretWQ F ts H n e .ret st:=⟨st',h,h2⟩
theorem iw_n {F:Fx} {ts:List Nat} {H:List (Nat × Ent)} {n:Nat} {e:Eff} {st st':St} (h:Wk F st st') (h2:IRet ts H n e st'):iretWQ F ts H n e .normal st:=⟨st',h,h2⟩
structure IRetG (P:Program) (rvs:List ResultVar) (H:List (Nat × Ent)) (n:Nat) (e:Eff) (st:St):Prop where
 res:∃ az,RGet P st rvs az∧Q1e az=e.v
 n:st.n=n+e.cnt
 h:st.h=Q4O e.set (Q4i e.del H)++e.new
def pinsB (n:Nat) (m:List (Nat × Nat)):Bool:=(zD n).all fun i=>look i m == some i
theorem pins_ok {n:Nat} {m:List (Nat × Nat)} (h:pinsB n m=true):∀ id,id<n→look id m=some id:=by
 intro id hid;unfold pinsB at h;have:=List.all_eq_true.1 h id (List.mem_range.2 hid);simpa using this
theorem Wk.rP {F:Fx} {st st':St} (n:Nat) (m:List (Nat × Nat)) (hP:F.pins=n) (hpin:pinsB n m=true)
  (h:(m.map Prod.fst).Nodup∧(m.map Prod.snd).Nodup∧(∀ p∈m,p.2<st'.n)∧(∀ p∈st'.h,p.1<st'.n)∧(∀ p∈st'.s,p.2=rl m (st.get p.1)∨p.2 = .bot)∧∀ p∈st'.h,hhOk m st.h p.1 p.2):Wk F st st' :=
 Wk.rel m h.1 h.2.1 (by rw [hP];exact pins_ok hpin) h.2.2.1 h.2.2.2.1 h.2.2.2.2.1 h.2.2.2.2.2
theorem Qak {e:Eff} {n:Nat} (h:(∀ p∈e.new,n≤p.1∧p.1<n+e.cnt)∧(e.new.map Prod.fst).Nodup∧(∀ x∈e.del,x<n)∧(e.set.map Prod.fst).Nodup∧∀ p∈e.set,p.1<n):e.fine n:=⟨h.1,h.2.1,h.2.2.1,h.2.2.2⟩
def newB (n cnt:Nat) (l:List Nat):Bool:=(zD cnt).all fun i=>l.contains (n+i)
theorem newI {e:Eff} {n:Nat} (h:newB n e.cnt (e.new.map Prod.fst)=true):∀ id,n≤id→id<n+e.cnt→id∈e.new.map Prod.fst:=by
 intro id h1 h2;unfold newB at h;have:=List.all_eq_true.1 h (id - n) (List.mem_range.2 (by omega));rw [show n+(id - n)=id by omega] at this;simpa using this
def roRows (sz:Nat) (es:List (List AV)):Prop:=∀ e∈es,e.length=sz∧∀ c∈e,AV.ro c=true
theorem roPur {h:HP} {c:AV} (hc:c.ro=true):PurTo h c c:=by
 cases c with
 | val=>exact .val
 | lst=>exact .lst
 | rptr=>exact .rptr
 | cmap=>exact .cmap
 | fn f cs =>
  refine .fn rfl (fun k hk ds e=>?_) fun k hk=>?_
  ·have h4:=Q7o hc hk;rw [e] at h4;cases h4
  have h4:=Q7o hc hk;generalize cs.getD k .bot=a at h4;cases a with
  | val=>exact .val
  | lst=>exact .lst
  | rptr=>exact .rptr
  | cmap=>exact .cmap
  | _=>cases h4
 | _=>cases hc
theorem PurTo.smix {h:HP} {id n sz:Nat} {u:Bool} {es:List (List AV)} (he:h id=some (.mix sz es)) (hn:n=es.length) (hr:roRows sz es):PurTo h (.own id 0 n) (.lst u sz es):=by
 subst hn;refine .mix he (by omega) rfl (fun i hi=>?_) fun i k hi hk=>?_
 ·have hm:es.getD i []∈es:=by simp [qB,qF hi]
  exact (hr _ hm).1
 have hm:es.getD i []∈es:=by simp [qB,qF hi]
 have hk':k<(es.getD i []).length:=by rw [(hr _ hm).1];exact hk
 rw [qR];refine roPur ((hr _ hm).2 _ ?_);generalize es.getD i []=q at hk';simp [qB,qF hk']
theorem QaC {α:Type} {c:α→List AV} {sz:Nat} {xs:List α} (h:∀ x,(c x).length=sz∧∀ d∈c x,AV.ro d=true):roRows sz (xs.map c):=by
 intro e he;obtain ⟨x,_,rfl⟩:=List.mem_map.1 he;exact h x
theorem RetF.two {t:Nat} {ts:List Nat} {st:St} {r:AV} {rs:List AV} (hp:PurTo st.hp (st.get t) r) (h:RetF true ts st rs):RetF true (t :: ts) st (r :: rs):=.cons hp (fun h=>by cases h) h
def ownB:AV→Bool
 | .val _=>true
 | .mp _=>true
 | _=>false
theorem RetF.one {t:Nat} {ts:List Nat} {st:St} {r:AV} {rs:List AV} (ho:ownB (st.get t)=true) (hp:PurTo st.hp (st.get t) r) (h:RetF false ts st rs):RetF false (t :: ts) st (r :: rs):=by
 refine .cons hp (fun _=>?_) h
 revert ho
 cases st.get t<;>simp [ownB]
end
section
attribute [local simp] Qh QF Qs
theorem Qa5 {op:Op} {P:Program} {mt:MT} {fz:List Nat} {all:Array Oper} {t:TypeId} {ty:Tyi} {xv b:AV} {id i k sz:Nat} {es es2:List (List AV)} {ds:List Nat} {dst:Option Nat} {os:List Oper} {st:St} {K:St→Prop} (dels:List Nat) (h1:tyi P t=some ty) (h2:ty.sz=1)
  (he:look id st.h=some (.row sz es)) (hl:layC st.hp xv=some (b,ds)) (hi:i<es.length) (hk:k<sz) (hn:(id :: ds).Nodup) (hlt:∀ y∈ds++dels,y<st.n) (ha:∀ p∈st.h,isAli p.2=true→p.1∈dels)
  (h2':es.set i ((es.getD i []).set k b)=es2)
  (h:runX P mt fz all os (st.app dst { v:=.bot,set:=[(id,.row sz es2)],del:=ds++dels }) K):stoZ P mt all op t (.adr id i k) xv dst os st K:=by
 subst h2';exact QaS dels h1 h2 ⟨he,hl,hi,hk,hn,hlt,fun id' _ _ _ _ _ h3=>.inl (ha (id',_) (Qq h3) rfl)⟩ h
theorem stoG_row {op:Op} {P:Program} {mt:MT} {fz:List Nat} {all:Array Oper} {t:TypeId} {ty:Tyi} {az bs:List AV} {id i sz:Nat} {es es2:List (List AV)} {ds:List Nat} {dst:Option Nat} {os:List Oper} {st:St} {K:St→Prop} (dels:List Nat) (h1:tyi P t=some ty) (h2:ty.sz=sz)
  (he:look id st.h=some (.row sz es)) (hl:layCs st.hp az=some (bs,ds)) (hi:i<es.length) (hk:az.length=sz) (hn:(id :: ds).Nodup) (hlt:∀ y∈ds++dels,y<st.n) (ha:∀ p∈st.h,isAli p.2=true→p.1∈dels)
  (h2':es.set i bs=es2)
  (h:runX P mt fz all os (st.app dst { v:=.bot,set:=[(id,.row sz es2)],del:=ds++dels }) K):stoZ P mt all op t (.adr id i 0) (.agg az) dst os st K:=by
 subst h2';exact Q94 dels h1 h2 ⟨he,hl,hi,hk,hn,hlt,fun id' _ _ _ _ _ h3=>.inl (ha (id',_) (Qq h3) rfl)⟩ h
end
section
attribute [local simp] Qh QF Qs
def shm (n cnt:Nat):List (Nat × Nat):=(zD cnt).map fun i=>(i,n+i)
theorem look_map {n:Nat}:∀ (l:List Nat) (i:Nat),look i (l.map fun i=>(i,n+i))=if i∈l then some (n+i) else none:=by
 intro l
 induction l with
 | nil=>intro i;simp [look]
 | cons a r ih =>
  intro i;simp only [qL,look,ih,List.mem_cons]
  by_cases h:a=i
  ·subst h;simp
  have:¬ i=a:=fun q=>h q.symm;simp [h,this]
theorem Q4P {n cnt i:Nat}:look i (shm n cnt)=if i<cnt then some (n+i) else none:=by
 unfold shm;rw [look_map];simp
theorem shm_fst (n cnt:Nat):((shm n cnt).map Prod.fst).Nodup:=by
 have:(shm n cnt).map Prod.fst=zD cnt:=by simp [shm,Function.comp_def]
 rw [this];exact List.nodup_range
theorem shm_snd (n cnt:Nat):((shm n cnt).map Prod.snd).Nodup:=by
 have:(shm n cnt).map Prod.snd=(zD cnt).map (n + ·):=by simp [shm,Function.comp_def]
 rw [this];exact List.Pairwise.map (R:=fun a b=>a ≠ b) _ (fun a b h e=>h (by omega)) List.nodup_range
theorem ro_rel {w:World} {R:Nat→Prop} {ρ ρ':Nat→Option Bk} {v:Value} {a:AV} (h:XRel w R ρ v a) (ha:AV.ro a=true):XRel w R ρ' v a:=by
 exact .r (h.toR ha)
def noAli:Ent→Bool
 | .ali _ _ _ _=>false
 | _=>true
theorem ICon.lift {P:Program} {f:Nat} {vs:List AV} {e e':Eff} {h:HP} {n:Nat} (hc:ICon P f vs (fun _=>none) 0 e) (hro:∀ a∈vs,AV.ro a=true) (hs:e.set=[]∧e.del=[]) (hs':e'.set=[]∧e'.del=[]) (hcnt:e'.cnt=e.cnt)
  (hv:e'.v=rl (shm n e.cnt) e.v) (hna:∀ p∈e.new,noAli p.2=true) (hnew:∀ i,i<e.cnt→∃ x y,look i e.new=some x∧rlE (shm n e.cnt) x=some y∧(n+i,y)∈e'.new) (hfine:e'.fine n):ICon P f vs h n e':=by
 refine ⟨hc.enters,fun _=>hfine,fun C w g h' vals hag hnw hlim W H hsz hargs=>?_⟩;have hf0:=hc.fine (fun id x hx=>by cases hx);have W0:WF ⟨w,fun _=>False,fun _=>none,0⟩ w ⟨g.R,fun _=>none,fun _=>none⟩:=⟨fun b hb=>⟨(W.R b hb).1,rfl⟩,(fun b L hb=>by cases hb),rfl,⟨rfl,qD _⟩,rfl,qD _,fun b _ _=>rfl⟩;have H0:HRel w ⟨g.R,fun _=>none,fun _=>none⟩ (fun id=>look id e.new):=⟨(fun id sz es bk _ hb=>by cases hb),(fun id sz es bk _ hb=>by cases hb),(fun id c i k sz bk _ hb=>by cases hb),(fun id kd es bk _ hb=>by cases hb)⟩;refine (hc.calls _ w _ _ vals (fun id hid=>absurd hid (Nat.not_lt_zero _)) (fun p hp=>Q14 hf0.nodup hp) (fun id k hk=>by cases hk) W0 H0 hsz (fun k hk=>ro_rel (hargs k hk) (hro _ (by
  rw [qB,qF hk];exact List.getElem_mem hk)))).mono fun ex w' ⟨v,R',o',ρ',q0,q1,q2,q3,q4,q5,q6,q7⟩=>?_
 rw [QW hs.1 hs.2] at q3;have ho':∀ b L,o' b=some L→w.heap.size≤b∧b<w'.heap.size:=fun b L hb=>⟨(q2.o b L hb).2.resolve_right id,(q2.o b L hb).1⟩;have hkeep:∀ b,b<w.heap.size→w'.heap[b]? = w.heap[b]?:=fun b hb=>q2.keep b hb id;have hgo:∀ b L,o' b=some L→g.o b=none:=by
  intro b L hb;cases hg:g.o b with
  | none=>rfl
  | some M=>have:=(W.o b M hg).1;have:=(ho' b L hb).1;omega
 have hm2:=shm_snd n e.cnt;have hrρ:∀ j bk,rlρ (shm n e.cnt) ρ' j=some bk→∃ i,i<e.cnt∧j=n+i∧look i (shm n e.cnt)=some j∧ρ' i=some bk:=by
  intro j bk hj;simp only [rlρ] at hj;split at hj
  ·rename_i i hi;have hl:=Q71 (shm_fst n e.cnt) hi;have hl2:=hl;rw [Q4P] at hl2;split at hl2
   ·rename_i hlt;simp only [qA] at hl2;exact ⟨i,hlt,hl2.symm,hl,hj⟩
   cases hl2
  cases hj
 have hgρ:∀ j bk,rlρ (shm n e.cnt) ρ' j=some bk→g.ρ j=none:=by
  intro j bk hj;obtain ⟨i,hi,rfl,_⟩:=hrρ j bk hj;cases hg:g.ρ (n+i) with
  | none=>rfl
  | some k=>have:=hlim _ _ hg;omega
 let o2:Nat→Option (List Nat):=fun b=>match g.o b with|some L=>some L|none=>rlo (shm n e.cnt) o' b
 let ρ2:Nat→Option Bk:=fun id=>match g.ρ id with|some k=>some k|none=>rlρ (shm n e.cnt) ρ' id
 have ho2:∀ b L,g.o b=some L→o2 b=some L:=fun b L hb=>by simp only [o2,hb]
 have ho3:∀ b i M,i<e.cnt→o' b=some (i :: M)→o2 b=some ((n+i) :: M):=by
  intro b i M hi hb;simp only [o2,hgo b _ hb,rlo,hb,Q4P,if_pos hi]
 have hρ2:∀ id k,g.ρ id=some k→ρ2 id=some k:=fun id k hk=>by simp only [ρ2,hk]
 have hρ3:∀ id k,rlρ (shm n e.cnt) ρ' id=some k→ρ2 id=some k:=fun id k hk=>by simp only [ρ2,hgρ id k hk,hk]
 have hX:∀ v a,XRel w' R' ρ' v a→XRel w' R' ρ2 v (rl (shm n e.cnt) a):=fun v a hx=>(rl_rel hm2 hx).mono (fun b hb=>⟨hb,rfl⟩) hρ3;have hent:∀ id x bk,h' id=some x→g.ρ id=none→ρ2 id=some bk→∃ i y,i<e.cnt∧id=n+i∧ρ' i=some bk∧look i e.new=some y∧rlE (shm n e.cnt) y=some x∧noAli y=true:=by
  intro id x bk hx hg hb;simp only [ρ2,hg] at hb;obtain ⟨i,hi,rfl,_,hr⟩:=hrρ id bk hb;obtain ⟨y,z,h1,h2,h3⟩:=hnew i hi;have:=hnw _ h3;simp only at this;rw [this] at hx;cases hx;exact ⟨i,y,hi,rfl,hr,h1,h2,hna _ (Qq h1)⟩
 have H1:HRel w' ⟨g.R,o2,g.ρ⟩ h':=H.mono (fun b hb=>hkeep b (W.R b hb).1) (fun b L hb=>⟨ho2 b L hb,hkeep b (W.o b L hb).1⟩) (fun _ _ hk=>hk) (fun id sz es bk _ h1 h2=>by rw [h1] at h2;cases h2) (fun id sz es bk _ h1 h2=>by rw [h1] at h2;cases h2)
  (fun id c i k sz bk _ h1 h2=>by rw [h1] at h2;cases h2)
 have H2:HRel w' ⟨R',o2,g.ρ⟩ h':=H1.growR q1.1;have H3:HRel w' ⟨R',o2,ρ2⟩ h':=by
  refine H2.mono (fun _ _=>rfl) (fun b L hb=>⟨hb,rfl⟩) hρ2 (fun id sz es bk he hg hb=>?_) (fun id sz es bk he hg hb=>?_) (fun id c i k sz bk he hg hb=>?_) (fun id kd es bk he hg hb=>?_)
  ·obtain ⟨i,y,hi,rfl,hr,h1,h2,h3⟩:=hent id _ bk he hg hb;cases y with
   | mix s2 e2 =>
    simp only [rlE,qA,Ent.mix.injEq] at h2;obtain ⟨rfl,rfl⟩:=h2;rcases (q3.mix i _ _ bk h1 hr).ex0 with ⟨rfl,h0⟩|⟨b,cur,el,us,cpm,p1,p2,p3,p4,p5,p5',p6,p7,p8,p9⟩
    ·exact ⟨.inl ⟨rfl,h0⟩⟩
    refine .mk' ⟨b,cur,el,us,cpm,p1,ho3 b i [] hi p2,p3,p4,by rw [Q1i];exact p5,p5',fun j hj=>?_,fun j l hj hl=>?_,fun j l hj hl=>?_,fun j l hj hl=>?_⟩
    ·rw [Q1i] at hj;rw [Q4L,QK];exact p6 j hj
    ·rw [Q1i] at hj;exact p7 j l hj hl
    ·rw [Q1i] at hj;exact p8 j l hj hl
    rw [Q1i] at hj;rw [Q4L,Q2m];exact hX _ _ (p9 j l hj hl)
   | row=>simp [rlE] at h2
   | mapE=>simp [rlE] at h2
   | ali=>cases h3
  ·obtain ⟨i,y,hi,rfl,hr,h1,h2,h3⟩:=hent id _ bk he hg hb;cases y with
   | mix=>simp [rlE] at h2
   | row s2 e2 =>
    simp only [rlE,qA,Ent.row.injEq] at h2;obtain ⟨rfl,rfl⟩:=h2;obtain ⟨v,hv,hh2⟩:=q3.row i _ _ bk h1 hr;exact ⟨v,hv.mono (R':=R') [n+i] fun b M hbo=>⟨ho3 b i M hi hbo,rfl⟩,hh2⟩
   | mapE=>simp [rlE] at h2
   | ali=>cases h3
  ·obtain ⟨i0,y,hi,rfl,hr,h1,h2,h3⟩:=hent id _ bk he hg hb;cases y with
   | mix=>simp [rlE] at h2
   | row=>simp [rlE] at h2
   | mapE=>simp [rlE] at h2
   | ali=>cases h3
  obtain ⟨i,y,hi,rfl,hr,h1,h2,h3⟩:=hent id _ bk he hg hb;cases y with
  | mix=>simp [rlE] at h2
  | row=>simp [rlE] at h2
  | mapE kd2 e2 =>
   simp only [rlE,qA,Ent.mapE.injEq] at h2;obtain ⟨rfl,rfl⟩:=h2;exact (q3.map i _ _ bk h1 hr).move (fun b hb=>⟨hb,rfl⟩) fun b M p2=>⟨ho3 b i M hi p2,rfl⟩
  | ali=>cases h3
 refine ⟨v,R',o2,ρ2,q0,⟨q1.1,fun b hb=>(q1.2 b hb).imp id (qO W.size)⟩,⟨fun b hb=>⟨(q2.R b hb).1,?_⟩,fun b L hb=>?_,q2.os.trans W.os,tpt q2.tape W.tape,q2.output.trans W.output,qO W.size q2.size,fun b hb hw=>(hkeep b (qQ hb W.size)).trans (W.keep b hb hw)⟩,by rw [QW hs'.1 hs'.2];exact H3,hρ2,fun id k hk=>?_,by rw [hv];exact hX _ _ q6,q7⟩
 ·have h1:o' b=none:=(q2.R b hb).2;show o2 b=none;rcases q1.2 b hb with hg|hg
  ·simp only [o2,show g.o b=none from (W.R b hg).2,rlo,h1]
  have hg':g.o b=none:=by
   cases hq:g.o b with
   | none=>rfl
   | some M=>have:=(W.o b M hq).1;simp only at hg;omega
  simp only [o2,hg',rlo,h1]
 ·have hb':o2 b=some L:=hb;cases hq:g.o b with
  | some M=>exact ⟨qQ (W.o b M hq).1 q2.size,(W.o b M hq).2⟩
  | none =>
   simp only [o2,hq,rlo] at hb';split at hb'
   ·rename_i x M hx;exact ⟨(ho' b _ hx).2,.inl (qO W.size (ho' b _ hx).1)⟩
   cases hb'
 have hk':ρ2 id=some k:=hk;cases hg:g.ρ id with
 | some k2=>simp only [ρ2,hg] at hk';exact .inl hk'
 | none =>
  simp only [ρ2,hg] at hk';obtain ⟨i,hi,rfl,_⟩:=hrρ id k hk';exact .inr ⟨by omega,by omega⟩
def rlE' (m:List (Nat × Nat)) (x:Ent):Ent:=(rlE m x).getD x
@[simp] theorem rlE'_mix {m:List (Nat × Nat)} {sz:Nat} {es:List (List AV)}:rlE' m (.mix sz es) = .mix sz (rlLL m es):=rfl
@[simp] theorem rlE'_row {m:List (Nat × Nat)} {sz:Nat} {es:List (List AV)}:rlE' m (.row sz es) = .row sz es:=rfl
@[simp] theorem rlE'_map {m:List (Nat × Nat)} {kd:MK} {es:List (Value × Value)}:rlE' m (.mapE kd es) = .mapE kd es:=rfl
theorem ICon.liftL {P:Program} {f:Nat} {vs:List AV} {e e':Eff} {h:HP} {n:Nat} (hc:ICon P f vs (fun _=>none) 0 e) (hro:∀ a∈vs,AV.ro a=true) (hs:e.set=[]∧e.del=[]) (hs':e'.set=[]∧e'.del=[]) (hcnt:e'.cnt=e.cnt)
  (hv:e'.v=rl (shm n e.cnt) e.v) (hna:∀ p∈e.new,noAli p.2=true) (hcomp:newB 0 e.cnt (e.new.map Prod.fst)=true) (hn:e'.new=e.new.map fun p=>(n+p.1,rlE' (shm n e.cnt) p.2)) (hfine:e'.fine n):ICon P f vs h n e':=by
 refine hc.lift hro hs hs' hcnt hv hna (fun i hi=>?_) hfine;have hm:=newI (n:=0) (e:=e) hcomp i (Nat.zero_le _) (by omega);obtain ⟨p,hp,rfl⟩:=List.mem_map.1 hm;have hf0:=hc.fine (fun id x hx=>by cases hx);refine ⟨p.2,rlE' (shm n e.cnt) p.2,Q14 hf0.nodup hp,?_,by rw [hn];exact List.mem_map.2 ⟨p,hp,rfl⟩⟩;have:=hna p hp;generalize p.2=x at this;cases x with
 | ali=>cases this
 | _=>rfl
end
section
attribute [local simp] Qh QF Qs
theorem St.hp_put (st:St) (d:Nat) (av:AV):(st.app (some d) { v:=av }).hp=st.hp:=by
 funext k
 simp [St.app,St.hp,Q4O,Q4i]
theorem Rel.put {C:Ctx} {R:Nat→Prop} {N:Nat} {a:Act} {w:World} {st:St} (h:Rel C R N a w st) {d:Nat} (hd:d<N) {v:Value} {av:AV} (hv:∀ ρ,XRel w R ρ v av) :
  Rel C R N (a.put (some d) v) w (st.app (some d) { v:=av }):=by
 obtain ⟨h1,h2,h3,o,ρ,W,H,hx,hρ⟩:=h;have hn:(st.app (some d) { v:=av }).n=st.n:=by simp [St.app]
 refine ⟨by rw [Q5E];exact h1,by rw [← h2];rfl,fun id x hid=>?_,o,ρ,W,by rw [St.hp_put];exact H,fun t=>?_,by rw [hn];exact hρ.1,hρ.2.1,by rw [hn];exact hρ.2.2⟩
 ·have e:look id (st.app (some d) { v:=av }).h=look id st.h:=congrFun (St.hp_put st d av) id;rw [e] at hid;rw [hn];exact h3 id x hid
 rw [put_get a (some d) v t (fun x hx=>by cases hx;rw [h1];exact hd),Q2y];split
 ·exact hv ρ
 exact hx t
end
section
attribute [local simp] Qh QF Qs
section
variable {P:Program} {ops:Array Oper}
end
structure DR (C:Ctx) (R:Nat→Prop) (N p n sz b cap:Nat) (o:Nat→Option (List Nat)) (ρ:Nat→Option Bk) (s:List (Nat × AV)) (es:List (List AV)) (a:Act) (w:World):Prop where
 size:a.tmps.size=N
 defers:a.defers=[]
 W:WF C w ⟨R,o,ρ⟩
 hx:∀ t,XRel w R ρ (a.tmps.getD t undef) ((look t s).getD .bot)
 ρp:ρ p=some ⟨some b,sz,cap⟩
 ob:o b=some [p]
 cells:∃ (cur:Array Value) (el:TypeId),w.heap[b]? = some (.cells cur el (0,0))∧cap * sz≤cur.size∧∀ i k,i<es.length→k<sz→∃ u,cur[i * sz+k]? = some u∧sc u∧(es.getD i []).getD k .bot = .val u
 rows:∀ i,i<es.length→(es.getD i []).length=sz
 len:es.length≤cap∧cap≤maxLen
 lim:(∀ id k,ρ id=some k→id<n)∧(∀ id,id<C.n0→ρ id=C.ρ0 id)∧C.n0≤n
 pn:p<n
section
variable {C:Ctx} {R:Nat→Prop} {N p n sz b cap:Nat} {o:Nat→Option (List Nat)} {ρ:Nat→Option Bk} {s:List (Nat × AV)} {es:List (List AV)} {a:Act} {w:World}
theorem DR.put (h:DR C R N p n sz b cap o ρ s es a w) {d:Nat} (hd:d<N) {v:Value} {s':List (Nat × AV)} (hs:∀ t,t ≠ d→(look t s').getD .bot=(look t s).getD .bot) (hv:XRel w R ρ v ((look d s').getD .bot)) :
  DR C R N p n sz b cap o ρ s' es (a.put (some d) v) w:=by
 refine ⟨by rw [Q5E];exact h.size,by rw [← h.defers];rfl,h.W,fun t=>?_,h.ρp,h.ob,h.cells,h.rows,h.len,h.lim,h.pn⟩;rw [put_get a (some d) v t (fun x hx=>by cases hx;rw [h.size];exact hd)];split
 ·rename_i q;cases q;exact hv
 rename_i q;rw [hs t (fun e=>q (by rw [e]))];exact h.hx t
theorem DR.putB (h:DR C R N p n sz b cap o ρ s es a w) {d:Nat} (hd:d<N) {v:Value} (hs:look d s=none):DR C R N p n sz b cap o ρ s es (a.put (some d) v) w :=
 h.put hd (fun _ _=>rfl) (by rw [hs];exact .bot)
theorem DR.setRow (h:DR C R N p n sz b cap o ρ s es a w) {cur cur':Array Value} {el:TypeId} {es':List (List AV)} (hb:w.heap[b]? = some (.cells cur el (0,0))) (hcs:cur'.size=cur.size) (hlen:es'.length≤cap) (hrows:∀ i,i<es'.length→(es'.getD i []).length=sz)
  (hc:∀ i k,i<es'.length→k<sz→∃ u,cur'[i * sz+k]? = some u∧sc u∧(es'.getD i []).getD k .bot = .val u):DR C R N p n sz b cap o ρ s es' a (w.setRow b cur'):=by
 have hne:∀ b',o b' ≠ some [p]→b' ≠ b:=fun b' q e=>q (by rw [e];exact h.ob);have hR:∀ b',R b'→(w.setRow b cur').heap[b']? = w.heap[b']?:=fun b' hb'=>setRow_other w b b' cur' (hne b' (by have q:o b'=none:=(h.W.R b' hb').2;rw [q];simp));obtain ⟨cur0,el0,hb0,hcs0,_⟩:=h.cells;rw [hb] at hb0;cases hb0;refine ⟨h.size,h.defers,⟨fun b' hb'=>?_,fun b' L hb'=>?_,h.W.os,h.W.tape,h.W.output,by simpa using h.W.size,fun b' hb' hw=>?_⟩,fun t=>(h.hx t).mono (fun b hb=>⟨hb,hR b hb⟩) (fun _ _ h=>h),h.ρp,h.ob,⟨cur',el,setRow_heap w b cur cur' el (0,0) hb,by rw [hcs];exact hcs0,hc⟩,hrows,⟨hlen,h.len.2⟩,h.lim,h.pn⟩
 ·exact ⟨by simpa using (h.W.R b' hb').1,(h.W.R b' hb').2⟩
 ·exact ⟨by simpa using (h.W.o b' L hb').1,(h.W.o b' L hb').2⟩
 rw [setRow_other w b b' cur' (fun e=>?_)]
 ·exact h.W.keep b' hb' hw
 subst e;rcases (h.W.o b' _ h.ob).2 with q|q
 ·omega
 exact hw q
end
end
section
attribute [local simp] Qh QF Qs
def IsOp (ops:Array Oper) (i:Nat) (op:Op) (d:Option Nat):Prop:=∃ o,ops[i]? = some o∧o.op=op∧o.dst=d∧o.guard=none
section
variable {P:Program}
theorem IsOp.val {ops:Array Oper} {i:Nat} {op:Op} {d:Option Nat} (h:IsOp ops i op d) {K:Act→World→Prop} {a:Act} {w w':World} {x:Value}
  (hr:∀ o:Oper,o.op=op→(execOp a.eval o).run P w = .ok (.value x) w') (hk:K (a.put d x) w'):Go.Vc.wpOp P ops i K a w:=by
 obtain ⟨o,h1,h2,h3,h4⟩:=h;subst h3;exact Qad h1 (by simp [Region.wanted,h4]) (hr o h2) hk
theorem IsOp.move {ops:Array Oper} {i t:Nat} {d:Option Nat} (h:IsOp ops i (.move (.tmp t)) d) {K:Act→World→Prop} {a:Act} {w:World} (hk:K (a.put d (a.tmps.getD t undef)) w):Go.Vc.wpOp P ops i K a w :=
 h.val (fun o ho=>by unfold execOp;rw [ho];rfl) hk
theorem IsOp.assign {ops:Array Oper} {i t:Nat} {d:Option Nat} (h:IsOp ops i (.assign (.tmp t)) d) {K:Act→World→Prop} {a:Act} {w:World} (hk:K (a.put d (a.tmps.getD t undef)) w):Go.Vc.wpOp P ops i K a w :=
 h.val (fun o ho=>by unfold execOp;rw [ho];rfl) hk
theorem IsOp.slice {ops:Array Oper} {i x:Nat} {d:Option Nat} {t et:TypeId} {lo hi:Option Operand} (h:IsOp ops i (.slice t (.tmp x) lo hi none) d) {K:Act→World→Prop} {a:Act} {w:World} (ht:elm P t=some et) {ty:Tyi} (hty:tyi P et=some ty)
  {ad:Option Addr} {m c l r:Nat} (hx:a.tmps.getD x undef = .slice ad m c) (hb:(Instr.sliceBounds true m c (lo.map a.eval) (hi.map a.eval) none).run P w = .ok (l,r,c) w)
  (hk:K (a.put d (.slice (if c=l then ad else ad.map (·.add (l * ty.sz))) (r - l) (c - l))) w):Go.Vc.wpOp P ops i K a w:=by
 have hu:=Q1I ht;obtain ⟨inf,d0,z,h1,h2,h3,h4,_⟩:=Q1n hty;have hv:a.eval (.tmp x) = .slice ad m c:=hx;have h4':ty.sz=inf.size:=by rw [h4]
 rw [h4'] at hk;refine h.val (fun o ho=>?_) hk;simp [execOp,ho,hv,Instr.sliceAt,run_underlying hu,Instr.slice,hb,sizeOf,typeInfo,h1]
theorem run_len {t et:TypeId} (ht:elm P t=some et) {ad:Option Addr} {m c:Nat} {w:World} {y:TypeId}:(Builtin.len_ #[t] y #[.slice ad m c]).run P w = .ok (.int .i64 m) w:=by
 simp [Builtin.len_,run_underlying (Q1I ht),Builtin.lenOf];rfl
theorem IsOp.len {ops:Array Oper} {i x:Nat} {d:Option Nat} {t et:TypeId} (h:IsOp ops i (.call ⟨.builtin .len,#[.tmp x],#[t]⟩) d) {K:Act→World→Prop} {a:Act} {w:World} (ht:elm P t=some et) {ad:Option Addr} {m c:Nat}
  (hx:a.tmps.getD x undef = .slice ad m c) (hk:K (a.put d (.int .i64 m)) w):Go.Vc.wpOp P ops i K a w:=by
 have hv:a.eval (.tmp x) = .slice ad m c:=hx;refine h.val (fun o ho=>?_) hk;simp [execOp,ho,resolve,invoke,builtin,hv,run_len ht]
theorem Q7q {w:World} {t ty et:TypeId} {inf:TypeInfo} {z:Value} (ht:P.underlying t=some (.slice et)) (hi:P.info? et=some inf) (hz:inf.zero=some z)
  {b m cap:Nat} {cur:Array Value} {el:TypeId} (hb:w.heap[b]? = some (.cells cur el (0,0))) (hs:cap * inf.size≤cur.size) {ad:Option Addr} {nn cx:Nat} {news:List Value} (hnl:news.length=nn * inf.size) (hpos:0<inf.size)
  (hnews:∀ q u,news[q]? = some u→∃ b x,ad=some ⟨b,x,none⟩∧w.cell? ⟨b,x+q,none⟩=some u) (h1:∀ u∈news,one u) (hroom:m+nn≤cap) :
  ∃ cur',(Builtin.append_ #[t,t] ty #[.slice (some ⟨b,0,none⟩) m cap,.slice ad nn cx]).run P w = .ok (.slice (some ⟨b,0,none⟩) (m+nn) cap) (w.setRow b cur')∧cur'.size=cur.size ∧
   (∀ q,q<m * inf.size→cur'[q]? = cur[q]?)∧(∀ q,q<nn * inf.size→cur'[m * inf.size+q]? = news[q]?):=by
 by_cases h0:nn=0
 ·subst h0;have hn:news=[]:=qK (by simpa using hnl);subst hn;have hf:∀ w1,(Builtin.firstCells inf.size 0 (.slice ad 0 cx)).run P w1 = .ok #[] w1:=by
   intro w1;cases ad with
   | none=>simp [Builtin.firstCells]
   | some a=>simp [Builtin.firstCells,loadCells,loadCellsFrom]
  refine ⟨cur,?_,rfl,fun _ _=>rfl,fun q hq=>by simp at hq⟩;rw [setRow_self w b cur el (0,0) hb];have hm:m≤cap:=by omega
  simp [Builtin.append_,run_underlying ht,sizeOf,typeInfo,hi,Builtin.lenOf,hf,hm,storeCells]
 have hnp:0<nn * inf.size:=Nat.mul_pos (by omega) hpos;obtain ⟨xb,x0,had,_⟩:=hnews 0 _ (qF (show 0<news.length by omega));subst had;have hcells:∀ q u,news[q]? = some u→w.cell? ((⟨xb,x0,none⟩:Addr).add q)=some u:=by
  intro q u hq;obtain ⟨b',x',h2,h3⟩:=hnews q u hq;simp only [qA,Addr.mk.injEq] at h2;obtain ⟨rfl,rfl,_⟩:=h2;rw [Q1H];exact h3
 have hfit:m * inf.size+news.length≤cur.size:=by rw [hnl,← Nat.add_mul];exact qO (Nat.mul_le_mul_right _ hroom) hs
 have hf:=run_firstCells_some (P:=P) w inf.size nn ⟨xb,x0,none⟩ nn cx news hnl hcells;have hst:=run_storeCells_at P b (m * inf.size) el news 0 cur w hb (by simpa using hfit) h1;simp only [Nat.add_zero] at hst;refine ⟨(cur.toList.take (m * inf.size)++news++cur.toList.drop (m * inf.size+news.length)).toArray,?_,?_,fun q hq=>?_,fun q hq=>?_⟩
 ·simp [Builtin.append_,run_underlying ht,sizeOf,typeInfo,hi,Builtin.lenOf,hroom,hf,Q1H,hst]
 ·simp;omega
 ·simp only [List.getElem?_toArray,List.append_assoc];rw [List.getElem?_append_left (by simp;omega),qP,if_pos hq];simp
 have hl:(cur.toList.take (m * inf.size)).length=m * inf.size:=by simp;omega
 simp only [List.getElem?_toArray,List.append_assoc];rw [List.getElem?_append_right (by omega),hl,List.getElem?_append_left (by omega)]
 congr 1;omega
theorem run_clear {w:World} {t ty et:TypeId} {inf:TypeInfo} {z:Value} (ht:P.underlying t=some (.slice et)) (hi:P.info? et=some inf) (hz:inf.zero=some z) (hzs:z.cells.size=inf.size) (hz1:∀ v∈z.cells.toList,one v)
  {b x n c:Nat} {cur:Array Value} {el:TypeId} (hb:w.heap[b]? = some (.cells cur el (0,0))) (hs:x+n * inf.size≤cur.size) :
  ∃ cur',(Builtin.clear_ #[t] ty #[.slice (some ⟨b,x,none⟩) n c]).run P w = .ok (.tuple #[]) (w.setRow b cur')∧cur'.size=cur.size∧∀ q,q<x→cur'[q]? = cur[q]?:=by
 by_cases h0:n=0
 ·subst h0;refine ⟨cur,?_,rfl,fun _ _=>rfl⟩;rw [setRow_self w b cur el (0,0) hb];simp [Builtin.clear_,run_underlying ht]
 have hzl:(Builtin.zeroCells z.cells n).size=n * inf.size:=by rw [size_zeroCells,hzs]
 have hone:∀ v∈(Builtin.zeroCells z.cells n).toList,v.oneCell'=true:=by
  intro v hv;simp only [Builtin.zeroCells,Array.toList_map,List.mem_map] at hv;obtain ⟨i,hi',rfl⟩:=hv;have hi2:i<n * z.cells.size:=by simpa using hi'
  have hp:0<z.cells.size:=by
   rcases Nat.eq_zero_or_pos z.cells.size with q|q
   ·rw [q] at hi2;simp at hi2
   exact q
  have hlt:=Nat.mod_lt i hp;have:z.cells[i % z.cells.size]!∈z.cells.toList:=by
   rw [getElem!_pos z.cells _ hlt];exact Array.mem_toList_iff.2 (Array.getElem_mem hlt)
  exact hz1 _ this
 have hst:=run_storeCells_at P b x el (Builtin.zeroCells z.cells n).toList 0 cur w hb (by simpa [hzl] using hs) hone;simp only [Nat.add_zero,Array.length_toList,hzl] at hst;have hne:∀ k,n=k+1→True:=fun _ _=>trivial;obtain ⟨k,rfl⟩:∃ k,n=k+1:=⟨n - 1,by omega⟩;refine ⟨_,?_,Q4J cur x (Builtin.zeroCells z.cells (k+1)) (by omega),fun q hq=>?_⟩
 ·rw [hzl];simp [Builtin.clear_,run_underlying ht,zeroValue,typeInfo,hi,hz,hst]
 rw [Q3U cur x (Builtin.zeroCells z.cells (k+1)) (by omega),if_neg (by omega)]
theorem IsOp.clear {ops:Array Oper} {i x:Nat} {d:Option Nat} {t et:TypeId} (h:IsOp ops i (.call ⟨.builtin .clear,#[.tmp x],#[t]⟩) d) {K:Act→World→Prop} {a:Act} {w:World} (ht:elm P t=some et) {ty:Tyi} (hty:tyi P et=some ty)
  {b xo n c:Nat} {cur:Array Value} {el:TypeId} (hx:a.tmps.getD x undef = .slice (some ⟨b,xo,none⟩) n c) (hb:w.heap[b]? = some (.cells cur el (0,0))) (hs:xo+n * ty.sz≤cur.size)
  (hk:∀ cur':Array Value,cur'.size=cur.size→(∀ q,q<xo→cur'[q]? = cur[q]?)→K (a.put d (.tuple #[])) (w.setRow b cur')):Go.Vc.wpOp P ops i K a w:=by
 have hu:=Q1I ht;obtain ⟨inf,d0,z,h1,h2,h3,h4,h5,h6,_⟩:=Q1n hty;have hv:a.eval (.tmp x) = .slice (some ⟨b,xo,none⟩) n c:=hx;have h4':ty.sz=inf.size:=by rw [h4]
 obtain ⟨cur',e1,e2,e3⟩:=run_clear (P:=P) (ty:=0) hu h1 h3 h6 (fun v hv=>Q3L (h5 v hv)) (c:=c) hb (by rw [← h4'];exact hs);have e1':∀ ty:TypeId,(Builtin.clear_ #[t] ty #[.slice (some ⟨b,xo,none⟩) n c]).run P w = .ok (.tuple #[]) (w.setRow b cur'):=fun ty=>e1;refine h.val (fun o ho=>?_) (hk cur' e2 e3);simp [execOp,ho,resolve,invoke,builtin,hv,e1']
theorem IsOp.append {ops:Array Oper} {i x y:Nat} {d:Option Nat} {t et:TypeId} (h:IsOp ops i (.call ⟨.builtin .append,#[.tmp x,.tmp y],#[t,t]⟩) d) {K:Act→World→Prop} {a:Act} {w:World} (ht:elm P t=some et) {ty:Tyi} (hty:tyi P et=some ty) (hpos:0<ty.sz)
  {b m cap:Nat} {cur:Array Value} {el:TypeId} (hx:a.tmps.getD x undef = .slice (some ⟨b,0,none⟩) m cap) (hb:w.heap[b]? = some (.cells cur el (0,0))) (hs:cap * ty.sz≤cur.size) {ad:Option Addr} {nn cx:Nat} (hy:a.tmps.getD y undef = .slice ad nn cx)
  {news:List Value} (hnl:news.length=nn * ty.sz) (hnews:∀ q u,news[q]? = some u→∃ b x,ad=some ⟨b,x,none⟩∧w.cell? ⟨b,x+q,none⟩=some u) (h1:∀ u∈news,one u) (hroom:m+nn≤cap)
  (hk:∀ cur':Array Value,cur'.size=cur.size→(∀ q,q<m * ty.sz→cur'[q]? = cur[q]?)→(∀ q,q<nn * ty.sz→cur'[m * ty.sz+q]? = news[q]?)→K (a.put d (.slice (some ⟨b,0,none⟩) (m+nn) cap)) (w.setRow b cur')):Go.Vc.wpOp P ops i K a w:=by
 have hu:=Q1I ht;obtain ⟨inf,d0,z,g1,g2,g3,g4,g5,g6,_⟩:=Q1n hty;have hv:a.eval (.tmp x) = .slice (some ⟨b,0,none⟩) m cap:=hx;have hv2:a.eval (.tmp y) = .slice ad nn cx:=hy;have h4':ty.sz=inf.size:=by rw [g4]
 rw [h4'] at hs hnl hk hpos;obtain ⟨o,q1,q2,q3,q4⟩:=h;obtain ⟨cur',e1,e2,e3,e4⟩:=Q7q (P:=P) (ty:=o.type) hu g1 g3 hb hs (cx:=cx) hnl hpos hnews h1 hroom;subst q3;refine Qad q1 (by simp [Region.wanted,q4]) ?_ (hk cur' e2 e3 e4);simp [execOp,q2,resolve,invoke,builtin,hv,hv2,e1]
end
end
section
attribute [local simp] Qh QF Qs
structure DelOps (ops5 ops6:Array Oper) (t:TypeId):Prop where
 n5:ops5.size=8
 back:Q2z ops5=true
 msk:Q3N ops5.toList []=[0,0,3,0,0,24,63,127]
 p0:IsOp ops5 0 (.move (.tmp 0)) (some 20)
 p1:IsOp ops5 1 (.move (.tmp 1)) (some 21)
 p2:IsOp ops5 2 (.slice t (.tmp 20) none (some (.tmp 21)) none) (some 22)
 p3:IsOp ops5 3 (.move (.tmp 0)) (some 23)
 p4:IsOp ops5 4 (.move (.tmp 2)) (some 24)
 p5:IsOp ops5 5 (.slice t (.tmp 23) (some (.tmp 24)) none none) (some 25)
 p6:IsOp ops5 6 (.call ⟨.builtin .append,#[.tmp 22,.tmp 25],#[t,t]⟩) (some 26)
 p7:IsOp ops5 7 (.assign (.tmp 26)) (some 0)
 n6:ops6.size=6
 q0:IsOp ops6 0 (.move (.tmp 0)) (some 27)
 q1:IsOp ops6 1 (.move (.tmp 0)) (some 28)
 q2:IsOp ops6 2 (.call ⟨.builtin .len,#[.tmp 28],#[t]⟩) (some 29)
 q3:IsOp ops6 3 (.move (.tmp 7)) (some 30)
 q4:IsOp ops6 4 (.slice t (.tmp 27) (some (.tmp 29)) (some (.tmp 30)) none) (some 31)
 q5:IsOp ops6 5 (.call ⟨.builtin .clear,#[.tmp 31],#[t]⟩) none
structure DC where
 C:Ctx
 R:Nat→Prop
 N:Nat
 p:Nat
 n:Nat
 sz:Nat
 b:Nat
 cap:Nat
 o:Nat→Option (List Nat)
 ρ:Nat→Option Bk
 es:List (List AV)
 i:Nat
 j:Nat
 c:Nat
def DC.m (D:DC):Nat:=D.es.length
def DC.es' (D:DC):List (List AV):=D.es.take D.i++D.es.drop D.j
def DC.m' (D:DC):Nat:=D.i+(D.m - D.j)
def DC.V (D:DC) (k:Nat):Value:=.slice (some ⟨D.b,0,none⟩) k D.c
def DC.ints (D:DC):List (Nat × AV):=[(1,.val (.int .i64 D.i)),(2,.val (.int .i64 D.j)),(7,.val (.int .i64 D.m))]
def DC.A (D:DC):List (Nat × AV):=(0,.own D.p 0 D.m) :: D.ints
def DC.Cc (D:DC):List (Nat × AV):=(0,.own D.p 0 D.m') :: D.ints
def DC.Dr (D:DC) (s:List (Nat × AV)) (es:List (List AV)) (a:Act) (w:World):Prop:=DR D.C D.R D.N D.p D.n D.sz D.b D.cap D.o D.ρ s es a w
def DC.EV (D:DC) (k:Nat) (v:Value):Prop:=match k with
 | 0=>v=D.V D.m
 | 1=>v = .int .i64 D.i
 | 2=>v=D.V D.i
 | 3=>v=D.V D.m
 | 4=>v = .int .i64 D.j
 | 5=>∃ ad cx,v = .slice ad (D.m - D.j) cx∧(D.m - D.j ≠ 0→ad=some ⟨D.b,D.j * D.sz,none⟩)
 | 6=>v=D.V D.m'
 | _=>True
structure DC.ok (D:DC):Prop where
 ij:D.i<D.j
 jm:D.j≤D.m
 mc:D.m≤D.c
 cc:D.c≤D.cap
 N:32≤D.N
 sz:0<D.sz
structure DI (D:DC) (L:Nat→Bool) (a:Act) (w:World):Prop where
 drA:L 6=false→D.Dr D.A D.es a w
 drB:L 6=true→L 7=false→D.Dr D.ints D.es' a w
 drC:L 7=true→D.Dr D.Cc D.es' a w
 e0:L 7=false→a.tmps.getD 0 undef=D.V D.m
 e7:L 7=true→a.tmps.getD 0 undef=D.V D.m'
 ev:∀ k,k<7→L k=true→D.EV k (a.tmps.getD (20+k) undef)
theorem pgD {a:Act} {N d t:Nat} {v:Value} (hs:a.tmps.size=N) (hd:d<N):(a.put (some d) v).tmps.getD t undef=if d=t then v else a.tmps.getD t undef:=by
 rw [put_get a (some d) v t (fun x hx=>by cases hx;rw [hs];exact hd)]
 by_cases h:d=t
 ·subst h;simp
 rw [if_neg h,if_neg (fun q=>h (zC q))]
theorem DI.put {D:DC} (hD:D.ok) {L:Nat→Bool} {a:Act} {w:World} (h:DI D L a w) {k:Nat} (hk:k<6) (h6:L 6=false) (h7:L 7=false) {v:Value} (hv:D.EV k v):DI D (upL L k) (a.put (some (20+k)) v) w:=by
 have hA:=h.drA h6;have hN:=hD.N;have u:∀ x,x ≠ k→upL L k x=L x:=fun x hx=>by simp [upL,hx]
 have u6:=u 6 (by omega);have u7:=u 7 (by omega);have pg:∀ t,(a.put (some (20+k)) v).tmps.getD t undef=if 20+k=t then v else a.tmps.getD t undef:=fun t=>pgD hA.size (by omega);refine ⟨fun _=>hA.putB (by omega) ?_,fun q=>?_,fun q=>?_,fun _=>?_,fun q=>?_,fun x hx q=>?_⟩
 ·simp only [DC.A,DC.ints,look];rw [if_neg (by omega),if_neg (by omega),if_neg (by omega),if_neg (by omega)]
 ·rw [u6,h6] at q;cases q
 ·rw [u7,h7] at q;cases q
 ·rw [pg,if_neg (by omega)];exact h.e0 h7
 ·rw [u7,h7] at q;cases q
 rw [pg]
 by_cases e:x=k
 ·subst e;rw [if_pos rfl];exact hv
 rw [if_neg (by omega)];rw [u x e] at q;exact h.ev x hx q
section
variable {P:Program}
end
end
section
attribute [local simp] Qh QF Qs
structure Sl3Ops (ops:Array Oper) (t:TypeId):Prop where
 n:ops.size=6
 p0:IsOp ops 0 (.move (.tmp 0)) (some 8)
 p1:IsOp ops 1 (.move (.tmp 1)) (some 9)
 p2:IsOp ops 2 (.move (.tmp 2)) (some 10)
 p3:IsOp ops 3 (.move (.tmp 0)) (some 11)
 p4:IsOp ops 4 (.call ⟨.builtin .len,#[.tmp 11],#[t]⟩) (some 12)
 p5:IsOp ops 5 (.slice t (.tmp 8) (some (.tmp 9)) (some (.tmp 10)) (some (.tmp 12))) (some 13)
section
variable {P:Program}
end
end
section
attribute [local simp] Qh QF Qs
theorem Contract.toF {P:Program} {f:Nat} {args az:List AV} (hc:Contract P f args (.agg az)):FContract P false f args (.agg az):=by
 refine ⟨hc.enters,fun w R vals hR hsz hx=>?_⟩;refine (hc.calls w R vals hR hsz hx).mono fun e w' ⟨v,o,he,hb,ho,hres⟩=>?_;refine ⟨v,fun b=>∃ L,o b=some L,he,hb,fun b ⟨L,hL⟩=>⟨(ho b L hL).2,.inr (ho b L hL).1⟩,?_⟩;obtain ⟨cs,rfl,hl⟩:∃ cs:Array Value,v = .agg cs∧cs.size=az.length:=hres.sh;have hk:∀ k,k<az.length→TRel w' (fun _=>False) o [k] (cs.getD k undef) (az.getD k .bot):=by
  intro k hk;have h:=hres.cell k (by simpa [flat,AV.cells] using hk);have e1:(Q2a (.agg cs)).getD k undef=cs.getD k undef:=by
   simp [Q2a,Value.cells,qB]
  have e2:(flat (.agg az)).getD k .bot=az.getD k .bot:=rfl;rw [e1,e2] at h;exact h
 exact .agg hl (fun k h=>(hk k h).one) fun k h=>.r ((hk k h).pure fun b hb=>hb.resolve_left id)
theorem Wk.frz {F:Fx} {st st':St} (hW:∀ b,¬ F.C.wrb b) (fz:List (Nat × List AV)) (m:List (Nat × Nat)) (hz:∀ q∈fz,look q.1 m=none∧look q.1 st.h=some (.mix q.2.length [q.2])∧∀ c∈q.2,c.ro=true)
  (h:(m.map Prod.fst).Nodup∧(m.map Prod.snd).Nodup∧(∀ id,id<F.pins→look id m=some id)∧(∀ p∈m,p.2<st'.n)∧(∀ p∈st'.h,p.1<st'.n)∧(∀ p∈st'.s,p.2=rl m (st.get p.1)∨p.2 = .bot∨∃ q∈fz,st.get p.1 = .adr q.1 0 0∧p.2 = .rptr q.2)∧∀ p∈st'.h,hhOk m st.h p.1 p.2):Wk F st st':=by
 obtain ⟨h1,h2,hpin,hn,hok,hs,hh⟩:=h;refine Wk.relabelZ fz (.inr hW) m (fun q hq=>⟨(hz q hq).1,(hz q hq).2.1,fun c hc {_ _ _ _} hx=>hx.toR ((hz q hq).2.2 c hc)⟩) h1 h2 (Q9X h1 h2 hpin hn).1 (Q9X h1 h2 hpin hn).2 hn hok hs fun p hp=>?_;have:=hh p hp;unfold hhOk at this;obtain ⟨e,he,hr⟩:=Option.bind_eq_some_iff.1 this;obtain ⟨i,hi,hl⟩:=Option.bind_eq_some_iff.1 he;exact ⟨i,e,Q71 h1 hi,hl,hr⟩
end
section
attribute [local simp] Qh QF Qs
inductive PreL:List AV→List AV→Prop
 | nil:PreL [] []
 | eq {a az bs}:PreL az bs→PreL (a :: az) (a :: bs)
 | pre {xs cs az bs}:xs.take cs.length=cs→PreL az bs→PreL (.rptr xs :: az) (.rptr cs :: bs)
 | nl {id u sz az bs}:PreL az bs→PreL (.own id 0 0 :: az) (.lst u sz [] :: bs)
theorem PreL.at {az bs:List AV} (h:PreL az bs):az.length=bs.length∧∀ k,k<az.length→∀ {w:World} {R:Nat→Prop} {ρ:Nat→Option Bk} {v:Value},XRel w R ρ v (az.getD k .bot)→XRel w R ρ v (bs.getD k .bot):=by
 induction h with
 | nil=>exact ⟨rfl,fun k hk=>by simp at hk⟩
 | eq _ ih =>
  refine ⟨by simp [ih.1],fun k hk=>?_⟩;cases k with
  | zero=>intro w R ρ v hx;exact hx
  | succ k=>intro w R ρ v hx;exact ih.2 k (by simpa using hk) hx
 | @pre xs cs az bs e _ ih =>
  refine ⟨by simp [ih.1],fun k hk=>?_⟩;cases k with
  | succ k=>intro w R ρ v hx;exact ih.2 k (by simpa using hk) hx
  | zero =>
   intro w R ρ v hx;have hx':XRel w R ρ v (.rptr xs):=hx;obtain ⟨b,x,cur,el,fr,us,h1,h2,h3,h4,h5,h6⟩:=hx'.rptr_eq;have hl:cs.length≤xs.length:=by
    have:=congrArg List.length e;simp at this;omega
   subst h1;show XRel w R ρ _ (.rptr cs);refine .r (.rptr us h2 h3 (fun k hk=>h4 k (by omega)) (fun k hk=>h5 k (by omega)) fun k hk=>?_);have:=h6 k (by omega);have e2:cs.getD k .bot=xs.getD k .bot:=by
    rw [← e];simp [qB,hk]
   rw [e2];exact this
 | @nl id u sz az bs _ ih =>
  refine ⟨by simp [ih.1],fun k hk=>?_⟩;cases k with
  | succ k=>intro w R ρ v hx;exact ih.2 k (by simpa using hk) hx
  | zero =>
   intro w R ρ v hx;have hx':XRel w R ρ v (.own id 0 0):=hx;show XRel w R ρ _ (.lst u sz []);rcases hx'.own_eq with ⟨_,_,_,e2,_,_⟩|⟨b,_,cap,cc,x,_,e2,e3,_,_,_,e7⟩
   ·rw [e2];exact .r (.nil (by simp))
   rw [e2];exact .r (.nil (by omega))
end
section
attribute [local simp] Qh QF Qs
structure RetFG (P:Program) (rvs:List ResultVar) (st:St) (rs:List AV):Prop where
 ex:∃ az,RGet P st rvs az∧PurL st.hp az rs
theorem RetFG.mk' {P:Program} {rvs:List ResultVar} {st:St} {az rs:List AV} (hg:RGet P st rvs az) (hp:PurL st.hp az rs):RetFG P rvs st rs:=⟨_,hg,hp⟩
def pko (p i k j:Nat) (o:Nat→Option (List Nat)):Nat→Option (List Nat):=fun b=>match o b with
 | some (x :: M)=>if x=p then (match M with
  | i' :: k' :: M'=>if i'=i∧k'=k then some (j :: M') else none
  | _=>none) else some (x :: M)
 | _=>none
theorem Q67 {p i k j:Nat} {o:Nat→Option (List Nat)} {b x:Nat} {M:List Nat} (h:o b=some (x :: M)) (hx:x ≠ p):pko p i k j o b=some (x :: M):=by
 simp only [pko,h,if_neg hx]
theorem pko_cell {p i k j:Nat} {o:Nat→Option (List Nat)} {b:Nat} {M:List Nat} (h:o b=some (p :: i :: k :: M)):pko p i k j o b=some (j :: M):=by
 simp [pko,h]
theorem pko_some {p i k j:Nat} {o:Nat→Option (List Nat)} {b:Nat} {L:List Nat} (h:pko p i k j o b=some L):∃ L',o b=some L':=by
 unfold pko at h;split at h
 ·rename_i hb;exact ⟨_,hb⟩
 cases h
theorem Wk.pick {F:Fx} {st st':St} {p j i k sz sz2:Nat} {es es2:List (List AV)} (hp:look p st.h=some (.row sz es)) (hj:look j st.h=some (.ali p i k sz2)) (hi:i<es.length) (hk:k<sz) (hc:(es.getD i []).getD k .bot = .lst true sz2 es2)
  (hs:∀ q∈st'.s,st.get q.1=q.2∨q.2 = .bot) (hn:st'.n=st.n) (hh:∀ q∈st'.h,q=(j,.row sz2 es2)∨(q.1 ≠ p∧look q.1 st.h=some q.2∧(match q.2 with|.ali _ _ _ _=>False|_=>True))):Wk F st st':=by
 intro a w ⟨R,hX,hr⟩;obtain ⟨r1,r2,r3,o,ρ,W,H,hx,hρ,hpn⟩:=hr;have hent:∀ id e,st'.hp id=some e→(id=j∧e = .row sz2 es2)∨(id ≠ p∧st.hp id=some e∧(match e with|.ali _ _ _ _=>False|_=>True)):=fun id e h=>by
  rcases hh (id,e) (Qq h) with q|q
  ·simp only [qC] at q;exact .inl q
  exact .inr q
 refine ⟨R,hX,r1,r2,fun id x hx'=>?_,pko p i k j o,ρ,⟨fun b hb=>⟨(W.R b hb).1,?_⟩,fun b L hb=>?_,W.os,W.tape,W.output,W.size,W.keep⟩,⟨fun id z xs bk h1 h2=>?_,fun id z xs bk h1 h2=>?_,fun id c i' k' z bk h1 h2=>?_,fun id kd xs bk h1 h2=>?_⟩,fun t=>?_,fun id kk hk'=>?_,fun id hid=>hpn.1 id hid,by rw [hn];exact hpn.2⟩
 ·rw [hn];rcases hent id x hx' with ⟨rfl,_⟩|⟨_,q,_⟩
  ·exact r3 _ _ hj
  exact r3 _ _ q
 ·have h3:o b=none:=(W.R b hb).2;simp only [pko,h3]
 ·obtain ⟨L',h3⟩:=pko_some hb;exact W.o b L' h3
 ·rcases hent id _ h1 with ⟨_,q⟩|⟨q1,q2,_⟩
  ·cases q
  rcases (H.mix id z xs bk q2 h2).ex0 with h0|⟨b,cur,el,us,cp,p1,p2,p3⟩
  ·exact ⟨.inl h0⟩
  exact .mk' ⟨b,cur,el,us,cp,p1,Q67 p2 q1,p3⟩
 ·rcases hent id _ h1 with ⟨rfl,q⟩|⟨q1,q2,_⟩
  ·simp only [Ent.row.injEq] at q;obtain ⟨rfl,rfl⟩:=q;obtain ⟨e1,bkc,e2,e3⟩:=H.ali id p i k z bk hj h2;obtain ⟨bc,cur,el,v,c1,c2,c3,c4⟩:=e3 1 sz es (by simp only [cont];rw [show st.hp p=some (.row sz es) from hp]) (by rw [show st.hp p=some (.row sz es) from hp];rfl) hi hk;obtain ⟨vp,t1,t2⟩:=H.row p sz es bkc hp e2;generalize hL:([p]:List Nat)=L at t1;cases t1 with
   | nil=>simp at hi
   | @own _ _ _ b cap cur' el' us u1 u2 u3 u4 u5 u6 u7 u8 u9 =>
    subst hL;cases t2;simp only [qA] at c1;subst c1;rw [u2] at c2;simp only [qA,Obj.cells.injEq] at c2;obtain ⟨rfl,_,_⟩:=c2;have hv:us i k=v:=by
     have:=u7 i k hi hk;rw [c3] at this;exact (zC this).symm
    have T:=u9 i k hi hk;rw [hc,hv] at T;refine ⟨v,T.mono [id] fun b' M hb'=>⟨?_,rfl⟩,?_⟩
    ·have:o b'=some (p :: i :: k :: M):=(by simpa using hb');simpa using pko_cell (j:=id) this
    rcases c4 with c4|c4
    ·exact c4
    exact (T.scn_lst c4).elim
  obtain ⟨v,t1,t2⟩:=H.row id z xs bk q2 h2;exact ⟨v,t1.same fun b M hb=>⟨by
   have h3:o b=some (id :: M):=(by simpa using hb);simpa using Q67 h3 q1,rfl⟩,t2⟩
 ·rcases hent id _ h1 with ⟨_,q⟩|⟨_,_,q⟩
  ·cases q
  exact q.elim
 ·rcases hent id _ h1 with ⟨_,q⟩|⟨q1,q2,_⟩
  ·cases q
  exact (H.map id kd xs bk q2 h2).move (fun b hb=>⟨hb,rfl⟩) fun b M p2=>⟨Q67 p2 q1,rfl⟩
 ·cases hl:look t st'.s with
  | none=>simp only [St.get,hl,Option.getD_none];exact .bot
  | some v =>
   simp only [St.get,hl,qY];rcases hs _ (Qq hl) with h|h
   ·simp only at h;rw [← h];exact hx t
   simp only at h;rw [h];exact .bot
 rw [hn];exact hρ id kk hk'
end
section
attribute [local simp] Qh QF Qs
def pkt (p i k j:Nat) (o:Nat→Option (List Nat)):Nat→Option (List Nat):=fun b=>match o b with
 | some (x :: M)=>if x=p then (match M with
  | []=>some [p]
  | i' :: k' :: M'=>if i'=i∧k'=k then some (j :: M') else none
  | _=>none) else some (x :: M)
 | _=>none
theorem Q68 {p i k j:Nat} {o:Nat→Option (List Nat)} {b x:Nat} {M:List Nat} (h:o b=some (x :: M)) (hx:x ≠ p):pkt p i k j o b=some (x :: M):=by
 simp only [pkt,h,if_neg hx]
theorem pkt_cell {p i k j:Nat} {o:Nat→Option (List Nat)} {b:Nat} {M:List Nat} (h:o b=some (p :: i :: k :: M)):pkt p i k j o b=some (j :: M):=by
 simp [pkt,h]
theorem pkt_root {p i k j:Nat} {o:Nat→Option (List Nat)} {b:Nat} (h:o b=some [p]):pkt p i k j o b=some [p]:=by
 simp [pkt,h]
theorem pkt_some {p i k j:Nat} {o:Nat→Option (List Nat)} {b:Nat} {L:List Nat} (h:pkt p i k j o b=some L):∃ L',o b=some L':=by
 unfold pkt at h;split at h
 ·rename_i hb;exact ⟨_,hb⟩
 cases h
theorem Wk.take {F:Fx} {st st':St} {p j i k sz sz2:Nat} {es es2 es':List (List AV)} (hp:look p st.h=some (.row sz es)) (hj:look j st.h=some (.ali p i k sz2)) (hpj:p ≠ j) (hi:i<es.length) (hk:k<sz) (hc:(es.getD i []).getD k .bot = .lst true sz2 es2)
  (hl:es'.length=es.length) (hz:∀ i,i<es.length→(es'.getD i []).length=sz) (hb:∀ i k,(es'.getD i []).getD k .bot = .bot)
  (hs:∀ q∈st'.s,st.get q.1=q.2∨q.2 = .bot) (hn:st'.n=st.n) (hh:∀ q∈st'.h,q=(j,.row sz2 es2)∨q=(p,.mix sz es')∨(q.1 ≠ p∧look q.1 st.h=some q.2∧(match q.2 with|.ali _ _ _ _=>False|_=>True))):Wk F st st':=by
 intro a w ⟨R,hX,hr⟩;obtain ⟨r1,r2,r3,o,ρ,W,H,hx,hρ,hpn⟩:=hr;have hent:∀ id e,st'.hp id=some e→(id=j∧e = .row sz2 es2)∨(id=p∧e = .mix sz es')∨(id ≠ p∧st.hp id=some e∧(match e with|.ali _ _ _ _=>False|_=>True)):=fun id e h=>by
  rcases hh (id,e) (Qq h) with q|q|q
  ·simp only [qC] at q;exact .inl q
  ·simp only [qC] at q;exact .inr (.inl q)
  exact .inr (.inr q)
 refine ⟨R,hX,r1,r2,fun id x hx'=>?_,pkt p i k j o,ρ,⟨fun b hb=>⟨(W.R b hb).1,?_⟩,fun b L hb=>?_,W.os,W.tape,W.output,W.size,W.keep⟩,⟨fun id z xs bk h1 h2=>?_,fun id z xs bk h1 h2=>?_,fun id c i' k' z bk h1 h2=>?_,fun id kd xs bk h1 h2=>?_⟩,fun t=>?_,fun id kk hk'=>?_,fun id hid=>hpn.1 id hid,by rw [hn];exact hpn.2⟩
 ·rw [hn];rcases hent id x hx' with ⟨rfl,_⟩|⟨rfl,_⟩|⟨_,q,_⟩
  ·exact r3 _ _ hj
  ·exact r3 _ _ hp
  exact r3 _ _ q
 ·have h3:o b=none:=(W.R b hb).2;simp only [pkt,h3]
 ·obtain ⟨L',h3⟩:=pkt_some hb;exact W.o b L' h3
 ·rcases hent id _ h1 with ⟨_,q⟩|⟨rfl,q⟩|⟨q1,q2,_⟩
  ·cases q
  ·simp only [Ent.mix.injEq] at q;obtain ⟨rfl,rfl⟩:=q;obtain ⟨vp,t1,t2⟩:=H.row id z es bk hp h2;generalize hL:([id]:List Nat)=L at t1;cases t1 with
   | nil=>simp at hi
   | @own _ _ _ b cap cur' el' us u1 u2 u3 u4 u5 u6 u7 u8 u9 =>
    subst hL;cases t2;exact .mk' ⟨b,cur',el',us,cap,rfl,pkt_root u1,u2,u3,by omega,u5,fun i hi=>hz i (by omega),fun i k hi hk=>u7 i k (by omega) hk,fun i k hi hk=>u8 i k (by omega) hk,fun i k hi hk=>by rw [hb i k];exact .bot⟩
  rcases (H.mix id z xs bk q2 h2).ex0 with h0|⟨b,cur,el,us,cp,p1,p2,p3⟩
  ·exact ⟨.inl h0⟩
  exact .mk' ⟨b,cur,el,us,cp,p1,Q68 p2 q1,p3⟩
 ·rcases hent id _ h1 with ⟨rfl,q⟩|⟨_,q⟩|⟨q1,q2,_⟩
  ·simp only [Ent.row.injEq] at q;obtain ⟨rfl,rfl⟩:=q;obtain ⟨e1,bkc,e2,e3⟩:=H.ali id p i k z bk hj h2;obtain ⟨bc,cur,el,v,c1,c2,c3,c4⟩:=e3 1 sz es (by simp only [cont];rw [show st.hp p=some (.row sz es) from hp]) (by rw [show st.hp p=some (.row sz es) from hp];rfl) hi hk;obtain ⟨vp,t1,t2⟩:=H.row p sz es bkc hp e2;generalize hL:([p]:List Nat)=L at t1;cases t1 with
   | nil=>simp at hi
   | @own _ _ _ b cap cur' el' us u1 u2 u3 u4 u5 u6 u7 u8 u9 =>
    subst hL;cases t2;simp only [qA] at c1;subst c1;rw [u2] at c2;simp only [qA,Obj.cells.injEq] at c2;obtain ⟨rfl,_,_⟩:=c2;have hv:us i k=v:=by
     have:=u7 i k hi hk;rw [c3] at this;exact (zC this).symm
    have T:=u9 i k hi hk;rw [hc,hv] at T;refine ⟨v,T.mono [id] fun b' M hb'=>⟨?_,rfl⟩,?_⟩
    ·have:o b'=some (p :: i :: k :: M):=(by simpa using hb');simpa using pkt_cell (j:=id) this
    rcases c4 with c4|c4
    ·exact c4
    exact (T.scn_lst c4).elim
  ·cases q
  obtain ⟨v,t1,t2⟩:=H.row id z xs bk q2 h2;exact ⟨v,t1.same fun b M hb=>⟨by
   have h3:o b=some (id :: M):=(by simpa using hb);simpa using Q68 h3 q1,rfl⟩,t2⟩
 ·rcases hent id _ h1 with ⟨_,q⟩|⟨_,q⟩|⟨_,_,q⟩
  ·cases q
  ·cases q
  exact q.elim
 ·rcases hent id _ h1 with ⟨_,q⟩|⟨_,q⟩|⟨q1,q2,_⟩
  ·cases q
  ·cases q
  exact (H.map id kd xs bk q2 h2).move (fun b hb=>⟨hb,rfl⟩) fun b M p2=>⟨Q68 p2 q1,rfl⟩
 ·cases hl:look t st'.s with
  | none=>simp only [St.get,hl,Option.getD_none];exact .bot
  | some v =>
   simp only [St.get,hl,qY];rcases hs _ (Qq hl) with h|h
   ·simp only at h;rw [← h];exact hx t
   simp only at h;rw [h];exact .bot
 rw [hn];exact hρ id kk hk'
end
section
attribute [local simp] Qh QF Qs
theorem WF.labels {C:Ctx} {w:World} {g:Gh} (W:WF C w g) {o':Nat→Option (List Nat)} {ρ':Nat→Option Bk} (h0:∀ b,g.o b=none→o' b=none) (h1:∀ b L,o' b=some L→∃ L',g.o b=some L'):WF C w ⟨g.R,o',ρ'⟩ :=
 ⟨fun b hb=>⟨(W.R b hb).1,h0 b (W.R b hb).2⟩,fun b L hb=>by obtain ⟨L',h2⟩:=h1 b L hb;exact W.o b L' h2,W.os,W.tape,W.output,W.size,W.keep⟩
def Q3M (es:List (List AV)) (i k:Nat):List (List AV):=es.set i ((es.getD i []).set k .bot)
theorem Q1q (es:List (List AV)) (i k:Nat):(Q3M es i k).length=es.length:=by simp [Q3M]
theorem holed_row (es:List (List AV)) (i k j:Nat):((Q3M es i k).getD j []).length=(es.getD j []).length:=by
 unfold Q3M
 by_cases h:i=j
 ·subst h
  by_cases hi:i<es.length
  ·simp [qB,hi]
  simp [qB,hi]
 simp [qB,h]
theorem Q6H (es:List (List AV)) {i k i' k':Nat} (h:(i',k') ≠ (i,k)):((Q3M es i k).getD i' []).getD k' .bot=(es.getD i' []).getD k' .bot:=by
 unfold Q3M
 by_cases e:i=i'
 ·subst e;have hk:k ≠ k':=fun q=>h (by rw [q])
  by_cases hi:i<es.length
  ·simp [qB,hi,hk]
  simp [qB,hi]
 simp [qB,e]
theorem Q7P (es:List (List AV)) (i k:Nat):((Q3M es i k).getD i []).getD k .bot = .bot:=by
 unfold Q3M
 by_cases hi:i<es.length
 ·by_cases hk:k<(es.getD i []).length
  ·simp only [qB,qF hi,qY] at hk;simp [qB,hi,hk]
  simp only [qB,qF hi,qY] at hk;simp [qB,hi,hk]
 simp [qB,hi]
def tkl (p i k j:Nat) (o:Nat→Option (List Nat)):Nat→Option (List Nat):=fun b=>match o b with
 | some (x :: i' :: k' :: M)=>if x=p∧i'=i∧k'=k then some (j :: M) else some (x :: i' :: k' :: M)
 | y=>y
theorem Q6j {p i k j:Nat} {o:Nat→Option (List Nat)} {b x:Nat} {M:List Nat} (h:o b=some (x :: M)) (hx:x ≠ p):tkl p i k j o b=some (x :: M):=by
 unfold tkl;rw [h];cases M with
 | nil=>rfl
 | cons y M =>
  cases M with
  | nil=>rfl
  | cons z M=>simp [hx]
theorem tkl_root {p i k j:Nat} {o:Nat→Option (List Nat)} {b:Nat} (h:o b=some [p]):tkl p i k j o b=some [p]:=by simp [tkl,h]
theorem tkl_cell {p i k j:Nat} {o:Nat→Option (List Nat)} {b:Nat} {M:List Nat} (h:o b=some (p :: i :: k :: M)):tkl p i k j o b=some (j :: M):=by simp [tkl,h]
theorem tkl_rest {p i k j i' k':Nat} {o:Nat→Option (List Nat)} {b:Nat} {M:List Nat} (h:o b=some (p :: i' :: k' :: M)) (hne:(i',k') ≠ (i,k)):tkl p i k j o b=some (p :: i' :: k' :: M):=by
 simp only [tkl,h];rw [if_neg]
 rintro ⟨_,rfl,rfl⟩
 exact hne rfl
theorem Qa8 {p i k j:Nat} {o:Nat→Option (List Nat)} {b:Nat} (h:o b=none):tkl p i k j o b=none:=by simp [tkl,h]
theorem tkl_some {p i k j:Nat} {o:Nat→Option (List Nat)} {b:Nat} {L:List Nat} (h:tkl p i k j o b=some L):∃ L',o b=some L':=by
 cases hb:o b with
 | none=>rw [Qa8 hb] at h;cases h
 | some L'=>exact ⟨L',rfl⟩
def Q1x (h:HP) (p i k j sz sz2:Nat) (es es2:List (List AV)):HP:=fun c=>if c=p then some (.row sz (Q3M es i k)) else if c=j then some (.row sz2 es2) else h c
theorem Q7N {h:HP} {p i k j sz sz2:Nat} {es es2:List (List AV)} (hp:h p=some (.row sz es)) (hj:h j=some (.ali p i k sz2)) (c:Nat):Qr (Q1x h p i k j sz sz2 es es2 c)=Qr (h c):=by
 unfold Q1x;split
 ·rename_i e;subst e;rw [hp];rfl
 split
 ·rename_i e;subst e;rw [hj];rfl
 rfl
theorem cont_take {h:HP} {p i k j sz sz2:Nat} {es es2:List (List AV)} (hp:h p=some (.row sz es)) (hj:h j=some (.ali p i k sz2)) (hpj:p ≠ j) (hc:(es.getD i []).getD k .bot = .lst true sz2 es2) :
  ∀ (d c:Nat) (q:Nat × List (List AV)),cont (Q1x h p i k j sz sz2 es es2) d c=some q→(c=p∧q=(sz,Q3M es i k))∨∃ d',cont h d' c=some q:=by
 intro d
 induction d with
 | zero=>intro c q hx;simp [cont] at hx
 | succ d ih =>
  intro c q hx
  by_cases hcp:c=p
  ·subst hcp;refine .inl ⟨rfl,?_⟩;simpa [cont,Q1x,eq_comm] using hx
  by_cases hcj:c=j
  ·subst hcj;have e1:Q1x h p i k c sz sz2 es es2 c=some (.row sz2 es2):=(by simp [Q1x,hcp]);unfold cont at hx;rw [e1] at hx;simp only [qA] at hx;subst hx;refine .inr ⟨2,?_⟩;have h1:cont h 1 p=some (sz,es):=(by simp [cont,hp]);have h2:Qr (h p)=false:=(by rw [hp];rfl);rw [cont,hj];simp only [h1,h2,Bool.false_eq_true,if_false,hc,if_true]
  have e1:Q1x h p i k j sz sz2 es es2 c=h c:=by simp [Q1x,hcp,hcj]
  unfold cont at hx;rw [e1] at hx;cases he:h c with
  | none=>simp [he] at hx
  | some x =>
   cases x with
   | mix=>exact .inr ⟨1,by simpa [cont,he] using hx⟩
   | row=>exact .inr ⟨1,by simpa [cont,he] using hx⟩
   | mapE=>simp [he] at hx
   | ali c2 i2 k2 s2 =>
    simp only [he] at hx;split at hx
    ·cases hx
    rename_i hm;rw [Q7N hp hj] at hm;cases hcc:cont (Q1x h p i k j sz sz2 es es2) d c2 with
    | none=>simp [hcc] at hx
    | some q2 =>
     rw [hcc] at hx;rcases ih c2 q2 hcc with ⟨rfl,rfl⟩|⟨d',i1⟩
     ·by_cases hik:(i2,k2)=(i,k)
      ·cases hik;simp only [Q7P] at hx;cases hx
      refine .inr ⟨2,?_⟩;simp only [Q6H es hik] at hx;have h1:cont h 1 c2=some (sz,es):=(by simp [cont,hp]);rw [cont,he];simp only [h1,if_neg hm];exact hx
     refine .inr ⟨d' + 1,?_⟩;unfold cont;rw [he];simp only;rw [if_neg hm,i1];exact hx
theorem HRel.takeA {C:Ctx} {w:World} {g:Gh} {h:HP} (W:WF C w g) (H:HRel w g h) {p i k j sz sz2:Nat} {es es2:List (List AV)} (hp:h p=some (.row sz es)) (hj:h j=some (.ali p i k sz2)) (hpj:p ≠ j) (hi:i<es.length) (hk:k<sz)
  (hc:(es.getD i []).getD k .bot = .lst true sz2 es2):WF C w ⟨g.R,tkl p i k j g.o,g.ρ⟩∧HRel w ⟨g.R,tkl p i k j g.o,g.ρ⟩ (Q1x h p i k j sz sz2 es es2):=by
 refine ⟨W.labels (fun b hb=>Qa8 hb) fun b L hb=>tkl_some hb,⟨fun id z xs bk he hb=>?_,fun id z xs bk he hb=>?_,fun id c i' k' z bk he hb=>?_,fun id kd xs bk he hb=>?_⟩⟩
 ·have hidp:id ≠ p:=by rintro rfl;simp [Q1x] at he
  have hidj:id ≠ j:=by rintro rfl;simp [Q1x,hidp] at he
  have he':h id=some (.mix z xs):=by simpa [Q1x,hidp,hidj] using he
  exact (H.mix id z xs bk he' hb).mono (fun _ _=>rfl) (fun _ _ h=>h) fun b hb=>⟨Q6j hb hidp,rfl⟩
 ·by_cases hidp:id=p
  ·subst hidp;have:z=sz∧xs=Q3M es i k:=(by simpa [Q1x,eq_comm] using he);obtain ⟨rfl,rfl⟩:=this;obtain ⟨vp,t1,t2⟩:=H.row id z es bk hp hb;refine ⟨vp,?_,t2⟩;generalize hL:([id]:List Nat)=L at t1;cases t1 with
   | nil=>simp at hi
   | @own _ _ _ b cap cur' el' us u1 u2 u3 u4 u5 u6 u7 u8 u9 =>
    subst hL;have:=TRel.own (w:=w) (R:=g.R) (o:=tkl id i k j g.o) (L:=[id]) (sz:=z) (es:=Q3M es i k) (b:=b) (cap:=cap) (cur:=cur') (e:=el') us (tkl_root u1) u2 u3 (by rw [Q1q];exact u4) u5
     (fun i' hi'=>by rw [Q1q] at hi';rw [holed_row];exact u6 i' hi') (fun i' k' hi' hk'=>by rw [Q1q] at hi';exact u7 i' k' hi' hk') (fun i' k' hi' hk'=>by rw [Q1q] at hi';exact u8 i' k' hi' hk')
     (fun i' k' hi' hk'=>by
      rw [Q1q] at hi'
      by_cases hik:(i',k')=(i,k)
      ·cases hik;rw [Q7P];exact .bot (u8 _ _ hi' hk')
      rw [Q6H es hik];refine (u9 i' k' hi' hk').mono [id,i',k'] fun b' M hb'=>⟨?_,rfl⟩;have:g.o b'=some (id :: i' :: k' :: M):=(by simpa using hb');simpa using tkl_rest (j:=j) this hik)
    rw [Q1q] at this;exact this
  by_cases hidj:id=j
  ·subst hidj;have:z=sz2∧xs=es2:=(by simpa [Q1x,hidp,eq_comm] using he);obtain ⟨rfl,rfl⟩:=this;obtain ⟨e1,bkc,e2,e3⟩:=H.ali id p i k z bk hj hb;obtain ⟨bc,cur,el,v,c1,c2,c3,c4⟩:=e3 1 sz es (by simp [cont,hp]) (by rw [hp];rfl) hi hk;obtain ⟨vp,t1,t2⟩:=H.row p sz es bkc hp e2;generalize hL:([p]:List Nat)=L at t1;cases t1 with
   | nil=>simp at hi
   | @own _ _ _ b cap cur' el' us u1 u2 u3 u4 u5 u6 u7 u8 u9 =>
    subst hL;cases t2;simp only [qA] at c1;subst c1;rw [u2] at c2;simp only [qA,Obj.cells.injEq] at c2;obtain ⟨rfl,_,_⟩:=c2;have hv:us i k=v:=by
     have:=u7 i k hi hk;rw [c3] at this;exact (zC this).symm
    have T:=u9 i k hi hk;rw [hc,hv] at T;refine ⟨v,T.mono [id] fun b' M hb'=>⟨?_,rfl⟩,?_⟩
    ·have:g.o b'=some (p :: i :: k :: M):=(by simpa using hb');simpa using tkl_cell (j:=id) this
    rcases c4 with c4|c4
    ·exact c4
    exact (T.scn_lst c4).elim
  have he':h id=some (.row z xs):=by simpa [Q1x,hidp,hidj] using he
  obtain ⟨v,t1,t2⟩:=H.row id z xs bk he' hb;exact ⟨v,t1.same fun b M hb=>⟨by
   have h3:g.o b=some (id :: M):=(by simpa using hb);simpa using Q6j h3 hidp,rfl⟩,t2⟩
 ·have hidp:id ≠ p:=by rintro rfl;simp [Q1x] at he
  have hidj:id ≠ j:=by rintro rfl;simp [Q1x,hidp] at he
  have he':h id=some (.ali c i' k' z):=by simpa [Q1x,hidp,hidj] using he
  obtain ⟨e1,bkc,e2,e3⟩:=H.ali id c i' k' z bk he' hb;refine ⟨e1,bkc,e2,fun d szc esc hcc hm hi' hk'=>?_⟩;rw [Q7N hp hj] at hm;rcases cont_take hp hj hpj hc d c _ hcc with ⟨rfl,q⟩|⟨d',q1⟩
  ·cases q;rw [Q1q] at hi';exact e3 1 _ es (by simp [cont,hp]) hm hi' hk'
  exact e3 d' szc esc q1 hm hi' hk'
 have hidp:id ≠ p:=by rintro rfl;simp [Q1x] at he
 have hidj:id ≠ j:=by rintro rfl;simp [Q1x,hidp] at he
 have he':h id=some (.mapE kd xs):=by simpa [Q1x,hidp,hidj] using he
 exact (H.map id kd xs bk he' hb).move (fun b hb=>⟨hb,rfl⟩) fun b M hb=>⟨Q6j hb hidp,rfl⟩
theorem Qam {h h':HP} {p i k j sz sz2:Nat} {es es2:List (List AV)} (hs:∀ id x,h id=some x→h' id=some x):∀ id x,Q1x h p i k j sz sz2 es es2 id=some x→Q1x h' p i k j sz sz2 es es2 id=some x:=by
 intro id x hx
 by_cases h0:id=p
 ·simpa [Q1x,h0] using hx
 by_cases h1:id=j
 ·simpa [Q1x,h0,h1] using hx
 have:h id=some x:=by simpa [Q1x,h0,h1] using hx
 simpa [Q1x,h0,h1] using hs _ _ this
open Classical in
theorem sem_apa {P:Program} {op:Op} {ev:Operand→AV} {h:HP} {n:Nat} {c:Prop} {e:Eff} {s x:Operand} {t:TypeId} {p j i k sz sz2:Nat} {es es2:List (List AV)} (ho:op = .call ⟨.builtin .append,#[s,x],#[t,t]⟩)
  (hj:h j=some (.ali p i k sz2)) (hp:h p=some (.row sz es)) (hpj:p ≠ j) (hi:i<es.length) (hk:k<sz) (hc:(es.getD i []).getD k .bot = .lst true sz2 es2) (hpn:p<n)
  (he:opF P op ev (Q1x h p i k j sz sz2 es es2) n=some (c,e)) (hcc:c) (hse:e.set=[]) (hpd:p ∉ e.del) (hjd:j∈e.del) (hf:e.fine n) :
  SemOp P op ev h n { v:=e.v,set:=[(p,.row sz (Q3M es i k))],del:=e.del,new:=e.new,cnt:=e.cnt }:=by
 subst ho;have up:∀ {g:Gh} {w:World} {a:Act} {h':HP},(∀ id x,h id=some x→h' id=some x)→(∀ y∈(Op.call ⟨.builtin .append,#[s,x],#[t,t]⟩).operands,XRel w g.R g.ρ (a.eval y) (ev y)) →
   ∃ ev':Operand→AV,(∀ y,XRel w g.R g.ρ (a.eval y) (ev' y))∧opF P (.call ⟨.builtin .append,#[s,x],#[t,t]⟩) ev' (Q1x h' p i k j sz sz2 es es2) n=some (c,e):=by
  intro g w a h' q2 q5;refine ⟨fun y=>if y=s∨y=x then ev y else .bot,fun y=>?_,?_⟩
  ·simp only;split
   ·rename_i hy;exact q5 y (by rcases hy with rfl|rfl<;>simp [Op.operands,Call.operands])
   exact .bot
  rw [← Q88 (ev:=ev) (fun y hy=>by
   have hy':y=s∨y=x:=(by simpa [Op.operands,Call.operands] using hy);exact (if_pos hy').symm)]
  exact opF_up (Qam q2) he
 refine ⟨by simp [Q1r],⟨hf.new,hf.nodup,hf.del,by simp [hpn]⟩,fun {C o a w g h'} q1 q2 q3 q4 q5 W H q6 q7=>?_⟩;obtain ⟨W1,H1⟩:=HRel.takeA W H (q2 _ _ hp) (q2 _ _ hj) hpj hi hk hc;have hjn:j<n:=hf.del j hjd;obtain ⟨ev',hev,he2⟩:=up (g:=g) (w:=w) (a:=a) q2 q5;have St:=Q9U (g:=⟨g.R,tkl p i k j g.o,g.ρ⟩) (a:=a) (ev:=ev') hev W1 H1 (e:=e) (c:=c) (n:=n) (fun p0 hp0=>by
  have h0:=(hf.new p0 hp0).1;have h1:p0.1 ≠ p:=by omega
  have h2:p0.1 ≠ j:=by omega
  simp only [Q1x,if_neg h1,if_neg h2];exact q6 p0 hp0) q7 (o:=o) (by rw [q1];exact he2) hcc
 have hh:happ e (Q1x h' p i k j sz sz2 es es2)=happ { v:=e.v,set:=[(p,.row sz (Q3M es i k))],del:=e.del,new:=e.new,cnt:=e.cnt } h':=by
  funext y
  simp only [happ,hse,look]
  by_cases h0:p=y
  ·subst h0;simp [hpd,Q1x]
  rw [if_neg h0];simp only
  by_cases h1:y=j
  ·subst h1;simp [hjd]
  simp [Q1x,Ne.symm h0,h1]
 intro K Q kk;refine St.step K Q fun v w' R' o' ρ' r1 r2 r3 r4 r5 r6 r7=>kk v w' R' o' ρ' r1 r2 ?_ r4 r5 r6 r7;rw [← hh];exact r3
theorem sem_apaE {P:Program} {op:Op} {ev:Operand→AV} {h:HP} {n:Nat} {s x:Operand} {t et:TypeId} {ty:Tyi} {p j i k sz sz2 m:Nat} {es es2 news es3:List (List AV)} {d2:List Nat} {c2:Prop}
  (ho:op = .call ⟨.builtin .append,#[s,x],#[t,t]⟩) (hel:elm P t=some et) (hty:tyi P et=some ty) (hsz:ty.sz=sz2) (h0:0<sz2) (hs:ev s = .own j 0 m) (hm:m=es2.length) (hj:h j=some (.ali p i k sz2)) (hp:h p=some (.row sz es))
  (hx:src (Q1x h p i k j sz sz2 es es2) sz2 (ev x)=some (c2,news,d2)) (hc2:c2) (hi:i<es.length) (hk:k<sz) (hc:(es.getD i []).getD k .bot = .lst true sz2 es2)
  (hb:es3.length * ty.bytes≤140737488355328) (hb':es3.length≤140737488355328) (hpn:p<n) (hnd:(n :: p :: j :: d2).Nodup) (hd:∀ y∈j :: d2,y<n) (he3:es2++news=es3) :
  SemOp P op ev h n { v:=.own n 0 es3.length,set:=[(p,.row sz (Q3M es i k))],del:=j :: d2,new:=[(n,.row sz2 es3)],cnt:=1 }:=by
 subst he3 hm;have hpj:p ≠ j:=by
  have:=(List.nodup_cons.1 hnd).2;simp only [List.nodup_cons,List.mem_cons,not_or] at this;exact this.1.1
 have hnd':(n :: ([j]++([]++d2))).Nodup:=by
  simp only [List.nodup_cons,List.mem_cons,not_or] at hnd ⊢;simp only [List.nil_append,List.singleton_append,List.mem_cons,not_or,List.nodup_cons];exact ⟨⟨hnd.1.2.1,hnd.1.2.2⟩,hnd.2.2⟩
 have hhj:Q1x h p i k j sz sz2 es es2 j=some (.row sz2 es2):=by simp [Q1x,Ne.symm hpj]
 have key:=sem_apa (P:=P) (ev:=ev) (n:=n) (c:=(es2.length≤es2.length)∧c2∧(es2.length+news.length) * ty.bytes≤140737488355328∧es2.length+news.length≤140737488355328∧0<ty.sz) (e:={ v:=.own n 0 (es2.length+news.length),del:=[j]++([]++d2),new:=[(n,.row ty.sz (es2++news))],cnt:=1 }) ho hj hp hpj hi hk hc hpn
  (by
   subst ho;simp only [opF,bltF,hel,if_true,hty,hs,Q2v];simp only [base,hhj,hsz,hx,if_true,hnd',List.take_length])
  (by simp only [List.length_append] at hb hb';exact ⟨qD _,hc2,hb,hb',by omega⟩) rfl (by
   simp only [List.nodup_cons,List.mem_cons,not_or] at hnd;simpa using hnd.2.1) (by simp) ⟨by simp,by simp,by simpa using hd,by simp⟩
 simpa [hsz] using key
theorem holed_set {es:List (List AV)} {i k:Nat} {b:AV} {es2:List (List AV)} (h:es.set i ((es.getD i []).set k b)=es2):(Q3M es i k).set i (((Q3M es i k).getD i []).set k b)=es2:=by
 rw [← h];unfold Q3M
 by_cases hi:i<es.length
 ·simp [qB,hi]
 simp [hi]
end
section
attribute [local simp] Qh QF Qs
attribute [simp] Q1q
theorem HRel.sub {w:World} {g:Gh} {h h2:HP} (H:HRel w g h) (hs:∀ id x,h2 id=some x→h id=some x):HRel w g h2:=by
 refine ⟨fun id sz es bk he hb=>H.mix id sz es bk (hs _ _ he) hb,fun id sz es bk he hb=>H.row id sz es bk (hs _ _ he) hb,fun id c i k sz bk he hb=>?_,fun id kd es bk he hb=>H.map id kd es bk (hs _ _ he) hb⟩;obtain ⟨e1,bkc,e2,e3⟩:=H.ali id c i k sz bk (hs _ _ he) hb;refine ⟨e1,bkc,e2,fun d szc esc hcc hm hi hk=>e3 d szc esc (Q1M hs hcc) ?_ hi hk⟩;cases hc:h2 c with
 | none =>
  cases d with
  | zero=>simp [cont] at hcc
  | succ d=>simp [cont,hc] at hcc
 | some x=>rw [hs _ _ hc,← hc];exact hm
end
section
attribute [local simp] Qh QF Qs
theorem HRel.beyond {w:World} {g:Gh} {h1 h2:HP} (H:HRel w g h1) (he:∀ id bk,g.ρ id=some bk→h2 id=h1 id):HRel w g h2:=by
 have hc:∀ (d c:Nat) (bk:Bk),g.ρ c=some bk→cont h2 d c=cont h1 d c:=by
  intro d
  induction d with
  | zero=>intro c bk _;rfl
  | succ d ih =>
   intro c bk hb;have e:=he c bk hb;unfold cont;rw [e];cases hx:h1 c with
   | none=>rfl
   | some x =>
    cases x with
    | ali c2 i k sz =>
     obtain ⟨_,bkc,e2,_⟩:=H.ali c c2 i k sz bk hx hb;simp only;rw [he c2 bkc e2,ih c2 bkc e2]
    | _=>rfl
 refine ⟨fun id sz es bk hx hb=>H.mix id sz es bk (by rw [← he id bk hb];exact hx) hb,fun id sz es bk hx hb=>H.row id sz es bk (by rw [← he id bk hb];exact hx) hb,fun id c i k sz bk hx hb=>?_,fun id kd es bk hx hb=>H.map id kd es bk (by rw [← he id bk hb];exact hx) hb⟩;obtain ⟨e1,bkc,e2,e3⟩:=H.ali id c i k sz bk (by rw [← he id bk hb];exact hx) hb;exact ⟨e1,bkc,e2,fun d szc esc hcc hm=>e3 d szc esc (by rw [← hc d c bkc e2];exact hcc) (by rw [← he c bkc e2];exact hm)⟩
def opl (p N:Nat) (o:Nat→Option (List Nat)):Nat→Option (List Nat):=fun b=>match o b with
 | some (x :: i :: k :: M)=>if x=p∧k=0 then some ((N+i) :: M) else some (x :: i :: k :: M)
 | y=>y
theorem Q66 {p N:Nat} {o:Nat→Option (List Nat)} {b x:Nat} {M:List Nat} (h:o b=some (x :: M)) (hx:x ≠ p):opl p N o b=some (x :: M):=by
 unfold opl;rw [h];cases M with
 | nil=>rfl
 | cons y M =>
  cases M with
  | nil=>rfl
  | cons z M=>simp [hx]
theorem opl_cell {p N i:Nat} {o:Nat→Option (List Nat)} {b:Nat} {M:List Nat} (h:o b=some (p :: i :: 0 :: M)):opl p N o b=some ((N+i) :: M):=by simp [opl,h]
theorem Q9W {p N:Nat} {o:Nat→Option (List Nat)} {b:Nat} (h:o b=none):opl p N o b=none:=by simp [opl,h]
theorem opl_some {p N:Nat} {o:Nat→Option (List Nat)} {b:Nat} {L:List Nat} (h:opl p N o b=some L):∃ L',o b=some L':=by
 cases hb:o b with
 | none=>rw [Q9W hb] at h;cases h
 | some L'=>exact ⟨L',rfl⟩
theorem HRel.opl {w:World} {g:Gh} {h:HP} {p:Nat} (N:Nat) (H:HRel w g h) (hp:h p=none):HRel w ⟨g.R,opl p N g.o,g.ρ⟩ h:=by
 have hne:∀ {id:Nat} {x:Ent},h id=some x→id ≠ p:=fun hx hq=>by rw [hq,hp] at hx;cases hx
 refine ⟨fun id sz es bk hx hb=>(H.mix id sz es bk hx hb).mono (fun _ _=>rfl) (fun _ _ h=>h) fun b h2=>⟨Q66 h2 (hne hx),rfl⟩,fun id sz es bk hx hb=>?_,fun id c i k sz bk hx hb=>H.ali id c i k sz bk hx hb,fun id kd es bk hx hb=>(H.map id kd es bk hx hb).move (fun b h2=>⟨h2,rfl⟩) fun b M h2=>⟨Q66 h2 (hne hx),rfl⟩⟩;obtain ⟨v,t1,t2⟩:=H.row id sz es bk hx hb;exact ⟨v,t1.same fun b M h2=>⟨by
  have h3:g.o b=some (id :: M):=by simpa using h2
  simpa using Q66 h3 (hne hx),rfl⟩,t2⟩
theorem Qax (N:Nat):∀ k,((zD k).map fun i=>N+i).Nodup:=by
 intro k;exact List.pairwise_map.2 (List.Pairwise.imp (fun {a b} h h2=>h (by omega)) (List.nodup_range (n:=k)))
open Classical in
theorem sem_apr {P:Program} {op:Op} {ev:Operand→AV} {h:HP} {n:Nat} {s x:Operand} {t et:TypeId} {ty:Tyi} {j p m mx:Nat} {es news es3:List (List AV)}
  (ho:op = .call ⟨.builtin .append,#[s,x],#[t,t]⟩) (hel:elm P t=some et) (hty:tyi P et=some ty) (hsz:ty.sz=1) (hs:ev s = .own j 0 m) (hm:m=es.length) (hj:h j=some (.row 1 es))
  (hx:ev x = .own p 0 mx) (hmx:mx=news.length) (hp:h p=some (.row 1 news)) (hb:es3.length * ty.bytes≤140737488355328) (hb':es3.length≤140737488355328) (hjp:j ≠ p) (hjn:j<n) (hpn:p<n) (he3:es++news=es3) :
  SemOp P op ev h n { v:=.own n 0 es3.length,del:=[j,p],new:=[(n,.row 1 es3)],cnt:=1 }:=by
 subst ho he3 hm hmx;refine ⟨by simp [Q1r],⟨by simp,by simp,by simp;omega,by simp⟩,fun {C o a w g h'} q1 q2 q3 q4 q5 W H q6 q7=>?_⟩
 let ev':Operand→AV:=fun y=>if y=s∨y=x then ev y else .bot
 have hev:∀ y,XRel w g.R g.ρ (a.eval y) (ev' y):=by
  intro y;simp only [ev'];split
  ·rename_i hy;exact q5 y (by rcases hy with rfl|rfl<;>simp [Op.operands,Call.operands])
  exact .bot
 have e1:ev' s = .own j 0 es.length:=by simp only [ev',true_or,if_true];exact hs
 have hxr:=q5 x (by simp [Op.operands,Call.operands]);rw [hx] at hxr
 let h2:HP:=fun id=>if id=p then none else if id≤n then h' id else none
 have hsub:∀ id y,h2 id=some y→h' id=some y:=by
  intro id y hy;simp only [h2] at hy;split at hy
  ·cases hy
  split at hy
  ·exact hy
  cases hy
 have H2:HRel w ⟨g.R,opl p (n+1) g.o,g.ρ⟩ h2:=(H.sub hsub).opl (n+1) (by simp [h2]);have W2:WF C w ⟨g.R,opl p (n+1) g.o,g.ρ⟩:=W.labels (fun b hb=>Q9W hb) fun b L hb=>opl_some hb;have hbase:base h2 ty.sz (ev' s)=some (es.length≤es.length,es,[j],[]):=by
  have hj2:h2 j=some (.row 1 es):=by
   simp only [h2,if_neg hjp,if_pos (Nat.le_of_lt hjn)];exact q2 _ _ hj
  rw [e1,hsz];simp only [base,hj2,if_true,List.take_length]
 have hsrc:∃ (ad:Option Addr) (cx:Nat) (us2:Nat→Nat→Value),a.eval x = .slice ad news.length cx∧(∀ j,j<news.length→(news.getD j []).length=1) ∧
   (∀ j k,j<news.length→k<1→∃ b x0,ad=some ⟨b,x0,none⟩∧w.cell? ⟨b,x0+(j * 1+k),none⟩=some (us2 j k))∧(∀ j k,j<news.length→k<1→one (us2 j k)) ∧
   ∀ j k,j<news.length→k<1→TRel w g.R g.o [p,j,k] (us2 j k) ((news.getD j []).getD k .bot):=by
  rcases hxr.own_eq with ⟨sz,cap,r1,r2,r3,r4⟩|⟨b,sz,cap,cc,x0,r1,r2,r3,r4,r5,r6,r7⟩
  ·have hn:news=[]:=qK r4;subst hn;exact ⟨none,0,fun _ _=>undef,r2,by simp,by simp,by simp,by simp⟩
  obtain ⟨v,t1,t2⟩:=H.row p 1 news _ (q2 _ _ hp) r1;have hx0:x0=0:=r6 rfl;subst hx0;generalize hL:([p]:List Nat)=L at t1;cases t1 with
  | nil=>exact ⟨some ⟨b,0,none⟩,cc,fun _ _=>undef,r2,by simp,by simp,by simp,by simp⟩
  | @own _ _ _ b' cap' cur el us u1 u2 u3 u4 u5 u6 u7 u8 u9 =>
   subst hL;cases t2;refine ⟨some ⟨b,0,none⟩,cc,us,r2,u6,fun j k hj hk=>⟨b,0,rfl,?_⟩,u8,fun j k hj hk=>by simpa using u9 j k hj hk⟩;have:=u7 j k hj hk;simp only [qR,World.cell?,u2];simpa using this
 obtain ⟨ad,cx,us2,hxv,s1,s2,s3,s4⟩:=hsrc;have hd2:((zD news.length).map fun i=>(n+1+i,[n,es.length+i,0])).map Prod.fst=(zD news.length).map fun i=>n+1+i:=by simp [Function.comp_def]
 have St:=Q5k (g:=⟨g.R,opl p (n+1) g.o,g.ρ⟩) (a:=a) (ev:=ev') (h:=h2) (n:=n) (C:=C) (o:=o) (e:={ v:=.own n 0 (es.length+news.length),del:=[j]++([]++(zD news.length).map fun i=>n+1+i),new:=[(n,.row ty.sz (es++news))],cnt:=1 })
  hev W2 H2 (fun q hq=>by
   have hq':q=(n,.row ty.sz (es++news)):=(by simpa using hq);subst hq';have:=q6 (n,.row 1 (es++news)) (by simp);simp only [h2,if_neg (show n ≠ p by omega),qD,if_true,hsz];exact this) q7 q1 hel hty hbase (qD _) hxv (by rw [hsz];exact s1) (by rw [hsz];exact s2) (by rw [hsz];exact s3) hd2
  (fun j' k hj' hk=>by
   rw [hsz] at hk;have hk0:k=0:=(by omega);subst hk0;intro w' o' hR hky;refine (s4 j' 0 hj' hk).mono [n,es.length+j',0] fun b M hM=>?_;have h3:opl p (n+1) g.o b=some ((n+1+j') :: M):=opl_cell (by simpa using hM);exact hky (n+1+j',[n,es.length+j',0]) (List.mem_map.2 ⟨j',by simpa using hj',rfl⟩) b M h3)
  (by
   simp only [List.nil_append,List.singleton_append,List.nodup_cons,List.mem_cons,List.mem_map,List.mem_range,not_or];refine ⟨⟨by omega,?_⟩,?_,Qax _ _⟩
   ·rintro ⟨i,_,hi⟩;omega
   rintro ⟨i,_,hi⟩;omega)
  (by simpa using hb) (by simpa using hb') (by omega) rfl
 intro K Q kk;refine St.step K Q fun v w' R' o' ρ' r1 r2 r3 r4 r5 r6 r7=>kk v w' R' o' ρ' r1 r2 ?_ r4 r5 (by simpa using r6) r7;refine r3.beyond fun id bk hbk=>?_;have hle:id≤n:=by
  rcases r5 id bk hbk with h3|h3
  ·have:=q4 id bk h3;omega
  have:=h3.2;simp only at this;omega
 simp only [happ,look];have hnm:id ∉ (zD news.length).map fun i=>n+1+i:=by
  simp only [List.mem_map,List.mem_range]
  rintro ⟨i,_,hi⟩
  omega
 by_cases h3:id=j
 ·subst h3;simp
 by_cases h4:id=p
 ·subst h4;simp [h3,hnm,h2]
 simp [h3,h4,hnm,h2,hle]
@[simp] theorem baseME_row {sz id m sz':Nat} {es:List (List AV)}:baseME sz id m (some (.row sz' es))=none:=rfl
@[simp] theorem srcME_row {sz off m sz':Nat} {es:List (List AV)}:srcME sz off m (some (.row sz' es))=none:=rfl
@[simp] theorem appME_no {t:Tyi} {n:Nat} {q:Option (Prop × List (List AV))}:appME t n none q=none:=rfl
end
section
attribute [local simp] Qh QF Qs
mutual
inductive FrA (h:HP) (T:List Nat):AV→AV→Prop
 | ro {a}:a.ro=true→FrA h T a a
 | row {id sz es n}:h id=some (.row sz es)→id∈T→n=es.length→FrA h T (.own id 0 n) (.lst true sz es)
 | lit {id sz es n}:h id=some (.mix sz es)→id∈T→n=es.length→roRows sz es→FrA h T (.own id 0 n) (.lst true sz es)
 | mp {id kd es}:h id=some (.mapE kd es)→id∈T→kd.plain=true→FrA h T (.mp id) (.cmap kd es)
 | adr {id sz cs cs'}:h id=some (.mix sz [cs])→id∈T→cs.length=sz→FrL h T cs cs'→FrA h T (.adr id 0 0) (.rptr cs')
inductive FrL (h:HP) (T:List Nat):List AV→List AV→Prop
 | nil:FrL h T [] []
 | cons {a a' cs cs'}:FrA h T a a'→FrL h T cs cs'→FrL h T (a :: cs) (a' :: cs')
end
def fzd (T:List Nat) (o:Nat→Option (List Nat)):Nat→Option (List Nat):=fun b=>match o b with
 | some (x :: M)=>if x∈T then none else some (x :: M)
 | y=>y
theorem Q5T {T:List Nat} {o:Nat→Option (List Nat)} {b x:Nat} {M:List Nat} (h:o b=some (x :: M)) (hx:x ∉ T):fzd T o b=some (x :: M):=by
 simp only [fzd,h,if_neg hx]
theorem fzd_none {T:List Nat} {o:Nat→Option (List Nat)} {b x:Nat} {M:List Nat} (h:o b=some (x :: M)) (hx:x∈T):fzd T o b=none:=by
 simp [fzd,h,hx]
theorem fzd_some {T:List Nat} {o:Nat→Option (List Nat)} {b:Nat} {L:List Nat} (h:fzd T o b=some L):o b=some L:=by
 unfold fzd at h;split at h
 ·split at h
  ·cases h
  rename_i hb _;rw [hb];exact h
 exact h
def only (id:Nat) (o:Nat→Option (List Nat)):Nat→Option (List Nat):=fun b=>match o b with
 | some (x :: M)=>if x=id then some (x :: M) else none
 | _=>none
theorem only_some {id:Nat} {o:Nat→Option (List Nat)} {b:Nat} {L:List Nat} (h:only id o b=some L):∃ M,o b=some (id :: M):=by
 unfold only at h;split at h
 ·rename_i x M hb
  by_cases hx:x=id
  ·exact ⟨M,by rw [hb,hx]⟩
  simp [hx] at h
 cases h
def RT (g:Gh) (T:List Nat):Nat→Prop:=fun b=>g.R b∨∃ id M,id∈T∧g.o b=some (id :: M)
mutual
theorem FrA.rel {w:World} {g:Gh} {h:HP} {T:List Nat} (H:HRel w g h):∀ {a a':AV} {v:Value},FrA h T a a'→XRel w g.R g.ρ v a→RRel w (RT g T) v a'
 | a,_,v,.ro hr,hv=>(hv.toR hr).mono fun b hb=>⟨.inl hb,rfl⟩
 | _,_,v,.row (id:=id) (sz:=sz) (es:=es) (n:=n) hi hT hn,hv=>by
  rcases hv.own_eq with ⟨sz',cap,e1,e2,_,e4⟩|⟨b,sz',cap,cc,x,e1,e2,e3,e4,e5,e6,e7⟩
  ·rw [e2];have:es=[]:=List.length_eq_zero_iff.1 (by omega);subst this;exact .nil (by simp)
  obtain ⟨v0,t1,t2⟩:=H.row id sz es _ hi e1;have hx0:x=0:=e6 rfl;subst hx0;rw [e2];have t1':RRel w (RT g T) v0 (.lst true sz es):=(t1.mono (R':=g.R) (o':=only id g.o) [id] (fun b M hb=>⟨by
   have h3:g.o b=some (id :: M):=(by simpa using hb);simp [only,h3],rfl⟩)).pure fun b hb=>by
    rcases hb with hb|⟨L,hb⟩
    ·exact .inl hb
    obtain ⟨M,hM⟩:=only_some hb;exact .inr ⟨id,M,hT,hM⟩
  cases t2 with
  | own =>
   cases t1' with
   | nil h1=>subst hn;exact .nil (by omega)
   | lst us q1 q2 q3 q4 q5 q6 q7 q8 =>
    subst hn;exact .lst us q1 q2 (by omega) (by omega) q5 q6 q7 q8
 | _,_,v,.lit (id:=id) (sz:=sz) (es:=es) (n:=n) hi hT hn hr,hv=>by
  rcases hv.own_eq with ⟨sz',cap,e1,e2,_,e4⟩|⟨b,sz',cap,cc,x,e1,e2,e3,e4,e5,e6,e7⟩
  ·rw [e2];have:es=[]:=List.length_eq_zero_iff.1 (by omega);subst this;exact .nil (by simp)
  obtain ⟨b',cur,el,us,cp,p1,p2,p3,p4,p5,p6,p7,p8,p9,p10⟩:=(H.mix id sz es _ hi e1).ex (by simp);simp only [Bk.mk.injEq,qA] at p1;obtain ⟨rfl,rfl,rfl⟩:=p1;have hx0:x=0:=e6 rfl;subst hx0;rw [e2];subst hn;refine .lst us (.inr ⟨id,[],hT,p2⟩) p3 e4 (by omega) p7 (fun i k hi hk=>by rw [qR];exact p8 i k hi hk) p9 fun i k hi hk=>?_;have hm:es.getD i []∈es:=by simp [qB,qF hi]
  have hk':k<(es.getD i []).length:=by rw [(hr _ hm).1];exact hk
  have hro:((es.getD i []).getD k .bot).ro=true:=(hr _ hm).2 _ (by
   generalize es.getD i []=q at hk';simp [qB,qF hk'])
  exact ((p10 i k hi hk).toR hro).mono fun b hb=>⟨.inl hb,rfl⟩
 | _,_,v,.mp (id:=id) (kd:=kd) (es:=es) hi hT hp,hv=>by
  cases hv with
  | r h=>cases h
  | mp e =>
   obtain ⟨b',h1,h2,h3,h4⟩:=(H.map id kd es _ hi e).plain (MK.plain_ne hp);simp only [Bk.mk.injEq,qA] at h1;obtain ⟨rfl,_,_⟩:=h1;exact .cmap (.inr ⟨id,[],hT,h2⟩) h3 h4
 | _,_,v,.adr (id:=id) (sz:=sz) (cs:=cs) (cs':=cs') hi hT hz hl,hv=>by
  cases hv with
  | r h=>cases h
  | @adr _ b sz' cap _ _ e =>
   obtain ⟨b',cur,el,us,cp,p1,p2,p3,p4,p5,p6,p7,p8,p9,p10⟩:=(H.mix id sz [cs] _ hi e).ex (by simp);simp only [Bk.mk.injEq,qA] at p1;obtain ⟨rfl,rfl,rfl⟩:=p1;have hL:=hl.rel H (vs:=us 0) fun k hk=>by
    have:=p10 0 k (by simp) (by omega);simpa using this
   refine .rptr (us 0) (.inr ⟨id,[],hT,p2⟩) p3 (fun k hk=>?_) (fun k hk=>?_) fun k hk=>hL.2 k hk
   ·have:=p8 0 k (by simp) (by rw [← hz,← hL.1];exact hk);simpa using this
   exact p9 0 k (by simp) (by rw [← hz,← hL.1];exact hk)
theorem FrL.rel {w:World} {g:Gh} {h:HP} {T:List Nat} (H:HRel w g h):∀ {cs cs':List AV} {vs:Nat→Value},FrL h T cs cs'→(∀ k,k<cs.length→XRel w g.R g.ρ (vs k) (cs.getD k .bot)) →
  cs'.length=cs.length∧∀ k,k<cs'.length→RRel w (RT g T) (vs k) (cs'.getD k .bot)
 | _,_,vs,.nil,_=>⟨rfl,fun k hk=>by simp at hk⟩
 | _,_,vs,.cons (a:=a) (a':=a') (cs:=cs) (cs':=cs') h1 h2,hv=>by
  have hh:=h1.rel H (v:=vs 0) (hv 0 (by simp));have ht:=h2.rel H (vs:=fun k=>vs (k+1)) fun k hk=>by
   have:=hv (k+1) (by simpa using hk);simpa using this
  refine ⟨by simp [ht.1],fun k hk=>?_⟩;cases k with
  | zero=>exact hh
  | succ k=>simpa using ht.2 k (by simpa using hk)
end
theorem frz_n {α:Type} {p:α→Prop}:∀ x∈([]:List α),p x:=by simp
theorem Q4B {α:Type} {p:α→Prop} {q:α} {l:List α} (h:p q) (t:∀ x∈l,p x):∀ x∈q :: l,p x:=by simpa using ⟨h,t⟩
theorem Wk.frzD {F:Fx} {st st':St} (hW:∀ b,¬ F.C.wrb b) (T:List Nat)
  (hs:∀ q∈st'.s,st.get q.1=q.2∨q.2 = .bot∨FrA st.hp T (st.get q.1) q.2) (hn:st'.n=st.n)
  (hh:∀ q∈st'.h,q.1 ∉ T∧look q.1 st.h=some q.2∧(match q.2 with|.ali _ _ _ _=>False|_=>True)):Wk F st st':=by
 intro a w ⟨R,hX,hr0⟩;obtain ⟨r1,r2,r3,o,ρ,W,H,hx,hρ,hpn⟩:=hr0;have hent:∀ id e,st'.hp id=some e→id ∉ T∧st.hp id=some e∧(match e with|.ali _ _ _ _=>False|_=>True):=fun id e h=>hh (id,e) (Qq h);have hRR:∀ b,R b→RT ⟨R,o,ρ⟩ T b∧w.heap[b]? = w.heap[b]?:=fun b hb=>⟨.inl hb,rfl⟩;refine ⟨RT ⟨R,o,ρ⟩ T,⟨fun b hb=>.inl (hX.1 b hb),fun b hb=>?_⟩,r1,r2,fun id x hx'=>?_,fzd T o,ρ,⟨fun b hb=>?_,fun b L hb=>W.o b L (fzd_some hb),W.os,W.tape,W.output,W.size,W.keep⟩,
  ⟨fun id z xs bk h1 h2=>?_,fun id z xs bk h1 h2=>?_,fun id c i' k' z bk h1 h2=>?_,fun id kd xs bk h1 h2=>?_⟩,fun t=>?_,fun id kk hk'=>?_,fun id hid=>hpn.1 id hid,by rw [hn];exact hpn.2⟩
 ·rcases hb with hb|⟨id,M,hT,hb⟩
  ·exact hX.2 b hb
  rcases (W.o b _ hb).2 with h|h
  ·exact .inr h
  exact absurd h (hW b)
 ·rw [hn];exact r3 _ _ (hent id x hx').2.1
 ·rcases hb with hb|⟨id,M,hT,hb⟩
  ·have h3:o b=none:=(W.R b hb).2;exact ⟨(W.R b hb).1,by simp only [fzd,h3]⟩
  exact ⟨(W.o b _ hb).1,fzd_none hb hT⟩
 ·obtain ⟨q1,q2,_⟩:=hent id _ h1;rcases (H.mix id z xs bk q2 h2).ex0 with h0|⟨b,cur,el,us,cp,p1,p2,p3,p4,p5,p6,p7,p8,p9,p10⟩
  ·exact ⟨.inl h0⟩
  exact .mk' ⟨b,cur,el,us,cp,p1,Q5T p2 q1,p3,p4,p5,p6,p7,p8,p9,fun i k hi hk=>(p10 i k hi hk).mono hRR (fun _ _ h=>h)⟩
 ·obtain ⟨q1,q2,_⟩:=hent id _ h1;obtain ⟨v,t1,t2⟩:=H.row id z xs bk q2 h2;exact ⟨v,t1.mono [id] fun b M hb=>⟨by
   have h3:o b=some (id :: M):=(by simpa using hb);simpa using Q5T h3 q1,rfl⟩,t2⟩
 ·exact (hent id _ h1).2.2.elim
 ·obtain ⟨q1,q2,_⟩:=hent id _ h1;exact (H.map id kd xs bk q2 h2).move hRR fun b M p2=>⟨Q5T p2 q1,rfl⟩
 ·cases hl:look t st'.s with
  | none=>simp only [St.get,hl,Option.getD_none];exact .bot
  | some v =>
   simp only [St.get,hl,qY];rcases hs _ (Qq hl) with h|h|h
   ·simp only at h;rw [← h];exact (hx t).mono hRR (fun _ _ h=>h)
   ·simp only at h;rw [h];exact .bot
   exact .r (h.rel H (hx t))
 rw [hn];exact hρ id kk hk'
end
section
attribute [local simp] Qh QF Qs
theorem Q5q {P:Program} (keep:Bool) {f:Nat} {fn:Func} {c:Code} {args:List AV} {ts:List Nat} {rs:List AV} {res:AV} (hf:P.funcs[f]? = some fn) (hb:fn.body=some c) (hrt:resT fn.results=some ts) (hrs:res=Q1e rs)
  (hname : (fn.name == "runtime.NumGoroutine") = false) (hN : args.length ≤ fn.ntmps) (h : ∀ F : Fx, F.N = fn.ntmps → F.pins = 0 → (∀ b, ¬ F.C.wrb b) → Wp P F c (retFQ keep ts rs) ⟨Q3C 0 args, [], 0⟩) : FContract P keep f args res := by
 subst hrs;refine ⟨⟨fn,hf,hname,by rw [hb];rfl⟩,fun w R vals hR hsz hx=>?_⟩;refine calls_of_wp hf hb ?_
 let C:Ctx:=⟨w,fun _=>False,fun _=>none,0⟩
 have hrel:Rel C R fn.ntmps { tmps:=vals++Array.replicate (fn.ntmps - vals.size) undef,defers:=[] } w ⟨Q3C 0 args,[],0⟩:=by
  refine ⟨by simp;omega,rfl,(fun id x h=>by cases h),fun _=>none,noρ,⟨fun b hb=>⟨hR b hb,rfl⟩,(fun b L hb=>by cases hb),rfl,⟨rfl,qD _⟩,rfl,qD _,fun b _ _=>rfl⟩,⟨(fun id sz es bk _ hb=>by cases hb),(fun id sz es bk _ hb=>by cases hb),(fun id c i k sz bk _ hb=>by cases hb),(fun id kd es bk _ hb=>by cases hb)⟩,fun t=>?_,(fun id k hk=>by cases hk),(fun id hid=>by cases hid),qD _⟩;simp only [St.get,Q2E]
  by_cases ht:t<args.length
  ·rw [if_pos (by omega)];simp only [Nat.sub_zero,qY];have:=hx t ht;have h2:(vals++Array.replicate (fn.ntmps - vals.size) undef).getD t undef=vals.getD t undef:=by
    simp [qV,show t<vals.size by omega]
   rw [h2];exact this
  rw [if_neg (by omega)];exact .bot
 refine Q4d (fun e a w' hq=>?_) (h ⟨C,R,fn.ntmps,0,rfl⟩ rfl rfl (fun _ q=>q) _ w (.of hrel));obtain ⟨st,⟨R',hX,hr⟩,hq⟩:=hq;have fin:RetF keep ts st rs→a.defers=[]∧∃ v,(results fn a.tmps).run P w' = .ok v w'∧∃ v' R1,Ending.returned v = .returned v'∧Blw w.heap.size w w'∧(∀ b,R1 b→b<w'.heap.size∧((keep=true∧R b)∨w.heap.size≤b))∧XRel w' R1 noρ v' (Q1e rs):=by
  intro hA;obtain ⟨_,hdef,_,o,ρ,W,H,hxx,_⟩:=hr
  let R1:Nat→Prop:=if keep then RAll ⟨R',o,ρ⟩ else fun b=>∃ L,o b=some L
  have hown:∀ b L,o b=some L→b<w'.heap.size∧w.heap.size≤b:=fun b L hb=>by
   obtain ⟨q1,q2⟩:=W.o b L hb;exact ⟨q1,q2.resolve_right id⟩
  have hR1:∀ b,R1 b→b<w'.heap.size∧((keep=true∧R b)∨w.heap.size≤b):=fun b hb=>by
   cases keep with
   | true =>
    rcases (show RAll ⟨R',o,ρ⟩ b from hb) with hb|⟨L,hb⟩
    ·exact ⟨(W.R b hb).1,(hX.2 b hb).imp (fun h=>⟨rfl,h⟩) id⟩
    exact ⟨(hown b L hb).1,.inr (hown b L hb).2⟩
   | false =>
    obtain ⟨L,hb⟩:=hb;exact ⟨(hown b L hb).1,.inr (hown b L hb).2⟩
  have hcell:∀ k,k<ts.length→XRel w' R1 noρ (a.tmps.getD (ts.getD k 0) undef) (rs.getD k .bot):=by
   intro k hk;have h1:=hA.pur k hk;have h2:=hxx (ts.getD k 0);cases hkp:keep with
   | true=>subst hkp;exact (Q69 H h1 h2).1
   | false =>
    subst hkp;have h3:=hA.own rfl k hk;generalize st.get (ts.getD k 0)=av at h1 h2 h3;generalize rs.getD k .bot=rv at h1 ⊢;generalize a.tmps.getD (ts.getD k 0) undef=vv at h2 ⊢;cases av with
    | val v =>
     cases h1 with
     | val=>obtain ⟨rfl,hs⟩:=h2.val_eq;exact .r (.val hs)
     | nil=>obtain ⟨rfl,hs⟩:=h2.val_eq;exact .r (.nil (by decide))
    | mp id =>
     cases h1 with
     | mp he hk =>
      obtain ⟨b,rfl,hb⟩:=h2.mp_eq;obtain ⟨b',q1,q2,q3,q4⟩:=(H.map _ _ _ _ he hb).plain hk;simp only [Bk.mk.injEq,qA,and_true] at q1;subst q1;exact .r (.cmap ⟨_,q2⟩ q3 q4)
    | _=>exact h3.elim
  refine ⟨hdef,_,Q3v hrt _,_,R1,rfl,⟨W.os,W.tape,W.output,W.size,fun b hb=>W.keep b hb id⟩,hR1,?_⟩;have hl:=hA.len
  match ts,rs,hl,hcell with
  | [],[],_,_=>exact .tup rfl fun k hk=>by simp at hk
  | [t],[r],_,hcell=>exact hcell 0 (by simp)
  | t :: u :: ts,r :: s :: rs,hl,hcell =>
   simp only [qL,Q2B,Q1e];refine .tup (by simp at hl;simp;omega) fun k hk=>?_;have hk':k<(t :: u :: ts).length:=(by simp at hl hk;simp;omega);have:=hcell k hk';have h1:((a.tmps.getD t undef :: a.tmps.getD u undef :: ts.map fun t=>a.tmps.getD t undef).toArray).getD k undef=a.tmps.getD ((t :: u :: ts).getD k 0) undef:=by
    have e1:(a.tmps.getD t undef :: a.tmps.getD u undef :: ts.map fun t=>a.tmps.getD t undef)=(t :: u :: ts).map fun t=>a.tmps.getD t undef:=rfl;rw [e1];have hk2:k<(List.map (fun t=>a.tmps.getD t undef) (t :: u :: ts)).toArray.size:=(by simpa using hk');rw [zE,qX hk2,qY];simp only [List.getElem_toArray,List.getElem_map];rw [qB,qF hk',qY]
   rw [h1];exact this
 cases e with
 | normal=>exact fin hq
 | ret=>exact fin hq
 | _=>exact hq.elim
end
end Go.Vc
