/- A part of the proof. -/
import Derived.Test.YtllnbmfplpilcaaR5
import Derived.IntWalk
import Derived.Laws.BytesString
import Derived.Scope
set_option maxRecDepth 100000
set_option maxHeartbeats 4000000
set_option linter.unusedSimpArgs false
set_option linter.unusedVariables false
set_option linter.unusedSectionVars false
set_option linter.unnecessarySimpa false

open List renaming getD_eq_getElem?_getD→qB
open Option.some renaming injEq→qA
open Prod.mk renaming injEq→qC
open Array renaming getElem?_eq_getElem→qY
open Nat renaming le_refl→qE
open List renaming getElem?_eq_getElem→qF
open List renaming range→zD
open Option renaming getD_some→qZ
open List renaming getElem?_append_left→qH
open Nat renaming mul_le_mul_right→qI
open List renaming map_cons→qJ
open Nat renaming lt_or_ge→zA
open List renaming getElem_mem→zE
open Nat renaming le_trans→qN
open List renaming getElem?_take→qO
open Nat renaming add_mul→qP
open Nat renaming lt_of_lt_of_le→qQ
open Array renaming getElem?_append→qW
open List renaming all_eq_true→qS
open List renaming getElem?_drop→qT
open Option renaming map_some→qU
open Array renaming replicate→zC
namespace Go.Vc
open Go
inductive Good:AV→Prop
 | val {v}:sc v→Good (.val v)
 | lst {u sz es}:es.length≤maxLen→(∀ i,i<es.length→(es.getD i []).length=sz)→(∀ i k,i<es.length→k<sz→Good ((es.getD i []).getD k .bot))→Good (.lst u sz es)
 | rptr {cs}:(∀ k,k<cs.length→Good (cs.getD k .bot))→Good (.rptr cs)
 | agg {cs}:(∀ k,k<cs.length→Good (cs.getD k .bot))→Good (.agg cs)
 | other {a}:(match a with|.val _|.lst _ _ _|.rptr _|.agg _=>False|_=>True)→Good a
theorem RRel.good {w:World} {R:Nat→Prop} {v:Value} {a:AV} (h:RRel w R v a):Good a:=by
 induction h with
 | val h=>exact .val h
 | nil=>exact .lst (by simp) (fun i hi=>by simp at hi) (fun i k hi=>by simp at hi)
 | lst us _ _ h1 h2 h3 _ _ _ ih=>exact .lst (by omega) h3 ih
 | rptr us _ _ _ _ _ ih=>exact .rptr ih
 | fn=>exact .other trivial
 | bnd=>exact .other trivial
 | ifc=>exact .other trivial
 | ifs=>exact .other trivial
 | cmap=>exact .other trivial
 | bot=>exact .other trivial
theorem XRel.good {w:World} {R:Nat→Prop} {ρ:Nat→Option Bk} {v:Value} {a:AV} (h:XRel w R ρ v a):Good a:=by
 induction h with
 | r h=>exact h.good
 | agg _ _ _ ih=>exact .agg ih
 | _=>exact .other trivial
section
variable {P:Program} {F:Fx} {AQ:Exit→St→Prop} {st:St} {c:Code}
theorem Q5W (t:Nat) (h:Good (st.get t)→Wp P F c AQ st):Wp P F c AQ st:=by
 intro a w hr;have:Good (st.get t):=by
  obtain ⟨_,_,_,_,_,o,ρ,_,_,hx,_⟩:=hr;exact (hx t).good
 exact h this a w hr
theorem w_sr {id:Nat} {ops:Array Oper} {d:Bool} {y:Code} (hm:P.follows .mixedOrders=true) (hok:(okN F.N ops && (!d || (Q3S false ops && Q1G ops)))=true)
  (h:∀ K:St→Prop,(∀ st',Wp P F y AQ st'→K st')→QV P false ops ops.toList st K):Wp P F (.seq (.region id ops d) y) AQ st :=
 Q2 (QaJ hm hok fun K hK=>h K fun st' h'=>hK st' h')
theorem Q65 {id:Nat} {ops:Array Oper} {d:Bool} {y:Code} (hm:P.follows .mixedOrders=true) (hok:(okN F.N ops && (!d || (Q3S true ops && Q1G ops)))=true)
  (h:∀ K:St→Prop,(∀ st',Wp P F y AQ st'→K st')→QV P true ops ops.toList st K):Wp P F (.seq (.region id ops d) y) AQ st :=
 Q2 (w_runM hm hok fun K hK=>h K fun st' h'=>hK st' h')
end
def Is (xs:List Int):List (List AV):=xs.map fun x=>[.val (.int .i64 x)]
@[simp] theorem Is_length (xs:List Int):(Is xs).length=xs.length:=by simp [Is]
@[simp] theorem Is_nil:Is []=[]:=rfl
theorem Is_get (xs:List Int) (i:Nat) (h:i<xs.length):(Is xs).getD i []=[.val (.int .i64 (xs.getD i 0))]:=by
 simp [Is,qB,h]
theorem Is_append (xs ys:List Int):Is (xs++ys)=Is xs++Is ys:=by simp [Is]
def B64 (x:Int):Prop:=-9223372036854775808≤x∧x≤9223372036854775807
theorem Good.is {u:Bool} {xs:List Int} (h:Good (.lst u 1 (Is xs))):xs.length≤9223372036854775807∧∀ x∈xs,B64 x:=by
 cases h with
 | lst h1 h2 h3 =>
  refine ⟨by rw [Is_length] at h1;exact qN h1 (by decide),fun x hx=>?_⟩;obtain ⟨i,hi,rfl⟩:=List.getElem_of_mem hx;have:=h3 i 0 (by simpa using hi) (by omega);rw [Is_get _ _ hi] at this;simp only [List.getD_cons_zero] at this;cases this with
  | val h =>
   simp only [sc] at h;have e1:IntKind.i64.min = -9223372036854775808:=(by decide);have e2:IntKind.i64.max=9223372036854775807:=(by decide);simpa [qB,hi,B64,e1,e2] using h
  | other h=>exact h.elim
 | other h=>exact h.elim
@[simp] theorem i64_min:IntKind.i64.min = -9223372036854775808:=by decide
theorem Qo {x:Int} (h:B64 x):IntKind.i64.wrap x=x:=IntWalk.i64_in x h
theorem QD (xs:List Int) (i:Nat) (h:i<xs.length):(Is xs)[i]? = some [.val (.int .i64 xs[i])]:=by simp [Is,h]
attribute [local simp] QD
theorem Qq (xs:List Int) (i:Nat) (h:i<(Is xs).length):(Is xs)[i]=[.val (.int .i64 (xs[i]'(by simpa using h)))]:=by simp [Is]
attribute [local simp] Qq
@[simp] theorem Is_set (xs:List Int) (i:Nat) (x:Int):(Is xs).set i [.val (.int .i64 x)]=Is (xs.set i x):=by simp [Is,List.map_set]
@[simp] theorem Is_rep (n:Nat) (x:Int):List.replicate n [.val (.int .i64 x)]=Is (List.replicate n x):=by simp [Is]
theorem Qu {t:Nat} {v v':Value} {st:St} (h:st.get t = .val v) (e:v=v'):RetA [t] st [.val v']:=by
 subst e;refine ⟨?_,[.val v],[],?_,.nil,UpL.refl _⟩
 ·simp only [qJ,List.map_nil,h];exact .one rfl rfl .nil
 simp only [qJ,List.map_nil,h,List.flatMap_cons,List.flatMap_nil,AV.cells,List.append_nil];rfl
theorem Q4J {t id n sz:Nat} {es fs:List (List AV)} {st:St} (h:st.get t = .own id 0 n) (he:look id st.h=some (.row sz es)) (hn:es.length=n) (e:es=fs):RetA [t] st [.lst true sz fs]:=by
 subst e;refine ⟨?_,[.lst true sz es],[id],?_,by simp,UpL.refl _⟩
 ·simp only [qJ,List.map_nil,h];exact .one rfl rfl .nil
 have he':st.hp id=some (.row sz es):=he;simp only [qJ,List.map_nil,h,List.flatMap_cons,List.flatMap_nil,AV.cells,List.append_nil];simp [Q2b,layC,layD,Go.Vc.depth,he',hn]
theorem Qz {i n:Nat} (h:i<n) (hn:n≤9223372036854775807):IntKind.i64.wrap ((i:Int)+1)=((i+1:Nat):Int):=by
 rw [Qo ⟨by omega,by omega⟩];rfl
def contE (h:HP) (d:Nat):Option Ent→Option (Nat × List (List AV))
 | some (.mix sz es)=>some (sz,es)
 | some (.row sz es)=>some (sz,es)
 | some (.ali c i k sz)=>if Qp (h c) then none else match cont h d c with
   | some (_,es)=>match (es.getD i []).getD k .bot with
    | .lst true sz' es'=>if sz'=sz then some (sz,es') else none
    | _=>none
   | none=>none
 | some (.mapE _ _)=>none
 | none=>none
theorem cont_E {h:HP} {d id:Nat}:cont h (d+1) id=contE h d (h id):=by
 simp only [cont];cases h id with
 | none=>rfl
 | some e=>cases e<;>rfl
def wrE (h:HP) (d id:Nat) (es:List (List AV)):Option Ent→Option (List (Nat × Ent))
 | some (.mix sz _)=>some [(id,.mix sz es)]
 | some (.row sz _)=>some [(id,.row sz es)]
 | some (.ali c i k sz)=>match cont h d c with
   | some (_,fs)=>wr h d c (fs.set i ((fs.getD i []).set k (.lst true sz es)))
   | none=>none
 | some (.mapE _ _)=>none
 | none=>none
theorem wr_E {h:HP} {d id:Nat} {es:List (List AV)}:wr h (d+1) id es=wrE h d id es (h id):=by
 simp only [wr];cases h id with
 | none=>rfl
 | some e=>cases e<;>rfl
def Q8u (t:Tyi) (id i k n:Nat):Option (Nat × List (List AV))→Option (Prop × Eff)
 | some (sz,es)=>some (i<es.length∧k+t.sz≤sz,{ v:=bif t.agg then .agg (Q12 id i k n (((es.getD i []).drop k).take t.sz)).1 else (Q12 id i k n (((es.getD i []).drop k).take t.sz)).1.getD 0 .bot,new:=(Q12 id i k n (((es.getD i []).drop k).take t.sz)).2,cnt:=t.sz })
 | none=>none
def Qa9 (t:Tyi) (id i k n:Nat) (h:HP):Option Ent→Option (Prop × Eff)
 | some (.mix sz es)=>some (i<es.length∧k+t.sz≤sz,{ v:=bif t.agg then .agg (((es.getD i []).drop k).take t.sz) else (es.getD i []).getD k .bot })
 | some (.row sz es)=>Q8u t id i k n (some (sz,es))
 | some (.ali _ _ _ _)=>Q8u t id i k n (cont h depth id)
 | some (.mapE _ _)=>none
 | none=>none
theorem Q8v {t:Tyi} {id i k n:Nat} {h:HP}:Q2B (some t) (.adr id i k) h n=Qa9 t id i k n h (h id):=by
 simp only [Q2B,Qa9];cases he:h id with
 | none=>rfl
 | some e =>
  cases e with
  | mix=>rfl
  | row sz es =>
   have:cont h depth id=some (sz,es):=(by simp [cont,depth,he]);simp only [this,Q8u]
  | ali=>simp only [Q8u];cases cont h depth id<;>rfl
  | mapE kd es =>
   have:cont h depth id=none:=(by simp [cont,depth,he]);simp only [this]
def Q51 (t:Tyi) (id i k:Nat) (x:AV) (h:HP):Option (Nat × List (List AV))→Option (Prop × Eff)
 | some (sz,es)=>match x with
  | .val v=>if t.sz=1∧Q6x v=true then
    match wr h depth id (es.set i ((es.getD i []).set k (.val v))) with
    | some s=>some (i<es.length∧k<sz,{ v:=.bot,set:=s })
    | none=>none
   else none
  | _=>none
 | none=>none
def Q7Y (t:Tyi) (id i k:Nat) (x:AV) (h:HP):Option Ent→Option (Prop × Eff)
 | some (.mix sz es)=>if x.cells.length=t.sz && Q53 x then
    some (i<es.length∧k+t.sz≤sz,{ v:=.bot,set:=[(id,.mix sz (es.set i (Q1I (es.getD i []) k x.cells)))] })
   else none
 | some (.row _ _)=>Q51 t id i k x h (cont h depth id)
 | some (.ali _ _ _ _)=>Q51 t id i k x h (cont h depth id)
 | some (.mapE _ _)=>none
 | none=>none
theorem storev_E {t:Tyi} {id i k:Nat} {x:AV} {h:HP}:Q33 (some t) (.adr id i k) x h=Q7Y t id i k x h (h id):=by
 simp only [Q33,Q7Y];cases he:h id with
 | none=>rfl
 | some e =>
  cases e with
  | mapE kd es =>
   have:cont h depth id=none:=(by simp [cont,depth,he]);simp only [this]
  | _=>first|rfl|(simp only [Q51];cases cont h depth id<;>rfl)
def layE (h:HP) (d:Nat) (id n:Nat):Option Ent→Option (AV × List Nat)
 | some (.row sz es)=>if es.length=n then some (.lst true sz es,[id]) else none
 | some (.mix sz es)=>if es.length=n then match Q1R (layD h d) es with
   | some (q,ds)=>some (.lst true sz q,id :: ds)
   | none=>none
   else none
 | some (.ali _ _ _ _)=>none
 | some (.mapE _ _)=>none
 | none=>none
theorem layD_val {h:HP} {d:Nat} {v:Value}:layD h (d+1) (.val v)=some (.val v,[]):=rfl
theorem layD_E {h:HP} {d id n:Nat}:layD h (d+1) (.own id 0 n)=layE h d id n (h id):=by
 simp only [layD,layE];cases he:h id with
 | none=>rfl
 | some e=>cases e<;>rfl
def idxC (t:Tyi) (id off n:Nat) (j:Int):Option (Nat × List (List AV))→Option (Prop × Eff)
 | some (sz,_)=>if sz=t.sz then some (0≤j∧j<n,{ v:=.adr id (off+j.toNat) 0 }) else none
 | none=>none
theorem Q8r {t:Tyi} {id off n:Nat} {k:IntKind} {j:Int} {h:HP}:QZ (some t) (.own id off n) (.val (.int k j)) h=idxC t id off n j (cont h depth id):=by
 simp only [QZ,idxC];cases cont h depth id<;>rfl
theorem Q8q {t:Tyi} {u:Bool} {sz:Nat} {es:List (List AV)} {k:IntKind} {j:Int} {h:HP} :
  QZ (some t) (.lst u sz es) (.val (.int k j)) h=if sz=t.sz then some (0≤j∧j<es.length,{ v:=.rptr (es.getD j.toNat []) }) else none:=rfl
def srcE (h:HP) (sz id off n:Nat):Option Ent→Option (Prop × List (List AV) × List Nat)
 | some (.mix sz' es)=>if sz'=sz then match Q4l h ((es.drop off).take n) with
   | some (q,d)=>some (off+n≤es.length,q,d)
   | none=>none
   else none
 | some (.row sz' es)=>if sz'=sz then some (off+n≤es.length∧∀ e∈es,∀ c∈e,isVal c=true,(es.drop off).take n,[]) else none
 | some (.ali _ _ _ _)=>match cont h depth id with
   | some (sz',es)=>if sz'=sz then some (off+n≤es.length∧∀ e∈es,∀ c∈e,isVal c=true,(es.drop off).take n,[]) else none
   | none=>none
 | some (.mapE _ _)=>none
 | none=>none
theorem src_nil {h:HP} {sz:Nat}:src h sz (.val (.slice none 0 0))=some (True,[],[]):=rfl
theorem src_lst {h:HP} {sz:Nat} {u:Bool} {sz':Nat} {es:List (List AV)}:src h sz (.lst u sz' es)=if sz'=sz then some (∀ e∈es,∀ c∈e,isVal c=true,es,[]) else none:=rfl
theorem src_E {h:HP} {sz id off n:Nat}:src h sz (.own id off n)=srcE h sz id off n (h id):=by
 simp only [src,srcE];cases he:h id with
 | none=>rfl
 | some e =>
  cases e with
  | mix=>rfl
  | row sz' es =>
   have:cont h depth id=some (sz',es):=(by simp [cont,depth,he]);simp only [this]
  | mapE kd es =>
   have:cont h depth id=none:=(by simp [cont,depth,he]);simp only [this]
  | ali=>rfl
def baseE (h:HP) (sz id m:Nat):Option Ent→Option (Prop × List (List AV) × List Nat × List Nat)
 | some (.row sz' es)=>if sz'=sz then some (m≤es.length,es.take m,[id],[]) else none
 | some (.mix sz' es)=>if sz'=sz then match Q4l h (es.take m) with
   | some (q,d)=>some (m≤es.length,q,[id],d)
   | none=>none
   else none
 | some (.ali _ _ _ _)=>none
 | some (.mapE _ _)=>none
 | none=>none
theorem base_nil {h:HP} {sz:Nat}:base h sz (.val (.slice none 0 0))=some (True,[],[],[]):=rfl
theorem base_E {h:HP} {sz id m:Nat}:base h sz (.own id 0 m)=baseE h sz id m (h id):=by
 simp only [base,baseE];cases he:h id with
 | none=>rfl
 | some e=>cases e<;>rfl
def appE (t:Tyi) (n:Nat):Option (Prop × List (List AV) × List Nat × List Nat)→Option (Prop × List (List AV) × List Nat)→Option (Prop × Eff)
 | some (c1,es,i,d1),some (c2,news,d2) =>
   if (n :: (i++(d1++d2))).Nodup then
    some (c1∧c2∧(es.length+news.length) * t.bytes≤140737488355328∧es.length+news.length≤140737488355328∧0<t.sz,
     { v:=.own n 0 (es.length+news.length),del:=i++(d1++d2),new:=[(n,.row t.sz (es++news))],cnt:=1 }) else none
 | _,_=>none
theorem appendv_E {t:Tyi} {s x:AV} {h:HP} {n:Nat}:Q2j (some t) s x h n=appE t n (base h t.sz s) (src h t.sz x):=by
 simp only [Q2j,appE];cases base h t.sz s with
 | none=>rfl
 | some p=>cases src h t.sz x<;>rfl
def slcC (t:Tyi) (id off n:Nat) (lo hi:Int):Option (Nat × List (List AV))→Option (Prop × Eff)
 | some (sz,_)=>if sz=t.sz then some (0≤lo∧lo≤hi∧hi≤n,{ v:=.own id (off+lo.toNat) (hi - lo).toNat }) else none
 | none=>none
theorem Q8H {t:Tyi} {h:HP} {id off n:Nat} {lo hi:Int}:Q1k t h (.own id off n) lo hi=slcC t id off n lo hi (cont h depth id):=by
 simp only [Q1k,slcC];cases cont h depth id<;>rfl
theorem Q8G {t:Tyi} {h:HP} {u:Bool} {sz:Nat} {es:List (List AV)} {lo hi:Int} :
  Q1k t h (.lst u sz es) lo hi=if sz=t.sz then some (0≤lo∧lo≤hi∧hi≤es.length,{ v:=.lst u sz ((es.drop lo.toNat).take (hi - lo).toNat) }) else none:=rfl
@[simp] theorem hp_mk {s:List (Nat × AV)} {h:List (Nat × Ent)} {n id:Nat}:St.hp ⟨s,h,n⟩ id=look id h:=rfl
section
variable {h:HP} {d id n k i c j l off m sz:Nat} {es:List (List AV)} {t:Tyi} {x:AV} {q:Int}
@[simp] theorem contE_mix:contE h d (some (.mix sz es))=some (sz,es):=rfl
@[simp] theorem contE_row:contE h d (some (.row sz es))=some (sz,es):=rfl
def contI (h:HP) (d i k sz:Nat):Bool→Option (Nat × List (List AV))→Option (Nat × List (List AV))
 | true,_=>none
 | false,some (_,es)=>match (es.getD i []).getD k .bot with
    | .lst true sz' es'=>if sz'=sz then some (sz,es') else none
    | _=>none
 | false,none=>none
@[simp] theorem contE_ali:contE h d (some (.ali c i k sz))=contI h d i k sz (Qp (h c)) (cont h d c):=by
 simp only [contE,contI];cases Qp (h c) with
 | true=>rfl
 | false=>simp only [Bool.false_eq_true,if_false];cases cont h d c<;>rfl
@[simp] theorem contI_some {z:Nat}:contI h d i k sz false (some (z,es))=match (es.getD i []).getD k .bot with
    | .lst true sz' es'=>if sz'=sz then some (sz,es') else none
    | _=>none:=rfl
@[simp] theorem wrE_mix:wrE h d id es (some (.mix sz es))=some [(id,.mix sz es)]:=rfl
@[simp] theorem wrE_row {fs:List (List AV)}:wrE h d id es (some (.row sz fs))=some [(id,.row sz es)]:=rfl
@[simp] theorem loadC_some:Q8u t id i k n (some (sz,es))=some (i<es.length∧k+t.sz≤sz,{ v:=bif t.agg then .agg (Q12 id i k n (((es.getD i []).drop k).take t.sz)).1 else (Q12 id i k n (((es.getD i []).drop k).take t.sz)).1.getD 0 .bot,new:=(Q12 id i k n (((es.getD i []).drop k).take t.sz)).2,cnt:=t.sz }):=rfl
@[simp] theorem loadE_mix:Qa9 t id i k n h (some (.mix sz es))=some (i<es.length∧k+t.sz≤sz,{ v:=bif t.agg then .agg (((es.getD i []).drop k).take t.sz) else (es.getD i []).getD k .bot }):=rfl
@[simp] theorem loadE_row:Qa9 t id i k n h (some (.row sz es))=Q8u t id i k n (some (sz,es)):=rfl
@[simp] theorem loadE_ali:Qa9 t id i k n h (some (.ali c j l sz))=Q8u t id i k n (cont h depth id):=rfl
@[simp] theorem loadv_rptr {cs:List AV}:Q2B (some t) (.rptr cs) h n=some (t.sz≤cs.length,{ v:=bif t.agg then .agg (cs.take t.sz) else cs.getD 0 .bot }):=rfl
@[simp] theorem storeC_some {v:Value}:Q51 t id i k (.val v) h (some (sz,es))=if t.sz=1∧Q6x v=true then (wr h depth id (es.set i ((es.getD i []).set k (.val v)))).map (fun s=>(i<es.length∧k<sz,{ v:=.bot,set:=s })) else none:=by
 simp only [Q51];split
 ·cases wr h depth id (es.set i ((es.getD i []).set k (.val v)))<;>rfl
 rfl
@[simp] theorem storeC_own {a b c:Nat}:Q51 t id i k (.own a b c) h (some (sz,es))=none:=rfl
@[simp] theorem storeE_mix:Q7Y t id i k x h (some (.mix sz es))=if x.cells.length=t.sz && Q53 x then
    some (i<es.length∧k+t.sz≤sz,{ v:=.bot,set:=[(id,.mix sz (es.set i (Q1I (es.getD i []) k x.cells)))] }) else none:=rfl
@[simp] theorem storeE_row:Q7Y t id i k x h (some (.row sz es))=Q51 t id i k x h (cont h depth id):=rfl
@[simp] theorem storeE_ali:Q7Y t id i k x h (some (.ali c j l sz))=Q51 t id i k x h (cont h depth id):=rfl
@[simp] theorem layE_row:layE h d id n (some (.row sz es))=if es.length=n then some (.lst true sz es,[id]) else none:=rfl
@[simp] theorem layE_mix:layE h d id n (some (.mix sz es))=if es.length=n then (Q1R (layD h d) es).map (fun p=>(.lst true sz p.1,id :: p.2)) else none:=by
 simp only [layE];split
 ·cases Q1R (layD h d) es<;>rfl
 rfl
@[simp] theorem idxC_some:idxC t id off n q (some (sz,es))=if sz=t.sz then some (0≤q∧q<n,{ v:=.adr id (off+q.toNat) 0 }) else none:=rfl
@[simp] theorem srcE_mix {z:Nat}:srcE h sz id off n (some (.mix z es))=if z=sz then (Q4l h ((es.drop off).take n)).map (fun p=>(off+n≤es.length,p.1,p.2)) else none:=by
 simp only [srcE];split
 ·cases Q4l h ((es.drop off).take n)<;>rfl
 rfl
@[simp] theorem srcE_row {z:Nat}:srcE h sz id off n (some (.row z es))=if z=sz then some (off+n≤es.length∧∀ e∈es,∀ c∈e,isVal c=true,(es.drop off).take n,[]) else none:=rfl
@[simp] theorem baseE_row {z:Nat}:baseE h sz id m (some (.row z es))=if z=sz then some (m≤es.length,es.take m,[id],[]) else none:=rfl
@[simp] theorem baseE_mix {z:Nat}:baseE h sz id m (some (.mix z es))=if z=sz then (Q4l h (es.take m)).map (fun p=>(m≤es.length,p.1,[id],p.2)) else none:=by
 simp only [baseE];split
 ·cases Q4l h (es.take m)<;>rfl
 rfl
@[simp] theorem appE_some {c1 c2:Prop} {is d1 d2:List Nat} {news:List (List AV)}:appE t n (some (c1,es,is,d1)) (some (c2,news,d2))=if (n :: (is++(d1++d2))).Nodup then
    some (c1∧c2∧(es.length+news.length) * t.bytes≤140737488355328∧es.length+news.length≤140737488355328∧0<t.sz,
     { v:=.own n 0 (es.length+news.length),del:=is++(d1++d2),new:=[(n,.row t.sz (es++news))],cnt:=1 }) else none:=rfl
@[simp] theorem slcC_some {lo hi:Int}:slcC t id off n lo hi (some (sz,es))=if sz=t.sz then some (0≤lo∧lo≤hi∧hi≤n,{ v:=.own id (off+lo.toNat) (hi - lo).toNat }) else none:=rfl
end
def runE (P:Program) (mt:MT) (all:Array Oper) (os:List Oper) (dst:Option Nat) (st:St) (K:St→Prop) (x:Option (Prop × Eff)):Prop:=Q68 (fun st'=>QV P mt all os st' K) dst st x
def runS (P:Program) (mt:MT) (all:Array Oper) (os:List Oper) (dst:Option Nat) (st:St) (K:St→Prop) (t:TypeId) (av xv:AV) (x:Option (Prop × Eff)):Prop:=Q4L (fun st'=>QV P mt all os st' K) (stoA P mt all t av xv dst os st K) dst st x
def runO (P:Program) (mt:MT) (all:Array Oper) (os:List Oper) (dst:Option Nat) (st:St) (K:St→Prop) (op:Op):Prop:=Q55 P mt all os K (fun st'=>QV P mt all os st' K) dst st op
def Q4T (P:Program) (mt:MT) (all:Array Oper) (os:List Oper) (dst:Option Nat) (st:St) (K:St→Prop) (op:Op) (t:Nat) (want:Bool) (x:AV):Prop:=guardW P mt all os K (fun st'=>QV P mt all os st' K) dst st op t want x
def guardT (P:Program) (mt:MT) (all:Array Oper) (os:List Oper) (dst:Option Nat) (st:St) (K:St→Prop) (op:Op) (want:Bool) (x:Option Nat):Prop:=Q8o P mt all os K (fun st'=>QV P mt all os st' K) dst st op want x
section
variable {P:Program} {mt:MT} {all:Array Oper} {os:List Oper} {dst:Option Nat} {st:St} {K:St→Prop} {op:Op} {ty:TypeId} {pos:String} {af:Array Edge}
@[simp] theorem runE_some {c:Prop} {e:Eff}:runE P mt all os dst st K (some (c,e))=(c∧QV P mt all os (st.app dst e) K):=rfl
@[simp] theorem callE_fn {f:Nat} {caps az:List AV}:callE P mt all az dst os st K (.fn f caps)=Q8f P mt all f (az++caps) dst os st K:=rfl
@[simp] theorem runO_call {x:Operand} {args:Array Operand} {ts:Array TypeId}:runO P mt all os dst st K (.call ⟨.value x,args,ts⟩)=callE P mt all (args.toList.map st.ev) dst os st K (st.ev x):=rfl
@[simp] theorem runO_move {x}:runO P mt all os dst st K (.move x)=QV P mt all os (st.app dst { v:=st.ev x }) K:=by simp [runO,Q55,Q68,opF]
@[simp] theorem runO_assign {x}:runO P mt all os dst st K (.assign x)=QV P mt all os (st.app dst { v:=st.ev x }) K:=by simp [runO,Q55,Q68,opF]
@[simp] theorem runO_pick {c a b}:runO P mt all os dst st K (.pick c a b)=runE P mt all os dst st K (pick (st.ev c) (st.ev a) (st.ev b)):=rfl
@[simp] theorem runO_alloc {e}:runO P mt all os dst st K (.alloc e)=runE P mt all os dst st K (Vc.alloc (tyi P e) st.n):=rfl
@[simp] theorem runO_box {t x}:runO P mt all os dst st K (.box t x)=runE P mt all os dst st K (boxv (st.ev x) st.n):=rfl
@[simp] theorem runO_build {t parts}:runO P mt all os dst st K (.build t parts)=runE P mt all os dst st K (build (tyi P t) (Q3t P t) (parts.toList.map fun p=>(p.1,st.ev p.2))):=rfl
def elmE (g:TypeId→Option (Prop × Eff)):Option TypeId→Option (Prop × Eff)
 | some e=>g e
 | none=>none
@[simp] theorem elmE_some {g:TypeId→Option (Prop × Eff)} {e:TypeId}:elmE g (some e)=g e:=rfl
@[simp] theorem runO_buildSlice {t len parts}:runO P mt all os dst st K (.buildSlice t len parts)=runE P mt all os dst st K (elmE (fun e=>buildSlice (tyi P e) len (parts.toList.map fun p=>(p.1,st.ev p.2)) st.n) (elm P t)):=by
 simp only [runO,runE,Q55,opF];cases elm P t<;>rfl
@[simp] theorem runO_load {t a}:runO P mt all os dst st K (.load t a)=runE P mt all os dst st K (Q2B (tyi P t) (st.ev a) st.hp st.n):=rfl
@[simp] theorem runO_store {t a x}:runO P mt all os dst st K (.store t a x)=runS P mt all os dst st K t (st.ev a) (st.ev x) (Q33 (tyi P t) (st.ev a) (st.ev x) st.hp):=rfl
@[simp] theorem runS_some {t:TypeId} {av xv:AV} {c:Prop} {e:Eff}:runS P mt all os dst st K t av xv (some (c,e))=(c∧QV P mt all os (st.app dst e) K):=rfl
@[simp] theorem runS_none {t:TypeId} {av xv:AV}:runS P mt all os dst st K t av xv none=stoA P mt all t av xv dst os st K:=rfl
@[simp] theorem runO_nilCheck {x}:runO P mt all os dst st K (.nilCheck x)=runE P mt all os dst st K (nilCheck (st.ev x)):=rfl
@[simp] theorem runO_binOp {o xt x y yt}:runO P mt all os dst st K (.binOp o xt x y yt)=runE P mt all os dst st K (Q5r (eqT P xt) o (st.ev x) (st.ev y)):=rfl
@[simp] theorem runO_unOp {o t x}:runO P mt all os dst st K (.unOp o t x)=runE P mt all os dst st K (unop o (st.ev x)):=rfl
@[simp] theorem runO_convert {s d x}:runO P mt all os dst st K (.convert s d x)=runE P mt all os dst st K (Q6L (intk P s) (intk P d) (st.ev x)):=rfl
@[simp] theorem runO_makeSlice {t l c}:runO P mt all os dst st K (.makeSlice t l c)=runE P mt all os dst st K (elmE (fun e=>Q4V (tyi P e) (st.ev l) (st.ev c) st.n) (elm P t)):=by
 simp only [runO,runE,Q55,opF];cases elm P t<;>rfl
@[simp] theorem runO_fieldAddr {t x k}:runO P mt all os dst st K (.fieldAddr t x k)=runE P mt all os dst st K (fieldAddr (fld P t k) (st.ev x)):=rfl
@[simp] theorem runO_field {t x k}:runO P mt all os dst st K (.field t x k)=runE P mt all os dst st K (Q5w (fld P t k) (st.ev x)):=rfl
@[simp] theorem runO_indexAddr {t x i}:runO P mt all os dst st K (.indexAddr t x i)=runE P mt all os dst st K (elmE (fun e=>QZ (tyi P e) (st.ev x) (st.ev i) st.hp) (elm P t)):=by
 simp only [runO,runE,Q55,opF];cases elm P t<;>rfl
@[simp] theorem runO_extract {x k}:runO P mt all os dst st K (.extract x k)=runE P mt all os dst st K (Q39 (st.ev x) k):=rfl
@[simp] theorem runO_len {x t ts} (h:ts = #[t]):runO P mt all os dst st K (.call ⟨.builtin .len,#[x],ts⟩)=runE P mt all os dst st K (elmE (fun _=>lenv (st.ev x)) (elm P t)):=by
 subst h;simp only [runO,runE,Q55,opF,bltF];cases elm P t<;>rfl
@[simp] theorem runO_append {x y t u}:runO P mt all os dst st K (.call ⟨.builtin .append,#[x,y],#[t,u]⟩)=runE P mt all os dst st K (elmE (fun e=>if t=u then Q2j (tyi P e) (st.ev x) (st.ev y) st.hp st.n else none) (elm P t)):=by
 simp only [runO,runE,Q55,opF,bltF];cases elm P t<;>rfl
@[simp] theorem runO_min {xs ts}:runO P mt all os dst st K (.call ⟨.builtin .min,xs,ts⟩)=runE P mt all os dst st K (Q41 (fun a b=>if b<a then b else a) (xs.toList.map st.ev)):=rfl
@[simp] theorem runO_max {xs ts}:runO P mt all os dst st K (.call ⟨.builtin .max,xs,ts⟩)=runE P mt all os dst st K (Q41 (fun a b=>if b > a then b else a) (xs.toList.map st.ev)):=rfl
@[simp] theorem runOps_nil:QV P mt all [] st K=K st:=rfl
@[simp] theorem runOps_go:QV P mt all (⟨dst,op,ty,pos,af,none⟩ :: os) st K=runO P mt all os dst st K op:=rfl
@[simp] theorem runOps_guard {j:Nat} {want:Bool}:QV P mt all (⟨dst,op,ty,pos,af,some (j,want)⟩ :: os) st K=guardT P mt all os dst st K op want ((all[j]?).bind (·.dst)):=rfl
@[simp] theorem guardT_some {want:Bool} {t:Nat}:guardT P mt all os dst st K op want (some t)=Q4T P mt all os dst st K op t want (st.get t):=rfl
theorem Qd {want:Bool} {t:Nat} {b:Bool}:Q4T P mt all os dst st K op t want (.val (.bool b))=((b=want→runO P mt all os dst (st.put t (.val (.bool want))) K op)∧(b = !want→QV P mt all os ((st.put t (.val (.bool !want))).app dst { v:=.tup [] }) K)):=rfl
attribute [local simp] Qd
@[simp high] theorem guardE_tup {t:Nat} {want:Bool}:Q4T P mt all os dst st K op t want (.tup [])=QV P mt all os (st.app dst { v:=.tup [] }) K:=rfl
@[simp high] theorem guardE_tt {t:Nat}:Q4T P mt all os dst st K op t true (.val (.bool true))=runO P mt all os dst (st.put t (.val (.bool true))) K op:=by simp [Qd]
@[simp high] theorem guardE_ff {t:Nat}:Q4T P mt all os dst st K op t false (.val (.bool false))=runO P mt all os dst (st.put t (.val (.bool false))) K op:=by simp [Qd]
@[simp high] theorem guardE_tf {t:Nat}:Q4T P mt all os dst st K op t true (.val (.bool false))=QV P mt all os ((st.put t (.val (.bool false))).app dst { v:=.tup [] }) K:=by simp [Qd]
@[simp high] theorem guardE_ft {t:Nat}:Q4T P mt all os dst st K op t false (.val (.bool true))=QV P mt all os ((st.put t (.val (.bool true))).app dst { v:=.tup [] }) K:=by simp [Qd]
end
attribute [simp] cont_E wr_E Q8v storev_E layD_val layD_E Q8r Q8q src_nil src_lst src_E base_nil base_E appendv_E Q8H Q8G
attribute [simp] rl rlL rlLL rlE Q6x St.ev cst scB St.app putS Q42 Q3y Q3o St.get look lenv Q5r binop unop pick St.put setH delH fieldAddr Q5w nilCheck depth Qp Q3U Q5s roundA Q4V Q6L Q39 slen Q3F Q41 Qa6 build Q67 Q1I Q7n rep Q4S buildSlice Q2b Q1R layC alloc boxv Q12 AV.cells isVal Q53
section
attribute [local simp] Qd QD Qq
def Q4F:Nat→List Mu→List (Nat × Ent)
 | _,[]=>[]
 | j,u :: r=>(j,.row u.sz u.es) :: Q4F (j+1) r
theorem Qaa:∀ (ms:List Mu) (j id:Nat),look id (Q4F j ms)=if j≤id∧id<j+ms.length then some (.row (ms.getD (id - j) .none).sz (ms.getD (id - j) .none).es) else none:=by
 intro ms
 induction ms with
 | nil=>intro j id;simp only [Q4F,look];rw [if_neg (by simp)]
 | cons u r ih =>
  intro j id;simp only [Q4F,look]
  by_cases h:j=id
  ·subst h;simp
  rw [if_neg h,ih]
  by_cases h2:j+1≤id∧id<j+1+r.length
  ·rw [if_pos h2,if_pos (by simp;omega)];have:id - j=(id - (j+1))+1:=(by omega);rw [this,List.getD_cons_succ]
  rw [if_neg h2,if_neg (by simp;omega)]
def Q8B (ts:List Nat) (st:St) (res:AV):Prop :=
 match ts,res with
 | [t],.val v=>st.get t = .val v
 | [],.tup []=>True
 | _,_=>False
structure MRet (ts:List Nat) (res:AV) (ms:List Mu) (st:St):Prop where
 res:Q8B ts st res
 ent:∀ j,j<ms.length→look j st.h=some (.row (ms.getD j .none).sz (ms.getD j .none).fs)
def mretQ (ts:List Nat) (res:AV) (ms:List Mu):Exit→St→Prop
 | .normal,st=>MRet ts res ms st
 | .ret,st=>MRet ts res ms st
 | _,_=>False
theorem Q1x {P:Program} {f:Nat} {fn:Func} {c:Code} {args:List AV} {ms:List Mu} {ts:List Nat} {res:AV} {rv:Value} (hf:P.funcs[f]? = some fn) (hb:fn.body=some c) (hrt:resT fn.results=some ts) (hrv:resV res=some rv)
  (hname : (fn.name == "runtime.NumGoroutine") = false) (hN : args.length ≤ fn.ntmps) (hlen : ∀ j, j < ms.length → (ms.getD j .none).fs.length = (ms.getD j .none).es.length)
  (h:∀ F:Fx,F.N=fn.ntmps→F.pins=ms.length→Wp P F c (mretQ ts res ms) ⟨Q3o 0 args,Q4F 0 ms,ms.length⟩):MContract P f args ms res:=by
 refine ⟨⟨fn,hf,hname,by rw [hb];rfl⟩,hlen,rv,hrv,fun w R o ρ vals hp=>?_⟩;refine calls_of_wp hf hb ?_
 let C:Ctx:=⟨w,fun b=>∃ L,o b=some L,ρ,ms.length⟩
 have hment:∀ id e,look id (Q4F 0 ms)=some e→id<ms.length∧e = .row (ms.getD id .none).sz (ms.getD id .none).es:=by
  intro id e he;rw [Qaa] at he;split at he
  ·rename_i h1;simp only [Nat.sub_zero,qA] at he;exact ⟨by omega,he.symm⟩
  cases he
 have hsz:=hp.size;have hrel:Rel C R fn.ntmps { tmps:=vals++zC (fn.ntmps - vals.size) undef,defers:=[] } w ⟨Q3o 0 args,Q4F 0 ms,ms.length⟩:=by
  refine ⟨by simp;omega,rfl,fun id x h=>(hment id x h).1,o,ρ,⟨hp.hR,fun b L hb=>⟨hp.ho b L hb,.inr ⟨L,hb⟩⟩,rfl,⟨rfl,qE _⟩,rfl,qE _,fun b _ _=>rfl⟩,
   ⟨fun id sz es bk he hb=>?_,fun id sz es bk he hb=>?_,fun id c i k sz bk he hb=>?_,fun id kd es bk he hb=>?_⟩,fun t=>?_,fun id k hk=>hp.lim id k hk,fun id _=>rfl,qE _⟩
  ·have:=(hment id _ he).2;cases this
  ·obtain ⟨h1,h2⟩:=hment id _ he;cases h2;obtain ⟨v,h3,h4⟩:=hp.ent id bk h1 hb;exact ⟨v,h4,h3⟩
  ·have:=(hment id _ he).2;cases this
  ·have:=(hment id _ he).2;cases this
  simp only [St.get,Q2u]
  by_cases ht:t<args.length
  ·rw [if_pos (by omega)];simp only [Nat.sub_zero,qZ];have:=hp.args t ht;have h2:(vals++zC (fn.ntmps - vals.size) undef).getD t undef=vals.getD t undef:=by
    simp [qW,show t<vals.size by omega]
   rw [h2];exact this
  rw [if_neg (by omega)];exact .bot
 refine Q3R (fun e a w' hq=>?_) (h ⟨C,R,fn.ntmps,ms.length,rfl⟩ rfl rfl _ w (.of hrel));obtain ⟨st,⟨R',hX,hr⟩,hq⟩:=hq;have fin:MRet ts res ms st→a.defers=[]∧∃ v,(results fn a.tmps).run P w' = .ok v w'∧(Ending.returned v = .returned rv∧MPost w w' R o ρ ms):=by
  intro hA;obtain ⟨_,hdef,_,o',ρ',W,H,hx,_,hpin⟩:=hr;refine ⟨hdef,_,Q3g hrt _,?_,W.os,W.tape,W.output,W.size,fun b hb hob=>W.keep b hb (by rintro ⟨L,hL⟩;rw [hob] at hL;cases hL),o',fun b L hb=>W.o b L hb,fun j bk hj hbk=>?_⟩
  ·have h1:=hA.res;unfold Q8B at h1;split at h1
   ·rename_i t v;have h2:=hx t;rw [h1] at h2;simp only [resV] at hrv;split at hrv
    ·cases hrv;simp only [qJ,List.map_nil,Q2q];rw [h2.val_eq.1]
    cases hrv
   ·simp only [resV,qA] at hrv;subst hrv;rfl
   exact h1.elim
  obtain ⟨v,h1,h2⟩:=H.row j _ _ bk (hA.ent j hj) ((hpin.1 j hj).trans hbk);exact ⟨v,h2,h1.anyR⟩
 cases e with
 | normal=>exact fin hq
 | ret=>exact fin hq
 | _=>exact hq.elim
def Q6U:Ent→Bool
 | .ali _ _ _ _=>true
 | _=>false
theorem MCall.cell {st:St} {id r i k sz szr:Nat} {es fs:List (List AV)} {esr:List (List AV)} {dels:List Nat} (h1:look id st.h=some (.ali r i k sz)) (h2:look r st.h=some (.row szr esr)) (hi:i<esr.length) (hk:k<szr) (hks:k<(esr.getD i []).length)
  (hc:(esr.getD i []).getD k .bot = .lst true sz es) (hd:∀ x∈dels,x<st.n) (ha:∀ p∈st.h,Q6U p.2=true→p.1∈dels) :
  MCall st.hp st.n [⟨sz,es,fs⟩] [id] (fun _=>[r,i,k]) [(r,.row szr (esr.set i ((esr.getD i []).set k (.lst true sz fs))))] dels:=by
 have h0:∀ j,j < [(⟨sz,es,fs⟩:Mu)].length→j=0:=fun j hj=>by simpa using hj
 have hset:=fun j l=>Q4r esr i k (.lst true sz fs) j l hi hks;refine ⟨rfl,fun j hj=>?_,fun i' j hi' hj hij=>?_,by simp,fun r' e he=>?_,fun j r' M hj hP=>?_,hd,fun id' c i' k' s' hid he=>.inl ?_⟩
 ·have:=h0 j hj;subst this;exact .cell h1 h2 hi hk hc
 ·have:=h0 j hj;have:=h0 i' hi';omega
 ·simp only [look] at he;split at he
  ·rename_i hr;subst hr;simp only [qA] at he;subst he;refine ⟨szr,esr,_,h2,rfl,⟨fun j hj hP=>by simp at hP,by simp,fun _ j hj=>by rw [Q7a],fun i2 k2 j hj hP hi2 hk2=>?_,fun i2 k2 hi2 hk2 hm=>?_⟩⟩
   ·have:=h0 j hj;subst this;simp only [List.cons.injEq,and_true,true_and] at hP;rw [hset];rw [if_pos ⟨hP.1.symm,hP.2.symm⟩];rfl
   rw [hset];rw [if_neg]
   rintro ⟨rfl,rfl⟩
   exact (hm 0 (by simp)).2 rfl
  cases he
 ·simp only [List.cons.injEq] at hP;simp [look,hP.1]
 exact ha (id',_) (Qg he) rfl
def Q54:List Nat→List Mu→List (Nat × Ent)
 | id :: m,u :: ms=>(id,.row u.sz u.fs) :: Q54 m ms
 | _,_=>[]
theorem Q4K:∀ (m:List Nat) (ms:List Mu),m.length=ms.length→(Q54 m ms).map Prod.fst=m:=by
 intro m
 induction m with
 | nil=>intro ms _;cases ms<;>rfl
 | cons id m ih =>
  intro ms h;cases ms with
  | nil=>simp at h
  | cons u ms=>simp [Q54,ih ms (by simpa using h)]
theorem Qao:∀ (m:List Nat) (ms:List Mu) (r:Nat) (e:Ent),m.length=ms.length→look r (Q54 m ms)=some e→∃ j,j<ms.length∧m.getD j 0=r∧e = .row (ms.getD j .none).sz (ms.getD j .none).fs:=by
 intro m
 induction m with
 | nil=>intro ms r e _ h;cases ms<;>cases h
 | cons id m ih =>
  intro ms r e hl h;cases ms with
  | nil=>simp at hl
  | cons u ms =>
   simp only [Q54,look] at h;split at h
   ·rename_i hr;cases h;exact ⟨0,by simp,by simpa using hr,rfl⟩
   obtain ⟨j,h1,h2,h3⟩:=ih ms r e (by simpa using hl) h;exact ⟨j+1,by simpa using h1,by simpa using h2,by simpa using h3⟩
theorem Q9m {m:List Nat} (hn:m.Nodup) {i j:Nat} (hi:i<m.length) (hj:j<m.length) (h:m.getD i 0=m.getD j 0):i=j:=by
 rw [qB,qB,qF hi,qF hj] at h;exact (List.getElem_inj hn).1 (by simpa using h)
theorem MCall.roots {st:St} {ms:List Mu} {m:List Nat} {dels:List Nat} (hl:m.length=ms.length) (hn:m.Nodup) (hr:∀ j,j<ms.length→look (m.getD j 0) st.h=some (.row (ms.getD j .none).sz (ms.getD j .none).es))
  (hlen:∀ j,j<ms.length→(ms.getD j .none).fs.length=(ms.getD j .none).es.length) (hd:∀ x∈dels,x<st.n) (ha:∀ p∈st.h,Q6U p.2=true→p.1∈dels) :
  MCall st.hp st.n ms m (fun j=>[m.getD j 0]) (Q54 m ms) dels:=by
 refine ⟨hl,fun j hj=>.root (hr j hj),fun i j hi hj hij hp=>?_,by rw [Q4K m ms hl];exact hn,fun r e he=>?_,fun j r M hj hP=>?_,hd,fun id' c i' k' s' hid he=>.inl ?_⟩
 ·have h1:m.getD i 0=m.getD j 0:=by simpa using hp
  exact hij (Q9m hn (by omega) (by omega) h1)
 ·obtain ⟨j,h1,h2,h3⟩:=Qao m ms r e hl he;refine ⟨_,(ms.getD j .none).es,(ms.getD j .none).fs,by rw [← h2];exact hr j h1,h3,⟨fun j' hj' hP=>?_,hlen j h1,fun hne=>?_,fun i k j' hj' hP=>?_,fun i k hi hk hm=>?_⟩⟩
  ·have h4:m.getD j' 0=m.getD j 0:=(by rw [h2];simpa using hP);rw [Q9m hn (by omega) (by omega) h4]
  ·exact absurd (by rw [h2]) (hne j h1)
  ·simp at hP
  exact absurd (by rw [h2]) (hm j h1).1
 ·simp only [List.cons.injEq] at hP;have hk:r∈(Q54 m ms).map Prod.fst:=by
   rw [Q4K m ms hl,← hP.1,qB,qF (by omega)];simp
  cases hlk:look r (Q54 m ms) with
  | some x=>rfl
  | none =>
   exfalso;obtain ⟨q,hq,hqe⟩:=List.mem_map.1 hk;obtain ⟨a,b⟩:=q;simp only at hqe;subst hqe;rw [QO (by rw [Q4K m ms hl];exact hn) hq] at hlk;cases hlk
 exact ha (id',_) (Qg he) rfl
theorem Q1N {P:Program} {all:Array Oper} {f:Nat} {id n:Nat} {v:Value} {u:Mu} {res:AV} {dst:Option Nat} {os:List Oper} {st:St} {K:St→Prop} (hc:MContract P f [.own 0 0 n,.val v] [u] res)
  (hr:look id st.h=some (.row u.sz u.es)) (ha:∀ p∈st.h,Q6U p.2=false) (h:QV P true all os (st.app dst { v:=res,set:=[(id,.row u.sz u.fs)] }) K):Q8f P true all f [.own id 0 n,.val v] dst os st K:=by
 have h0:∀ j,j < [u].length→j=0:=fun j hj=>by simpa using hj
 refine Q5t (m:=[id]) hc (MCall.roots (dels:=[]) rfl (by simp) (fun j hj=>by have:=h0 j hj;subst this;exact hr) hc.len (by simp) (fun p hp hi=>by rw [ha p hp] at hi;cases hi)) rfl (fun q hq=>?_) (fun j hj=>⟨0,by simp,?_⟩) h
 ·match q,hq with
  | 0,_=>exact .own (j:=0) (by simp)
  | 1,_=>exact .val
 have:=h0 j hj;subst this;rfl
theorem stoA_row {P:Program} {mt:MT} {all:Array Oper} {t:TypeId} {ty:Tyi} {xv b:AV} {id i k sz:Nat} {es:List (List AV)} {ds:List Nat} {dst:Option Nat} {os:List Oper} {st:St} {K:St→Prop} (dels:List Nat) (h1:tyi P t=some ty) (h2:ty.sz=1)
  (he:look id st.h=some (.row sz es)) (hl:layC st.hp xv=some (b,ds)) (hi:i<es.length) (hk:k<sz) (hn:(id :: ds).Nodup) (hlt:∀ y∈ds++dels,y<st.n) (ha:∀ p∈st.h,Q6U p.2=true→p.1∈dels)
  (h:QV P mt all os (st.app dst { v:=.bot,set:=[(id,.row sz (es.set i ((es.getD i []).set k b)))],del:=ds++dels }) K):stoA P mt all t (.adr id i k) xv dst os st K :=
 QaD dels h1 h2 ⟨he,hl,hi,hk,hn,hlt,fun id' _ _ _ _ _ h3=>.inl (ha (id',_) (Qg h3) rfl)⟩ h
attribute [simp] Q6U Q4F Q8B
end
section
attribute [local simp] Qd QD Qq
theorem PurTo.aggL {h:HP} {xs ys:List AV} (hp:PurL h xs ys):PurTo h (.agg xs) (.agg ys):=.agg hp.1 hp.2
inductive MArgL (m:List Nat):List AV→List AV→Prop
 | nil:MArgL m [] []
 | cons {a b xs ys}:MArg m a b→MArgL m xs ys→MArgL m (a :: xs) (b :: ys)
theorem MArgL.get {m:List Nat} {xs ys:List AV} (h:MArgL m xs ys):xs.length=ys.length∧∀ k,k<ys.length→MArg m (xs.getD k .bot) (ys.getD k .bot):=by
 induction h with
 | nil=>exact ⟨rfl,fun k hk=>by simp at hk⟩
 | cons h _ ih =>
  refine ⟨by simp [ih.1],fun k hk=>?_⟩;cases k with
  | zero=>simpa using h
  | succ k=>simpa using ih.2 k (by simpa using hk)
theorem MArg.aggL {m:List Nat} {xs ys:List AV} (h:MArgL m xs ys):MArg m (.agg xs) (.agg ys):=.agg h.get.1 fun k hk=>h.get.2 k (by have:=h.get.1;omega)
inductive Roots (h:List (Nat × Ent)):List Nat→List Mu→Prop
 | nil:Roots h [] []
 | cons {id u m ms}:look id h=some (.row u.sz u.es)→Roots h m ms→Roots h (id :: m) (u :: ms)
theorem Roots.get {h:List (Nat × Ent)} {m:List Nat} {ms:List Mu} (hr:Roots h m ms):m.length=ms.length∧∀ j,j<ms.length→look (m.getD j 0) h=some (.row (ms.getD j .none).sz (ms.getD j .none).es):=by
 induction hr with
 | nil=>exact ⟨rfl,fun j hj=>by simp at hj⟩
 | cons h _ ih =>
  refine ⟨by simp [ih.1],fun k hk=>?_⟩;cases k with
  | zero=>simpa using h
  | succ k=>simpa using ih.2 k (by simpa using hk)
def occC (id:Nat):AV→Bool
 | .own i _ _=>Nat.beq i id
 | _=>false
def occB (id:Nat):AV→Bool
 | .own i _ _=>Nat.beq i id
 | .agg cs=>cs.any (occC id)
 | _=>false
theorem occC_own {id:Nat} {a:AV} (h:occC id a=true):∃ off n,a = .own id off n:=by
 unfold occC at h;split at h
 ·cases Nat.eq_of_beq_eq_true h;exact ⟨_,_,rfl⟩
 cases h
theorem occB_occ {id:Nat} {a:AV} (h:occB id a=true):Occ id a:=by
 unfold occB at h;split at h
 ·exact Nat.eq_of_beq_eq_true h
 ·rename_i cs;obtain ⟨x,hx,hc⟩:=List.any_eq_true.1 h;obtain ⟨l,hl,rfl⟩:=List.getElem_of_mem hx;obtain ⟨off,n,he⟩:=occC_own hc;exact ⟨l,hl,off,n,by simp [qB,hl,he]⟩
 cases h
theorem Q44 {P:Program} {all:Array Oper} {f:Nat} {az args:List AV} {m:List Nat} {ms:List Mu} {res:AV} {dst:Option Nat} {os:List Oper} {st:St} {K:St→Prop} (hc:MContract P f args ms res)
  (hn:m.Nodup) (hr:Roots st.h m ms) (ha:MArgL m az args) (ho:(m.all fun id=>az.any (occB id))=true) (hali:∀ p∈st.h,Q6U p.2=false)
  (h:QV P true all os (st.app dst { v:=res,set:=Q54 m ms }) K):Q8f P true all f az dst os st K:=by
 refine Q5t (m:=m) hc (MCall.roots (dels:=[]) hr.get.1 hn hr.get.2 hc.len (by simp) (fun p hp hi=>by rw [hali p hp] at hi;cases hi)) ha.get.1 ha.get.2 (fun j hj=>?_) h;have hj':j<m.length:=by rw [hr.get.1];exact hj
 have:=List.all_eq_true.1 ho _ (zE hj');obtain ⟨a,ha1,ha2⟩:=List.any_eq_true.1 this;obtain ⟨k,hk,rfl⟩:=List.getElem_of_mem ha1;refine ⟨k,by rw [← ha.get.1];exact hk,?_⟩;have:=occB_occ ha2;simpa [qB,hj',hk] using this
inductive Ents (h:List (Nat × Ent)):Nat→List Mu→Prop
 | nil {j}:Ents h j []
 | cons {j u ms}:look j h=some (.row u.sz u.fs)→Ents h (j+1) ms→Ents h j (u :: ms)
theorem Ents.get {h:List (Nat × Ent)} {j:Nat} {ms:List Mu} (he:Ents h j ms):∀ i,i<ms.length→look (j+i) h=some (.row (ms.getD i .none).sz (ms.getD i .none).fs):=by
 induction he with
 | nil=>intro i hi;simp at hi
 | cons h _ ih =>
  intro i hi;cases i with
  | zero=>simpa using h
  | succ i=>have:=ih i (by simpa using hi);simpa [Nat.add_comm,Nat.add_left_comm] using this
theorem mret {ts:List Nat} {res:AV} {ms:List Mu} {st:St} (h1:Q8B ts st res) (h2:Ents st.h 0 ms):MRet ts res ms st:=⟨h1,fun j hj=>by simpa using h2.get j hj⟩
end
section
attribute [local simp] Qd QD Qq
structure IRet (ts:List Nat) (H:List (Nat × Ent)) (n:Nat) (e:Eff) (st:St):Prop where
 res:QM (ts.map st.get)=e.v
 n:st.n=n+e.cnt
 h:st.h=Q42 e.set (Q3y e.del H)++e.new
def iretQ (ts:List Nat) (H:List (Nat × Ent)) (n:Nat) (e:Eff):Exit→St→Prop
 | .normal,st=>IRet ts H n e st
 | .ret,st=>IRet ts H n e st
 | _,_=>False
theorem res_rel {w:World} {R:Nat→Prop} {ρ:Nat→Option Bk} {tmps:Array Value} {st:St} (hx:∀ t,XRel w R ρ (tmps.getD t undef) (st.get t)) (ts:List Nat) :
  XRel w R ρ (Q2q (ts.map fun t=>tmps.getD t undef)) (QM (ts.map st.get)):=by
 match ts with
 | []=>exact .tup rfl fun k hk=>by simp at hk
 | [t]=>exact hx t
 | t :: u :: r =>
  simp only [qJ,Q2q,QM];refine .tup (by simp) fun k hk=>?_;have hk':k<(t :: u :: r).length:=by simpa using hk
  have h1:((tmps.getD t undef :: tmps.getD u undef :: r.map fun t=>tmps.getD t undef).toArray).getD k undef=tmps.getD ((t :: u :: r)[k]) undef:=by
   have:(tmps.getD t undef :: tmps.getD u undef :: r.map fun t=>tmps.getD t undef)=(t :: u :: r).map fun t=>tmps.getD t undef:=rfl;rw [this];have hk2:k<(List.map (fun t=>tmps.getD t undef) (t :: u :: r)).toArray.size:=(by simpa using hk');rw [Array.getD_eq_getD_getElem?,qY hk2,qZ];simp only [List.getElem_toArray,List.getElem_map]
  have h2:(st.get t :: st.get u :: r.map st.get).getD k .bot=st.get ((t :: u :: r)[k]):=by
   have:(st.get t :: st.get u :: r.map st.get)=(t :: u :: r).map st.get:=rfl;rw [this,qB,List.getElem?_map,qF hk',qU,qZ]
  rw [h1,h2];exact hx _
theorem Q6p {P:Program} {f:Nat} {fn:Func} {c:Code} {az:List AV} {ts:List Nat} {H:List (Nat × Ent)} {n:Nat} {e:Eff} (hf:P.funcs[f]? = some fn) (hb:fn.body=some c) (hrt:resT fn.results=some ts)
  (hname : (fn.name == "runtime.NumGoroutine") = false) (hN : az.length ≤ fn.ntmps) (hH : ∀ p ∈ H, p.1 < n) (hfine : e.fine n) (hnew : ∀ id, n ≤ id → id < n + e.cnt → id ∈ e.new.map Prod.fst)
  (h:∀ F:Fx,F.N=fn.ntmps→F.pins=n→Wp P F c (iretQ ts H n e) ⟨Q3o 0 az,H,n⟩):ICon P f az (fun id=>look id H) n e:=by
 refine ⟨⟨fn,hf,hname,by rw [hb];rfl⟩,fun _=>hfine,fun C w g h' vals hag hne hlim W HH hsz hargs=>?_⟩;refine calls_of_wp hf hb ?_
 let C':Ctx:=⟨w,fun b=>∃ L,g.o b=some L,g.ρ,n⟩
 have hrel:Rel C' g.R fn.ntmps { tmps:=vals++zC (fn.ntmps - vals.size) undef,defers:=[] } w ⟨Q3o 0 az,H,n⟩:=by
  refine ⟨by simp;omega,rfl,fun id x hx=>hH (id,x) (Qg hx),g.o,g.ρ,⟨W.R,fun b L hb=>⟨(W.o b L hb).1,.inr ⟨L,hb⟩⟩,rfl,⟨rfl,qE _⟩,rfl,qE _,fun b _ _=>rfl⟩,
   HH.grow fun id k hk=>(hag id (hlim id k hk)).symm,fun t=>?_,hlim,fun id _=>rfl,qE _⟩
  simp only [St.get,Q2u]
  by_cases ht:t<az.length
  ·rw [if_pos (by omega)];simp only [Nat.sub_zero,qZ];have h2:(vals++zC (fn.ntmps - vals.size) undef).getD t undef=vals.getD t undef:=by
    simp [qW,show t<vals.size by omega]
   rw [h2];exact hargs t ht
  rw [if_neg (by omega)];exact .bot
 refine Q3R (fun ex a w' hq=>?_) (h ⟨C',g.R,fn.ntmps,n,rfl⟩ rfl rfl _ w (.of hrel));obtain ⟨st,⟨R',hX,hr⟩,hq⟩:=hq;have fin:IRet ts H n e st→a.defers=[]∧∃ v,(results fn a.tmps).run P w' = .ok v w'∧∃ v' R' o' ρ',Ending.returned v = .returned v'∧RX g.R R' C.w0.heap.size∧WF C w' ⟨R',o',ρ'⟩∧HRel w' ⟨R',o',ρ'⟩ (happ e h')∧(∀ id k,g.ρ id=some k→ρ' id=some k) ∧
   (∀ id k,ρ' id=some k→g.ρ id=some k∨(n≤id∧id<n+e.cnt))∧XRel w' R' ρ' v' e.v∧(∀ b,g.R b→w'.heap[b]? = w.heap[b]?):=by
  intro hA;obtain ⟨_,hdef,_,o',ρ',W',HH',hx,hlt',hpin⟩:=hr;obtain ⟨a1,a2,a3⟩:=hA;have hρ1:∀ id,id<n→ρ' id=g.ρ id:=hpin.1;have hcC:∀ b,b<C.w0.heap.size→¬ C.wrb b→g.o b=none:=by
   intro b hb hw;cases ho:g.o b with
   | none=>rfl
   | some L =>
    rcases (W.o b L ho).2 with h|h
    ·omega
    exact absurd h hw
  have hkeep:∀ b,b<w.heap.size→g.o b=none→w'.heap[b]? = w.heap[b]?:=fun b hb ho=>W'.keep b hb (by rintro ⟨L,hL⟩;rw [ho] at hL;cases hL);refine ⟨hdef,_,Q3g hrt _,_,R',o',ρ',rfl,⟨hX.1,fun b hb=>(hX.2 b hb).imp id (qN W.size)⟩,⟨W'.R,fun b L hb=>⟨(W'.o b L hb).1,?_⟩,W'.os.trans W.os,tpt W'.tape W.tape,W'.output.trans W.output,qN W.size W'.size,fun b hb hw=>?_⟩,
   HH'.grow fun id k hk=>?_,fun id k hk=>(hρ1 id (hlim id k hk)).trans hk,fun id k hk=>?_,?_,fun b hb=>hkeep b (W.R b hb).1 (W.R b hb).2⟩
  ·rcases (W'.o b L hb).2 with h|⟨L',h⟩
   ·exact .inl (qN W.size h)
   exact (W.o b L' h).2
  ·exact (hkeep b (qQ hb W.size) (hcC b hb hw)).trans (W.keep b hb hw)
  ·have hid:id<n+e.cnt:=(by rw [← a2];exact hlt' id k hk);have hl:look id st.h=match happ e (fun id=>look id H) id with|some x=>some x|none=>look id e.new:=by
    have:=Q26 (st:=⟨[],H,n⟩) none hfine id;simp only [St.app] at this;rw [a3];exact this
   show happ e h' id=look id st.h;rw [hl]
   by_cases hlt:id<n
   ·have hn:look id e.new=none:=by
     cases hq:look id e.new with
     | none=>rfl
     | some x=>have:=(hfine.new _ (Qg hq)).1;simp only at this;omega
    have he:happ e h' id=happ e (fun id=>look id H) id:=by
     simp only [happ,hag id hlt]
    rw [he,hn];cases happ e (fun id=>look id H) id<;>rfl
   obtain ⟨p,hp,hpe⟩:=List.mem_map.1 (hnew id (by omega) hid);have h1:happ e (fun id=>look id H) id=none:=by
    simp only [happ];have h2:look id e.set=none:=by
     cases hq:look id e.set with
     | none=>rfl
     | some x=>have:=hfine.sets.2 _ (Qg hq);simp only at this;omega
    have h3:look id H=none:=by
     cases hq:look id H with
     | none=>rfl
     | some x=>have:=hH _ (Qg hq);simp only at this;omega
    rw [h2,h3];simp
   have h2:happ e h' id=h' id:=by
    simp only [happ];have h2:look id e.set=none:=by
     cases hq:look id e.set with
     | none=>rfl
     | some x=>have:=hfine.sets.2 _ (Qg hq);simp only at this;omega
    rw [h2,if_neg];intro hd;have:=hfine.del id hd;omega
   rw [h1,h2];obtain ⟨i,x⟩:=p;simp only at hpe;subst hpe;rw [hne _ hp,QO hfine.nodup hp]
  ·by_cases hlt:id<n
   ·exact .inl ((hρ1 id hlt).symm.trans hk)
   exact .inr ⟨by omega,by rw [← a2];exact hlt' id k hk⟩
  rw [← a1];exact res_rel hx ts
 cases ex with
 | normal=>exact fin hq
 | ret=>exact fin hq
 | _=>exact hq.elim
end
section
attribute [local simp] Qd QD Qq
inductive RGet (P:Program) (st:St):List ResultVar→List AV→Prop
 | nil:RGet P st [] []
 | tmp {t r az}:RGet P st r az→RGet P st (.tmp t :: r) (st.get t :: az)
 | cell {a t ty id i k sz es r az}:tyi P t=some ty→ty.agg=true→st.get a = .adr id i k→look id st.h=some (.mix sz es)→i<es.length→k+ty.sz≤sz→RGet P st r az →
   RGet P st (.cell a t :: r) (.agg (((es.getD i []).drop k).take ty.sz) :: az)
 | cell1 {a t ty id i k sz es r az}:tyi P t=some ty→ty.agg=false→0<ty.sz→st.get a = .adr id i k→look id st.h=some (.mix sz es)→i<es.length→k+ty.sz≤sz→RGet P st r az →
   RGet P st (.cell a t :: r) ((es.getD i []).getD k .bot :: az)
def resM (tmps:Array Value):ResultVar→Sem Value
 | .tmp t=>pure (tmps.getD t undef)
 | .cell a t=>do loadVar t (← asAddr (tmps.getD a undef))
theorem rget_run {P:Program} {R:Nat→Prop} {w:World} {st:St} {o:Nat→Option (List Nat)} {ρ:Nat→Option Bk} (H:HRel w ⟨R,o,ρ⟩ st.hp) {tmps:Array Value} (hx:∀ t,XRel w R ρ (tmps.getD t undef) (st.get t))
  {rvs:List ResultVar} {az:List AV} (hg:RGet P st rvs az):∃ vs:List Value,(rvs.mapM (resM tmps)).run P w = .ok vs w∧vs.length=az.length∧∀ k,k<az.length→XRel w R ρ (vs.getD k undef) (az.getD k .bot):=by
 induction hg with
 | nil=>exact ⟨[],by simp,rfl,fun k hk=>by simp at hk⟩
 | @tmp t r az _ ih =>
  obtain ⟨vs,h1,h2,h3⟩:=ih;refine ⟨tmps.getD t undef :: vs,by simp [List.mapM_cons,resM,h1],by simp [h2],fun k hk=>?_⟩;cases k with
  | zero=>exact hx t
  | succ k=>exact h3 k (by simpa using hk)
 | @cell a t ty id i k sz es r az hty hag ha hl hi hk _ ih =>
  obtain ⟨vs,h1,h2,h3⟩:=ih;have hxa:=hx a;rw [ha] at hxa;obtain ⟨b,bsz,cap,hbk,hv⟩:=hxa.adr_eq;obtain ⟨b',cur,el,us,cpm,hbk',ho',hh,hsz',hcp,hml,hlen,hcur,hone,hxr⟩:=(H.mix id sz es _ hl hbk).ex (by simp);simp only [Bk.mk.injEq,qA] at hbk';obtain ⟨rfl,rfl,_⟩:=hbk';have hrun:=Q4a (P:=P) (w:=w) hty (b:=b) (x:=i * bsz+k) (us:=fun j=>us i (k+j)) (fun j hj=>by
   rw [Q1l hh,Nat.add_assoc];exact hcur i (k+j) hi (by omega))
  rw [hag] at hrun;simp only [cond_true] at hrun;have hlen2:(((es.getD i []).drop k).take ty.sz).length=ty.sz:=by rw [List.length_take,List.length_drop,hlen i hi];omega
  have hX:XRel w R ρ (.agg ((zD ty.sz).map fun j=>us i (k+j)).toArray) (.agg (((es.getD i []).drop k).take ty.sz)):=by
   refine .agg (by rw [hlen2];simp) ?_ ?_
   ·intro j hj;rw [hlen2] at hj;rw [Q1q _ _ _ hj];exact hone _ _ hi (by omega)
   intro j hj;rw [hlen2] at hj;rw [Q1q _ _ _ hj];have:=hxr i (k+j) hi (by omega);simpa [qB,qO,qT,hj] using this
  have hv2:tmps.getD a undef = .pointer (some ⟨b,i * bsz+k,none⟩):=hv;refine ⟨.agg ((zD ty.sz).map fun j=>us i (k+j)).toArray :: vs,?_,by simp [h2],fun j hj=>?_⟩
  ·rw [List.mapM_cons];simp [resM,hv2,asAddr,hrun,h1]
  cases j with
  | zero=>exact hX
  | succ j=>exact h3 j (by simpa using hj)
 | @cell1 a t ty id i k sz es r az hty hag h0 ha hl hi hk _ ih =>
  obtain ⟨vs,h1,h2,h3⟩:=ih;have hxa:=hx a;rw [ha] at hxa;obtain ⟨b,bsz,cap,hbk,hv⟩:=hxa.adr_eq;obtain ⟨b',cur,el,us,cpm,hbk',ho',hh,hsz',hcp,hml,hlen,hcur,hone,hxr⟩:=(H.mix id sz es _ hl hbk).ex (by simp);simp only [Bk.mk.injEq,qA] at hbk';obtain ⟨rfl,rfl,_⟩:=hbk';have hrun:=Q4a (P:=P) (w:=w) hty (b:=b) (x:=i * bsz+k) (us:=fun j=>us i (k+j)) (fun j hj=>by
   rw [Q1l hh,Nat.add_assoc];exact hcur i (k+j) hi (by omega))
  rw [hag] at hrun;simp only [cond_false,Nat.add_zero] at hrun;have hv2:tmps.getD a undef = .pointer (some ⟨b,i * bsz+k,none⟩):=hv;refine ⟨us i k :: vs,?_,by simp [h2],fun j hj=>?_⟩
  ·rw [List.mapM_cons];simp [resM,hv2,asAddr,hrun,h1]
  cases j with
  | zero=>exact hxr i k hi (by omega)
  | succ j=>exact h3 j (by simpa using hj)
theorem Q7T {P:Program} {w:World} {fn:Func} {rvs:List ResultVar} {tmps:Array Value} {vs:List Value} (hr:fn.results=rvs.toArray) (h:(rvs.mapM (resM tmps)).run P w = .ok vs w):(results fn tmps).run P w = .ok (Q2q vs) w:=by
 have e:results fn tmps=(do let vs ← fn.results.mapM (resM tmps);pure (if h:vs.size=1 then vs[0] else .tuple vs)):=by
  unfold results
  congr 1
 rw [e,hr,List.mapM_toArray];simp only [map_eq_pure_bind];simp [h];rcases vs with _|⟨v,_|⟨u,r⟩⟩
 ·simp [Q2q]
 ·simp [Q2q]
 simp [Q2q]
structure RetG (P:Program) (rvs:List ResultVar) (st:St) (rs:List AV):Prop where
 ex:∃ az,RGet P st rvs az∧RetV az st rs
def retGQ (P:Program) (rvs:List ResultVar) (rs:List AV):Exit→St→Prop
 | .normal,st=>RetG P rvs st rs
 | .ret,st=>RetG P rvs st rs
 | _,_=>False
theorem Q2l {P:Program} {f:Nat} {fn:Func} {c:Code} {args:List AV} {rvs:List ResultVar} {rs:List AV} {res:AV} (hf:P.funcs[f]? = some fn) (hb:fn.body=some c) (hrt:fn.results=rvs.toArray) (hrs:res=QM rs)
  (hname : (fn.name == "runtime.NumGoroutine") = false) (hN : args.length ≤ fn.ntmps) (h : ∀ F : Fx, F.N = fn.ntmps → F.pins = 0 → (∀ b, ¬ F.C.wrb b) → Wp P F c (retGQ P rvs rs) ⟨Q3o 0 args, [], 0⟩) : Contract P f args res := by
 subst hrs;refine ⟨⟨fn,hf,hname,by rw [hb];rfl⟩,fun w R vals hR hsz hx=>?_⟩;refine calls_of_wp hf hb ?_
 let C:Ctx:=⟨w,fun _=>False,fun _=>none,0⟩
 have hrel:Rel C R fn.ntmps { tmps:=vals++zC (fn.ntmps - vals.size) undef,defers:=[] } w ⟨Q3o 0 args,[],0⟩:=by
  refine ⟨by simp;omega,rfl,(fun id x h=>by cases h),fun _=>none,noρ,⟨fun b hb=>⟨hR b hb,rfl⟩,(fun b L hb=>by cases hb),rfl,⟨rfl,qE _⟩,rfl,qE _,fun b _ _=>rfl⟩,⟨(fun id sz es bk _ hb=>by cases hb),(fun id sz es bk _ hb=>by cases hb),(fun id c i k sz bk _ hb=>by cases hb),(fun id kd es bk _ hb=>by cases hb)⟩,fun t=>?_,(fun id k hk=>by cases hk),(fun id hid=>by cases hid),qE _⟩;simp only [St.get,Q2u]
  by_cases ht:t<args.length
  ·rw [if_pos (by omega)];simp only [Nat.sub_zero,qZ];have:=hx t ht;have h2:(vals++zC (fn.ntmps - vals.size) undef).getD t undef=vals.getD t undef:=by
    simp [qW,show t<vals.size by omega]
   rw [h2];exact this
  rw [if_neg (by omega)];exact .bot
 refine Q3R (fun e a w' hq=>?_) (h ⟨C,R,fn.ntmps,0,rfl⟩ rfl rfl (fun _ h=>h) _ w (.of hrel));obtain ⟨st,⟨R',hX,hr⟩,hq⟩:=hq;have fin:RetG P rvs st rs→a.defers=[]∧∃ v,(results fn a.tmps).run P w' = .ok v w'∧∃ v' o,Ending.returned v = .returned v'∧Blw w.heap.size w w'∧(∀ b L,o b=some L→w.heap.size≤b∧b<w'.heap.size)∧Res w' o v' (QM rs):=by
  intro hA;obtain ⟨az,hg,hv⟩:=hA.ex;obtain ⟨_,hdef,_,o,ρ,W,H,hxx,_⟩:=hr;obtain ⟨vs,h1,h2,h3⟩:=rget_run H hxx hg;obtain ⟨q1,o1,q2,q3⟩:=Q77 W H rfl hv (vs:=vs) h2 h3;exact ⟨hdef,_,Q7T hrt h1,_,o1,rfl,q1,q2,q3⟩
 cases e with
 | normal=>exact fin hq
 | ret=>exact fin hq
 | _=>exact hq.elim
theorem Qe {P:Program} {f:Nat} {fn:Func} {c:Code} {args:List AV} {rvs:List ResultVar} {rs:List AV} {res:AV} (hf:P.funcs[f]? = some fn) (hb:fn.body=some c) (hrt:fn.results=rvs.toArray) (hrs:res=QM rs)
  (hname : (fn.name == "runtime.NumGoroutine") = false) (hN : args.length ≤ fn.ntmps) (h : ∀ F : Fx, F.N = fn.ntmps → F.pins = 0 → Wp P F c (retGQ P rvs rs) ⟨Q3o 0 args, [], 0⟩) : Contract P f args res :=
 Q2l hf hb hrt hrs hname hN fun F h1 h2 _=>h F h1 h2
end
section
attribute [local simp] Qd QD Qq
def nlA (news:List (Nat × Nat)) (a b:AV):Prop:=a=b∨(a = .val (.slice none 0 0)∧∃ q∈news,b = .own q.1 0 0)
def nlL (news:List (Nat × Nat)):List AV→List AV→Prop
 | [],[]=>True
 | a :: r,b :: s=>nlA news a b∧nlL news r s
 | _,_=>False
def entN (news:List (Nat × Nat)):Ent→Ent→Prop
 | .mix sz [cs],.mix sz' [ds]=>sz=sz'∧nlL news cs ds
 | .mix sz [],.row sz' es=>sz=sz'∧es=[]
 | e,e'=>e=e'
theorem nlL_get {news:List (Nat × Nat)}:∀ {cs ds:List AV},nlL news cs ds→cs.length=ds.length∧∀ k,k<cs.length→nlA news (cs.getD k .bot) (ds.getD k .bot):=by
 intro cs
 induction cs with
 | nil=>intro ds h;cases ds with
  | nil=>exact ⟨rfl,fun k hk=>by simp at hk⟩
  | cons=>exact h.elim
 | cons a r ih =>
  intro ds h;cases ds with
  | nil=>exact h.elim
  | cons b s =>
   obtain ⟨h1,h2⟩:=h;obtain ⟨h3,h4⟩:=ih h2;refine ⟨by simp [h3],fun k hk=>?_⟩;cases k with
   | zero=>simpa using h1
   | succ k=>simpa using h4 k (by simpa using hk)
theorem Q2X {news:List (Nat × Nat)} {e e':Ent} (h:entN news e e'):e=e'∨(∃ sz cs ds,e = .mix sz [cs]∧e' = .mix sz [ds]∧nlL news cs ds)∨(∃ sz,e = .mix sz []∧e' = .row sz []):=by
 unfold entN at h;split at h
 ·obtain ⟨rfl,h⟩:=h;exact .inr (.inl ⟨_,_,_,rfl,rfl,h⟩)
 ·obtain ⟨rfl,rfl⟩:=h;exact .inr (.inr ⟨_,rfl,rfl⟩)
 exact .inl h
theorem Wk.nils {F:Fx} {st st':St} (news:List (Nat × Nat)) (hn:∀ p∈news,st.n≤p.1∧p.1<st'.n) (hle:st.n≤st'.n) (hs:∀ p∈st'.s,nlA news (st.get p.1) p.2∨p.2 = .bot)
  (hh:∀ p∈st'.h,(∃ q∈news,p=(q.1,.row q.2 []))∨∃ e,look p.1 st.h=some e∧entN news e p.2) (hnd:(news.map Prod.fst).Nodup):Wk F st st':=by
 refine Wk.mk fun R a w hr=>?_;obtain ⟨r1,r2,r3,o,ρ,W,H,hx,hρ,hp⟩:=hr
 let ρ':Nat→Option Bk:=fun id=>match look id news with|some sz=>some ⟨none,sz,0⟩|none=>ρ id
 have hnone:∀ q∈news,ρ q.1=none:=by
  intro q hq;cases h:ρ q.1 with
  | none=>rfl
  | some k=>have:=hρ _ _ h;have:=(hn q hq).1;omega
 have hold:∀ id k,ρ id=some k→ρ' id=some k:=by
  intro id k hk;simp only [ρ'];cases hl:look id news with
  | none=>exact hk
  | some sz=>have:=hnone _ (Qg hl);simp only at this;rw [hk] at this;cases this
 have hnew:∀ q∈news,ρ' q.1=some ⟨none,q.2,0⟩:=by
  intro q hq;simp only [ρ'];rw [QO hnd hq]
 have hA:∀ {v:Value} {x y:AV},XRel w R ρ v x→nlA news x y→XRel w R ρ' v y:=by
  intro v x y hv h;rcases h with rfl|⟨rfl,q,hq,rfl⟩
  ·exact hv.mono (fun b hb=>⟨hb,rfl⟩) hold
  obtain ⟨rfl,_⟩:=hv.val_eq;exact .own0 (hnew q hq)
 have hent:∀ id e',st'.hp id=some e'→(∃ q∈news,id=q.1∧e' = .row q.2 [])∨∃ e,st.hp id=some e∧entN news e e':=by
  intro id e' h;rcases hh (id,e') (Qg h) with ⟨q,hq,he⟩|h
  ·simp only [qC] at he;exact .inl ⟨q,hq,he.1,he.2⟩
  exact .inr h
 have hback:∀ id bk,ρ' id=some bk→(∃ q∈news,id=q.1∧bk=⟨none,q.2,0⟩)∨(ρ id=some bk∧∀ q∈news,id ≠ q.1):=by
  intro id bk h;simp only [ρ'] at h;cases hl:look id news with
  | some sz=>rw [hl] at h;simp only [qA] at h;exact .inl ⟨(id,sz),Qg hl,rfl,h.symm⟩
  | none =>
   rw [hl] at h;refine .inr ⟨h,fun q hq he=>?_⟩;subst he;rw [QO hnd hq] at hl;cases hl
 have hcont:∀ (d c:Nat) (szc:Nat) (esc:List (List AV)) (bk:Bk),ρ c=some bk→cont st'.hp d c=some (szc,esc)→Qp (st'.hp c)=false→esc=[]∨(cont st.hp d c=some (szc,esc)∧Qp (st.hp c)=false):=by
  intro d
  induction d with
  | zero=>intro c szc esc bk _ h;cases h
  | succ d ih =>
   intro c szc esc bk hb hc hm;unfold cont at hc ⊢;cases he:st'.hp c with
   | none=>simp [he] at hc
   | some e' =>
    rw [he] at hc hm;rcases hent c e' he with ⟨q,hq,rfl,rfl⟩|⟨e,h1,h2⟩
    ·rw [hnone q hq] at hb;cases hb
    rcases Q2X h2 with rfl|⟨sz,cs,ds,rfl,rfl,_⟩|⟨sz,rfl,rfl⟩
    ·cases e with
     | mix=>cases hm
     | mapE=>cases hc
     | row sz es=>exact .inr ⟨by rw [h1];exact hc,by rw [h1];rfl⟩
     | ali c2 i2 k2 s2 =>
      rw [h1];simp only at hc ⊢;split at hc
      ·cases hc
      rename_i hm2;cases hc2:cont st'.hp d c2 with
      | none=>simp [hc2] at hc
      | some p =>
       obtain ⟨sz2,es2⟩:=p;obtain ⟨_,bk2,hb2,_⟩:=H.ali c c2 i2 k2 s2 bk h1 hb;rw [hc2] at hc;rcases ih c2 sz2 es2 bk2 hb2 hc2 (by simpa using hm2) with rfl|⟨q1,q2⟩
       ·simp at hc
       right;rw [q2,q1];exact ⟨hc,rfl⟩
    ·cases hm
    simp only [qA,qC] at hc;exact .inl hc.2.symm
 refine ⟨r1,r2,fun id x hx=>?_,o,ρ',⟨W.R,W.o,W.os,W.tape,W.output,W.size,W.keep⟩,⟨fun id sz es bk he hb=>?_,fun id sz es bk he hb=>?_,fun id c i k sz bk he hb=>?_,fun id kd es bk he hb=>?_⟩,fun t=>?_,fun id k hk=>?_,fun id hid=>?_,qN hp.2 hle⟩;rotate_left 4
 ·rcases hent id _ he with ⟨q,hq,rfl,h⟩|⟨e,h1,h2⟩
  ·cases h
  rcases hback id bk hb with ⟨q,hq,rfl,rfl⟩|⟨hb',_⟩
  ·exact absurd (r3 _ e h1) (by have:=(hn q hq).1;omega)
  rcases Q2X h2 with rfl|⟨s1,cs,ds,rfl,hd,hl⟩|⟨s1,rfl,hd⟩
  ·exact H.map id kd es bk h1 hb'
  ·cases hd
  cases hd
 rotate_left 3
 ·rcases hent id x hx with ⟨q,hq,rfl,_⟩|⟨e,he,_⟩
  ·exact (hn q hq).2
  exact qQ (r3 id e he) hle
 ·rcases hent id _ he with ⟨q,hq,rfl,h⟩|⟨e,h1,h2⟩
  ·cases h
  rcases hback id bk hb with ⟨q,hq,rfl,rfl⟩|⟨hb',_⟩
  ·exact absurd (r3 _ e h1) (by have:=(hn q hq).1;omega)
  rcases Q2X h2 with rfl|⟨s1,cs,ds,rfl,hd,hl⟩|⟨s1,rfl,hd⟩
  ·rcases (H.mix id sz es bk h1 hb').ex0 with h0|⟨b,cur,el,us,cpm,q1,q2,q3,q4,q5,q5',q6,q7,q8,q9⟩
   ·exact ⟨.inl h0⟩
   exact .mk' ⟨b,cur,el,us,cpm,q1,q2,q3,q4,q5,q5',q6,q7,q8,fun i k hi hk=>(q9 i k hi hk).mono (fun b hb=>⟨hb,rfl⟩) hold⟩
  ·cases hd;rcases (H.mix id sz _ bk h1 hb').ex0 with ⟨h0,_⟩|⟨b,cur,el,us,cpm,q1,q2,q3,q4,q5,q5',q6,q7,q8,q9⟩
   ·cases h0
   obtain ⟨g1,g2⟩:=nlL_get hl;refine .mk' ⟨b,cur,el,us,cpm,q1,q2,q3,q4,by simpa using q5,q5',fun i hi=>?_,q7,q8,fun i k hi hk=>?_⟩
   ·have h0:i=0:=(by simp at hi;omega);subst h0;have:=q6 0 (by simp);simpa [← g1] using this
   have h0:i=0:=(by simp at hi;omega);subst h0;have h6:=q6 0 (by simp);simp only [List.getD_cons_zero] at h6;refine hA (q9 0 k (by simp) hk) ?_;simpa using g2 k (by omega)
  cases hd
 ·rcases hent id _ he with ⟨q,hq,rfl,h⟩|⟨e,h1,h2⟩
  ·cases h;have:=(show ρ' q.1=some bk from hb).symm.trans (hnew q hq);cases this;exact ⟨_,.nil,.nil⟩
  rcases hback id bk hb with ⟨q,hq,rfl,rfl⟩|⟨hb',_⟩
  ·exact absurd (r3 _ e h1) (by have:=(hn q hq).1;omega)
  rcases Q2X h2 with rfl|⟨s1,cs,ds,rfl,hd,hl⟩|⟨s1,rfl,hd⟩
  ·exact H.row id sz es bk h1 hb'
  ·cases hd
  cases hd;rcases (H.mix id sz [] bk h1 hb').ex0 with ⟨_,cp0,rfl⟩|⟨b,cur,el,us,cpm,q1,q2,q3,q4,q5,q5',q6,q7,q8,q9⟩
  ·exact ⟨_,.nil,.nil⟩
  subst q1;exact ⟨.slice (some ⟨b,0,none⟩) 0 cpm,.own (es:=[]) us q2 q3 q4 (Nat.zero_le _) q5' (fun i hi=>by simp at hi) (fun i k hi=>by simp at hi) (fun i k hi=>by simp at hi) (fun i k hi=>by simp at hi),.own⟩
 ·rcases hent id _ he with ⟨q,hq,rfl,h⟩|⟨e,h1,h2⟩
  ·cases h
  rcases hback id bk hb with ⟨q,hq,rfl,rfl⟩|⟨hb',_⟩
  ·exact absurd (r3 _ e h1) (by have:=(hn q hq).1;omega)
  rcases Q2X h2 with rfl|⟨s1,cs,ds,rfl,hd,hl⟩|⟨s1,rfl,hd⟩
  ·obtain ⟨q1,bkc,q2,q3⟩:=H.ali id c i k sz bk h1 hb';refine ⟨q1,bkc,hold _ _ q2,fun d szc esc hc hm hi hk=>?_⟩;rcases hcont d c szc esc bkc q2 hc hm with rfl|⟨g1,g2⟩
   ·simp at hi
   exact q3 d szc esc g1 g2 hi hk
  ·cases hd
  cases hd
 ·cases hl:look t st'.s with
  | none=>simp only [St.get,hl,Option.getD_none];exact .bot
  | some v =>
   simp only [St.get,hl,qZ];rcases hs _ (Qg hl) with h|h
   ·exact hA (hx t) h
   simp only at h;rw [h];exact .bot
 ·rcases hback id k hk with ⟨q,hq,rfl,_⟩|⟨h,_⟩
  ·exact (hn q hq).2
  exact qQ (hρ id k h) hle
 show ρ' id=_;have hlt:id<st.n:=qQ hid hp.2;rw [← hp.1 id hid];simp only [ρ'];cases hl:look id news with
 | none=>rfl
 | some sz=>have:=(hn _ (Qg hl)).1;simp only at this;omega
def hhOk (m:List (Nat × Nat)) (h:List (Nat × Ent)) (j:Nat) (e':Ent):Prop:=(((look j (back m)).bind fun i=>look i h).bind (rlE m))=some e'
theorem Wk.rel {F:Fx} {st st':St} (m:List (Nat × Nat)) (h1:(m.map Prod.fst).Nodup) (h2:(m.map Prod.snd).Nodup) (hpin:∀ id,id<F.pins→look id m=some id) (hn:∀ p∈m,p.2<st'.n)
  (hok:∀ p∈st'.h,p.1<st'.n) (hs:∀ p∈st'.s,p.2=rl m (st.get p.1)∨p.2 = .bot) (hh:∀ p∈st'.h,hhOk m st.h p.1 p.2):Wk F st st':=by
 refine Wk.relabel m h1 h2 hpin hn hok hs fun p hp=>?_;have:=hh p hp;unfold hhOk at this;obtain ⟨e,he,hr⟩:=Option.bind_eq_some_iff.1 this;obtain ⟨i,hi,hl⟩:=Option.bind_eq_some_iff.1 he;exact ⟨i,e,Q2x h1 hi,hl,hr⟩
theorem join {P:Program} {F:Fx} {y:Code} {AQ:Exit→St→Prop} {K:St→Prop} {G:Prop} (hK:∀ st',Wp P F y AQ st'→K st') (S:Bool→St) (C:Prop) (h1:(∀ b:Bool,(b=true↔C)→∀ st',Wk F st' (S b)→K st')→G)
  (h2:∀ b:Bool,(b=true↔C)→Wp P F y AQ (S b)):G:=h1 fun b hb st' hw=>hK st' (Q5 hw (h2 b hb))
end
section
attribute [local simp] Qd QD Qq
theorem PurTo.field {h:HP} {id k sz:Nat} {row cs:List AV} (he:h id=some (.mix sz [row])) (hl:k+cs.length≤sz) (hp:PurL h ((row.drop k).take cs.length) cs):PurTo h (.adr id 0 k) (.rptr cs) :=
 .adr he (by simp) hl fun j hj=>by
  have:=hp.2 j (by rw [hp.1];exact hj);simpa [qB,qO,qT,hj] using this
inductive PurLL (h:HP) (sz:Nat):List (List AV)→List (List AV)→Prop
 | nil:PurLL h sz [] []
 | cons {r s rs ss}:s.length=sz→PurL h r s→PurLL h sz rs ss→PurLL h sz (r :: rs) (s :: ss)
theorem PurLL.get {h:HP} {sz:Nat} {rs ss:List (List AV)} (hp:PurLL h sz rs ss):rs.length=ss.length∧∀ i,i<ss.length→(ss.getD i []).length=sz∧PurL h (rs.getD i []) (ss.getD i []):=by
 induction hp with
 | nil=>exact ⟨rfl,fun i hi=>by simp at hi⟩
 | cons h1 h2 _ ih =>
  refine ⟨by simp [ih.1],fun i hi=>?_⟩;cases i with
  | zero=>exact ⟨h1,h2⟩
  | succ i=>simpa using ih.2 i (by simpa using hi)
theorem PurTo.lits {h:HP} {id n sz:Nat} {u:Bool} {es fs:List (List AV)} (he:h id=some (.mix sz es)) (hp:PurLL h sz es fs) (hn:n=fs.length):PurTo h (.own id 0 n) (.lst u sz fs):=by
 subst hn;refine .mix he (by rw [hp.get.1];omega) rfl (fun i hi=>(hp.get.2 i hi).1) fun i k hi hk=>?_;have:=hp.get.2 i hi;rw [Nat.zero_add];exact this.2.2 k (by rw [this.2.1,this.1];exact hk)
end
section
attribute [local simp] Qd QD Qq
noncomputable def ass {α:Type} (p:Prop) (k:Option α):Option α:=@ite _ p (Classical.propDecidable p) k none
theorem Q0 {α:Type} {p:Prop} {k:Option α} {r:α} (h:ass p k=some r):p∧k=some r:=by
 unfold ass at h;split at h
 ·exact ⟨‹_›,h⟩
 cases h
theorem Q4 {α:Type} {p:Prop} {k:Option α} (h:p):ass p k=k:=by unfold ass;rw [if_pos h]
inductive Ctl (σ ε:Type) where
 | next (s:σ)
 | ret (e:ε)
def QA {σ ε:Type} (body:σ→Option (Ctl σ ε)):Nat→σ→Option ε
 | 0,_=>none
 | n+1,s=>match body s with
  | some (.next s')=>QA body n s'
  | some (.ret e)=>some e
  | none=>none
theorem bind_some {α β:Type} {x:Option α} {f:α→Option β} {r:β} (h:x.bind f=some r):∃ v,x=some v∧f v=some r:=Option.bind_eq_some_iff.1 h
theorem if_l {α:Type} {p:Prop} [Decidable p] {a b:Option α} {r:α} (g:p) (h:(if p then a else b)=some r):a=some r:=by rw [if_pos g] at h;exact h
theorem if_r {α:Type} {p:Prop} [Decidable p] {a b:Option α} {r:α} (g:¬ p) (h:(if p then a else b)=some r):b=some r:=by rw [if_neg g] at h;exact h
def contF {σ ε:Type} (body:σ→Option (Ctl σ ε)) (k:Nat) (e:ε):Ctl σ ε→Prop
 | .next s'=>QA body k s'=some e
 | .ret e'=>e'=e
def Q9K {σ:Type} (F:Fx) (S:σ→St) (G:σ→Prop) (AQ:Exit→St→Prop):Exit→St→Prop
 | .normal,st=>∃ s',G s'∧Wk F st (S s')
 | e,st=>AQ e st
section
variable {P:Program} {mt:MT} {F:Fx} {AQ:Exit→St→Prop} {st:St}
theorem Wp.mono {c:Code} {AQ':Exit→St→Prop} (h:∀ e st,AQ e st→AQ' e st) (hw:Wp P F c AQ st):Wp P F c AQ' st:=by
 intro a w hr;refine wp_mono (hw a w hr) fun e a w he=>?_;obtain ⟨st',h1,h2⟩:=he;exact ⟨st',h1,h _ _ h2⟩
theorem Q3w {st1 st3:St} (st2:St) (h1:Wk F st1 st2) (h2:Wk F st2 st3):Wk F st1 st3:=fun a w h=>h2 a w (h1 a w h)
theorem Qy {σ ε:Type} {c:Code} {body:σ→Option (Ctl σ ε)} {N:Nat} {s0:σ} {e:ε} (h:QA body N s0=some e) (S:σ→St) (hk:Wk F st (S s0))
  (round:∀ (k:Nat) (s:σ) (c':Ctl σ ε),body s=some c'→contF body k e c'→Wp P F c (Q9K F S (fun s'=>QA body k s'=some e) AQ) (S s)):Wp P F (.loop c) AQ st:=by
 refine Q19 (fun p:Nat × σ=>S p.2) (fun p=>QA body p.1 p.2=some e) (fun p=>p.1) (N,s0) h hk ?_
 rintro ⟨k,s⟩ hl
 cases k with
 | zero=>cases hl
 | succ k =>
  simp only [QA] at hl;cases hb:body s with
  | none=>rw [hb] at hl;cases hl
  | some c' =>
   have hc:contF body k e c':=by
    rw [hb] at hl;cases c' with
    | next s'=>exact hl
    | ret e'=>simpa [contF] using hl
   refine Wp.mono ?_ (round k s c' hb hc);intro ex st' hq;cases ex with
   | normal =>
    obtain ⟨s',h1,h2⟩:=hq;exact ⟨(k,s'),h1,Nat.lt_succ_self k,h2⟩
   | _=>exact hq
theorem Qn {β:Type} {x y:Code} (J:β→St) (C:β→Prop) (h2:Wp P F x (Q3U (fun st=>∃ b,C b∧Wk F st (J b)) AQ) st) (h1:∀ b,C b→Wp P F y AQ (J b)):Wp P F x (Q3U (Wp P F y AQ) AQ) st:=by
 refine Wp.mono ?_ h2;intro ex st' hq;cases ex with
 | normal =>
  obtain ⟨b,hc,hw⟩:=hq;exact Q5 hw (h1 b hc)
 | _=>exact hq
theorem QC {all:Array Oper} {os:List Oper} {dst:Option Nat} {K:St→Prop} {op:Op} {t:Nat} {want:Bool} {b:Bool}
  (h1:b=want→runO P mt all os dst (st.put t (.val (.bool want))) K op) (h2:b=(!want)→QV P mt all os ((st.put t (.val (.bool !want))).app dst { v:=.tup [] }) K) :
  Q4T P mt all os dst st K op t want (.val (.bool b)):=by
 rw [Qd];exact ⟨h1,h2⟩
end
section
variable {P:Program} {F:Fx} {AQ:Exit→St→Prop} {st:St} {i id:Nat}
theorem tn {K:St→Prop} (h:K st):Q3U K AQ .normal st:=h
theorem tx {K:St→Prop} (h:AQ (.exit i) st):Q3U K AQ (.exit i) st:=h
theorem tr {K:St→Prop} (h:AQ .ret st):Q3U K AQ .ret st:=h
theorem bn (h:AQ .normal st):Q5s id AQ .normal st:=h
theorem bh (h:AQ .normal st):Q5s id AQ (.exit id) st:=by simp only [Q5s,if_pos];exact h
theorem br (h:AQ .ret st):Q5s id AQ .ret st:=h
theorem lx {σ:Type} {S:σ→St} {G:σ→Prop} (h:AQ (.exit i) st):Q9K F S G AQ (.exit i) st:=h
theorem lr {σ:Type} {S:σ→St} {G:σ→Prop} (h:AQ .ret st):Q9K F S G AQ .ret st:=h
theorem rn {σ:Type} {S:σ→St} {G:σ→Prop} {s':σ} (h1:G s') (h2:Wk F st (S s')):Q9K F S G AQ .normal st:=⟨s',h1,h2⟩
theorem jn {β:Type} {J:β→St} {C:β→Prop} {b:β} (h1:C b) (h2:Wk F st (J b)):Q3U (fun st=>∃ b,C b∧Wk F st (J b)) AQ .normal st:=⟨b,h1,h2⟩
end
theorem Wk.r1 {F:Fx} {st st':St} (m:List (Nat × Nat)) (h:(m.map Prod.fst).Nodup∧(m.map Prod.snd).Nodup∧(∀ id,id<F.pins→look id m=some id)∧(∀ p∈m,p.2<st'.n)∧(∀ p∈st'.h,p.1<st'.n)∧(∀ p∈st'.s,p.2=rl m (st.get p.1)∨p.2 = .bot)∧∀ p∈st'.h,hhOk m st.h p.1 p.2):Wk F st st':=Wk.rel m h.1 h.2.1 h.2.2.1 h.2.2.2.1 h.2.2.2.2.1 h.2.2.2.2.2.1 h.2.2.2.2.2.2
def fuel:Nat:=4611686018427387904
theorem PurTo.preT {h:HP} {xs cs:List AV} (e:xs.take cs.length=cs):PurTo h (.rptr xs) (.rptr cs):=by
 have:xs=cs++xs.drop cs.length:=by
  have h:=List.take_append_drop cs.length xs;rw [e] at h;exact h.symm
 rw [this];exact .pre
end
section
attribute [local simp] Qd QD Qq
def Q3X (ops:Array Oper) (x y:Oper):Bool :=
 (match x.dst with
  | some d=>(Q4n ops y).contains d || y.dst == some d
  | none=>false) ||
 (match y.dst with
  | some d=>(Q4n ops x).contains d
  | none=>false)
def Q4R (x y:Oper):Bool:=(wrM false x.op && Q1b y.op) || (Q1b x.op && wrM false y.op)
theorem Q9c {ops:Array Oper} {x y:Oper}:Q45 false ops x y=(Q3X ops x y || Q4R x y):=by
 have he:easy (false:Bool) x.op y.op=false:=rfl;unfold Q45 Q3X Q4R;rw [he,tch0,tch0,Bool.not_false,Bool.and_true];exact Bool.or_assoc _ _ _
theorem Q6j {ops:Array Oper} {x y:Oper} (h:Q3X ops x y=false):(∀ d,x.dst=some d→d ∉ Q4n ops y∧y.dst ≠ some d)∧∀ d,y.dst=some d→d ∉ Q4n ops x:=by
 unfold Q3X at h;simp only [Bool.or_eq_false_iff] at h;obtain ⟨h1,h2⟩:=h;refine ⟨fun d hd=>?_,fun d hd=>?_⟩
 ·rw [hd] at h1;simp only [Bool.or_eq_false_iff] at h1;refine ⟨by simpa using h1.1,?_⟩;intro hy;rw [hy] at h1;simp at h1
 rw [hd] at h2;simpa using h2
def Q2T (ops:Array Oper) (j s:Nat):Bool:=(zD ops.size).all fun m=>m == j || (ops[m]?).bind (·.dst) != some s
def Q7M (ops:Array Oper) (s:Nat):Bool:=(zD ops.size).all fun m=>(ops[m]?).bind (·.dst) != some s
theorem Q2M {ops:Array Oper} {j s m:Nat} (h:Q2T ops j s=true) (hm:m<ops.size) (hj:m ≠ j):(ops[m]?).bind (·.dst) ≠ some s:=by
 unfold Q2T at h;have:=List.all_eq_true.1 h m (List.mem_range.2 hm);simpa [hj] using this
theorem Q3J {ops:Array Oper} {s m:Nat} (h:Q7M ops s=true) (hm:m<ops.size):(ops[m]?).bind (·.dst) ≠ some s:=by
 unfold Q7M at h;have:=List.all_eq_true.1 h m (List.mem_range.2 hm);simpa using this
def Q6J (ops:Array Oper) (j s:Nat):Bool:=match ops[j]? with
 | some ⟨d,.alloc _,_,_,_,none⟩=>d == some s && Q2T ops j s
 | _=>false
def Q4Z (ds:List Nat) (ops:Array Oper) (k:Nat):Bool:=match ops[k]? with
 | some ⟨_,.store _ (.tmp s) _,_,_,_,none⟩=>((zD k).any fun j=>Q6J ops j s) || (ds.contains s && Q7M ops s)
 | _=>false
def stepAt (ops:Array Oper) (l t:Nat):Option Nat:=match ops[l]? with
 | some ⟨d,.fieldAddr _ (.tmp r) _,_,_,_,none⟩=>if d == some t && Q2T ops l t then some r else none
 | some ⟨d,.move (.tmp r),_,_,_,none⟩=>if d == some t && Q2T ops l t then some r else none
 | some ⟨d,.nilCheck (.tmp r),_,_,_,none⟩=>if d == some t && Q2T ops l t then some r else none
 | some ⟨d,.indexAddr _ (.tmp r) _,_,_,_,none⟩=>if d == some t && Q2T ops l t then some r else none
 | _=>none
def Q4A (ds:List Nat) (ops:Array Oper):Nat→Nat→Nat→Bool
 | 0,_,_=>false
 | k+1,i,t=>(Q7M ops t && !ds.contains t) || (zD i).any fun l=>match stepAt ops l t with|some r=>Q4A ds ops k l r|none=>false
def Q4X (ds:List Nat) (ops:Array Oper) (i:Nat):Bool:=match ops[i]? with
 | some ⟨_,.load _ (.tmp t),_,_,_,_⟩=>Q4A ds ops 8 i t
 | some ⟨_,.indexAddr _ (.tmp t) _,_,_,_,_⟩=>Q4A ds ops 8 i t
 | _=>false
def Q2S (ds:List Nat) (ops:Array Oper):Bool:=(zD ops.size).all fun k=>!((ops[k]?).map (wrM false ·.op)).getD false || Q4Z ds ops k
def lateW (ops:Array Oper) (i k:Nat):Bool:=match ops[k]? with
 | some ⟨_,.store _ (.tmp s) _,_,_,_,none⟩=>(zD k).any fun a=>decide (i<a) && Q6J ops a s
 | _=>false
def Q7C (ops:Array Oper) (i:Nat):Bool:=!((ops[i]?).map (wrM false ·.op)).getD true && (zD ops.size).all fun k=>decide (k≤i) || !((ops[k]?).map (wrM false ·.op)).getD false || lateW ops i k
def Q6q (rs:List Nat) (ops:Array Oper) (l t:Nat):Bool:=match ops[l]? with
 | some ⟨d,.fieldAddr _ (.tmp r) _,_,_,_,none⟩=>d == some t && (Q2T ops l t && (Q7M ops r && rs.contains r))
 | _=>false
def Q4j (rs:List Nat) (ops:Array Oper) (i:Nat):Bool:=match ops[i]? with
 | some ⟨_,.load _ (.tmp t),_,_,_,_⟩=>(rs.contains t && Q7M ops t) || (zD i).any fun l=>Q6q rs ops l t
 | _=>false
def Q9z (rd0 ds rs:List Nat) (J:Nat) (ops:Array Oper):Bool :=
 let ms:=Q2C ops.toList []
 (zD ops.size).all fun j=>(zD j).all fun i =>
  match ops[i]?,ops[j]? with
  | some x,some y=>(!Q3X ops x y && (!Q4R x y || (roAt rd0 ops i || ((Q4j rs ops i && decide (j≤J)) || (Q2S ds ops && ((Q4X ds ops i && Q4Z ds ops j) || Q7C ops i)))))) || (ms.getD j 0).testBit i
  | _,_=>true
structure SD (ds:List Nat) (st:St):Prop where
 mix:∀ s∈ds,∃ id,st.get s = .adr id 0 0∧Qp (st.hp id)=true
 sep:∀ t id i k,t ∉ ds→st.get t = .adr id i k→∀ s∈ds,st.get s ≠ .adr id 0 0
 sepO:∀ t id i k,t ∉ ds→st.get t = .own id i k→∀ s∈ds,st.get s ≠ .adr id 0 0
theorem sd_nil (st:St):SD [] st:=⟨fun _ h=>by simp at h,fun _ _ _ _ _ _ _ h=>by simp at h,fun _ _ _ _ _ _ _ h=>by simp at h⟩
theorem Q5K {rd0 ds rs:List Nat} {J:Nat} {ops:Array Oper} (h:Q9z rd0 ds rs J ops=true) {i j:Nat} {x y:Oper} (hij:i<j) (hx:ops[i]? = some x) (hy:ops[j]? = some y) :
  ((Q2C ops.toList []).getD j 0).testBit i=true∨(Q3X ops x y=false∧(Q4R x y=true→roAt rd0 ops i=true∨(Q4j rs ops i=true∧j≤J)∨(Q2S ds ops=true∧(Q4X ds ops i=true∨Q7C ops i=true)))):=by
 unfold Q9z at h;have h2:=h;simp only [qS,List.mem_range] at h2;have hj:j<ops.size:=by
  rcases zA j ops.size with h'|h'
  ·exact h'
  simp [Array.getElem?_eq_none h'] at hy
 have:=h2 j hj i hij;rw [hx,hy] at this;simp only [Bool.or_eq_true,Bool.and_eq_true,Bool.not_eq_true'] at this;rcases this with ⟨h3,h4⟩|h3
 ·refine .inr ⟨h3,fun hm=>?_⟩;rcases h4 with h4|h4|h4|h4
  ·rw [hm] at h4;cases h4
  ·exact .inl h4
  ·exact .inr (.inl ⟨h4.1,of_decide_eq_true h4.2⟩)
  exact .inr (.inr ⟨h4.1,h4.2.imp_left fun q=>q.1⟩)
 exact .inl h3
theorem Q5O {ds:List Nat} {ops:Array Oper} {i:Nat} {o:Oper} (hi:ops[i]? = some o) (h:Q4X ds ops i=true):∃ ty t,(o.op = .load ty (.tmp t)∨∃ x,o.op = .indexAddr ty (.tmp t) x)∧Q4A ds ops 8 i t=true:=by
 unfold Q4X at h;split at h
 ·rename_i d ty t t2 p af g ho;rw [hi] at ho;cases ho;exact ⟨ty,t,.inl rfl,h⟩
 ·rename_i d ty t x t2 p af g ho;rw [hi] at ho;cases ho;exact ⟨ty,t,.inr ⟨x,rfl⟩,h⟩
 cases h
theorem stepAt_eq {ops:Array Oper} {l t r:Nat} (h:stepAt ops l t=some r):∃ o,ops[l]? = some o∧o.guard=none∧o.dst=some t∧Q2T ops l t=true∧((∃ ty k,o.op = .fieldAddr ty (.tmp r) k)∨o.op = .move (.tmp r)∨o.op = .nilCheck (.tmp r)∨∃ ty k,o.op = .indexAddr ty (.tmp r) k):=by
 unfold stepAt at h;split at h
 ·rename_i ho;split at h
  ·rename_i hq;simp only [Bool.and_eq_true,beq_iff_eq] at hq;cases h;exact ⟨_,ho,rfl,hq.1,hq.2,.inl ⟨_,_,rfl⟩⟩
  cases h
 ·rename_i ho;split at h
  ·rename_i hq;simp only [Bool.and_eq_true,beq_iff_eq] at hq;cases h;exact ⟨_,ho,rfl,hq.1,hq.2,.inr (.inl rfl)⟩
  cases h
 ·rename_i ho;split at h
  ·rename_i hq;simp only [Bool.and_eq_true,beq_iff_eq] at hq;cases h;exact ⟨_,ho,rfl,hq.1,hq.2,.inr (.inr (.inl rfl))⟩
  cases h
 ·rename_i ho;split at h
  ·rename_i hq;simp only [Bool.and_eq_true,beq_iff_eq] at hq;cases h;exact ⟨_,ho,rfl,hq.1,hq.2,.inr (.inr (.inr ⟨_,_,rfl⟩))⟩
  cases h
 cases h
theorem rootAt_wr {ds:List Nat} {ops:Array Oper} {i:Nat} {o:Oper} (hi:ops[i]? = some o) (h:Q4X ds ops i=true):wrM false o.op=false:=by
 obtain ⟨ty,t,ho|⟨x,ho⟩,_⟩:=Q5O hi h<;>(rw [ho];rfl)
section
variable {P:Program} {ds:List Nat} {ops:Array Oper} {S:Nat→St} {E:Nat→Option Eff} {C:Ctx} {R:Nat→Prop} {N:Nat} {w0:World}
theorem Q3a (T:Tr P false ops S E) {s a:Nat}:∀ b,a≤b→b≤ops.size→(∀ m,a≤m→m<b→(ops[m]?).bind (·.dst) ≠ some s)→(S b).get s=(S a).get s:=by
 intro b
 induction b with
 | zero =>
  intro h _ _;have:a=0:=by omega
  subst this;rfl
 | succ b ih =>
  intro h hb hk;rcases zA a (b+1) with h'|h'
  ·obtain ⟨_,hS,_⟩:=T.step (qY (show b<ops.size by omega));rw [hS,Q2m,if_neg]
   ·exact ih (by omega) (by omega) fun m h1 h2=>hk m h1 (by omega)
   have:=hk b (by omega) (by omega);rw [qY (show b<ops.size by omega)] at this;exact this
  have:a=b+1:=by omega
  subst this;rfl
theorem Q4o (T:Tr P false ops S E) {k:Nat} {o:Oper} (ho:ops[k]? = some o) (hg:o.guard=none):∃ e,E k=some e∧AOp P false o.op (S k).ev (S k).hp (S k).n e∧S (k+1)=(S k).app o.dst e:=by
 have:=T.run k o ho;cases hE:E k with
 | none =>
  rw [hE] at this;have h1:=this.1;simp only [Q2i,hg] at h1;cases h1
 | some e =>
  rw [hE] at this;exact ⟨e,rfl,this.2.1,this.2.2⟩
theorem Q97 (T:Tr P false ops S E) {j s:Nat} (h:Q6J ops j s=true):j<ops.size∧Q2T ops j s=true∧(S (j+1)).get s = .adr (S j).n 0 0∧Qp ((S (j+1)).hp (S j).n)=true:=by
 unfold Q6J at h;split at h
 ·rename_i d e0 ty pos af ho;simp only [Bool.and_eq_true,beq_iff_eq] at h;have hjs:=(Array.getElem?_eq_some_iff.1 ho).1;obtain ⟨e,hE,hop,hS⟩:=Q4o T ho rfl;have he:∃ z:Nat × List (List AV),e = { v:=.adr (S j).n 0 0,new:=[((S j).n,.mix z.1 z.2)],cnt:=1 }:=by
   cases hop with
   | sem h0=>cases h0
   | blt h1 h2 =>
    simp only [opF,alloc] at h1;split at h1
    ·rename_i t _;simp only [qA,qC] at h1;exact ⟨(t.sz,[t.zero.map .val]),h1.2.symm⟩
    cases h1
   | call h1=>cases h1
   | mcall h1=>cases h1
   | icall h1=>cases h1
   | boxr h1=>cases h1
   | appM h1=>cases h1
   | fcall h1=>cases h1
   | fcallb h1=>cases h1
   | callb h1=>cases h1
   | mapo h1=>simp [mapF] at h1
   | mkz h1=>cases h1
   | cvs h1=>cases h1
   | sl3 h1=>cases h1
   | mkf h1=>cases h1
   | mkb h1=>cases h1
   | mki h1=>cases h1
   | mkis h1=>cases h1
   | tas h1=>cases h1
   | sto h1=>cases h1
   | stg h1=>cases h1
  obtain ⟨z,rfl⟩:=he;refine ⟨hjs,h.2,?_,?_⟩
  ·rw [hS,Q2m,if_pos h.1]
  have hf:=(hop.fine (T.all j (by omega))).1;show Qp (look (S j).n (S (j+1)).h)=true;rw [hS,Q26 _ _ hf];have hn:(S j).hp (S j).n=none:=by
   show look (S j).n (S j).h=none;cases hh:look (S j).n (S j).h with
   | none=>rfl
   | some x=>have:=T.all j (by omega) _ _ hh;omega
  have:happ ({ v:=.adr (S j).n 0 0,new:=[((S j).n,.mix z.1 z.2)],cnt:=1 }:Eff) (S j).hp (S j).n=none:=by
   simp [happ,look,hn]
  rw [this];simp [look,Qp]
 cases h
def Q3r (S:Nat→St) (ds:List Nat) (id:Nat):Prop:=(S 0).n≤id∨∃ s∈ds,(S 0).get s = .adr id 0 0
theorem Q7b (T:Tr P false ops S E) (hD:SD ds (S 0)) (hall:Q2S ds ops=true):∀ k,k<ops.size→Q4Z ds ops k=true→∃ id sz es,(eff E k).set=[(id,.mix sz es)]∧(eff E k).del=[]∧Q3r S ds id∧Qp ((S k).hp id)=true:=by
 intro k
 induction k using Nat.strongRecOn with
 | _ k ih =>
  intro hks hk;unfold Q4Z at hk;split at hk
  ·rename_i d ty s x ty2 pos af ho;obtain ⟨b,id,hbk,hdst,b3,b4,b5⟩:∃ b id,b≤k∧(∀ m,b≤m→m<ops.size→(ops[m]?).bind (·.dst) ≠ some s)∧(S b).get s = .adr id 0 0∧Qp ((S b).hp id)=true∧Q3r S ds id:=by
    simp only [Bool.or_eq_true,Bool.and_eq_true] at hk;rcases hk with hk|⟨hk,hk'⟩
    ·obtain ⟨j,hj,hal⟩:=List.any_eq_true.1 hk;have hj:=List.mem_range.1 hj;obtain ⟨a1,a2,a3,a4⟩:=Q97 T hal;exact ⟨j+1,(S j).n,by omega,fun m h1 h2=>Q2M a2 h2 (by omega),a3,a4,.inl (T.nle (Nat.zero_le j) (by omega))⟩
    have hs:s∈ds:=(by simpa using hk);obtain ⟨id,q1,q2⟩:=hD.mix s hs;exact ⟨0,id,Nat.zero_le _,fun m _ h=>Q3J hk' h,q1,q2,.inr ⟨s,hs,q1⟩⟩
   have key:∀ m,b≤m→m≤k→(S m).get s = .adr id 0 0∧Qp ((S m).hp id)=true:=by
    intro m
    induction m with
    | zero =>
     intro h _;have:b=0:=(by omega);subst this;exact ⟨b3,b4⟩
    | succ m ihm =>
     intro h1 h2;rcases zA b (m+1) with h|h
     ·obtain ⟨i1,i2⟩:=ihm (by omega) (by omega);have hg:=qY (show m<ops.size by omega);obtain ⟨hf,hS,hnw,_⟩:=T.step hg;refine ⟨?_,?_⟩
      ·rw [hS,Q2m,if_neg]
       ·exact i1
       have:=hdst m (by omega) (by omega);rw [hg] at this;exact this
      show Qp (look id (S (m+1)).h)=true;rw [hS,Q26 _ _ hf];have hh:Qp (happ (eff E m) (S m).hp id)=true:=by
       cases hw:wrM false (ops[m]).op with
       | false =>
        obtain ⟨n1,n2⟩:=hnw hw;rw [QS n1 n2];exact i2
       | true =>
        have hsf:Q4Z ds ops m=true:=by
         have:=List.all_eq_true.1 hall m (List.mem_range.2 (by omega));rw [hg] at this;simpa [hw] using this
        obtain ⟨id',sz,es,e1,e2,_⟩:=ih m (by omega) (by omega) hsf;simp only [happ,e1,e2,look]
        by_cases hid:id'=id
        ·rw [if_pos hid];rfl
        rw [if_neg hid];simpa using i2
      cases hq:happ (eff E m) (S m).hp id with
      | none=>rw [hq] at hh;cases hh
      | some y=>rw [hq] at hh;exact hh
     have:b=m+1:=(by omega);subst this;exact ⟨b3,b4⟩
   obtain ⟨k1,k2⟩:=key k (by omega) (qE _);obtain ⟨e,hE,hop,hS⟩:=Q4o T ho rfl;have hev:(S k).ev (.tmp s) = .adr id 0 0:=k1;obtain ⟨sz,es,hmx⟩:∃ sz es,(S k).hp id=some (.mix sz es):=by
    cases hq:(S k).hp id with
    | none=>rw [hq] at k2;cases k2
    | some y=>cases y with
     | mix sz es=>exact ⟨sz,es,rfl⟩
     | row=>rw [hq] at k2;cases k2
     | mapE=>rw [hq] at k2;cases k2
     | ali=>rw [hq] at k2;cases k2
   have heff:eff E k=e:=(by simp [eff,hE]);rw [heff];cases hop with
   | sem h0=>cases h0
   | blt h1 h2 =>
    simp only [opF,hev,Q33] at h1;cases hty:tyi P ty with
    | none=>rw [hty] at h1;cases h1
    | some t =>
     rw [hty] at h1;simp only [hmx] at h1;split at h1
     ·simp only [qA,qC] at h1;rw [← h1.2];exact ⟨_,_,_,rfl,rfl,b5,by rw [hmx];rfl⟩
     cases h1
   | call h1=>cases h1
   | mcall h1=>cases h1
   | icall h1=>cases h1
   | boxr h1=>cases h1
   | appM h1=>cases h1
   | fcall h1=>cases h1
   | fcallb h1=>cases h1
   | callb h1=>cases h1
   | mapo h1=>simp [mapF] at h1
   | mkz h1=>cases h1
   | cvs h1=>cases h1
   | sl3 h1=>cases h1
   | mkf h1=>cases h1
   | mkb h1=>cases h1
   | mki h1=>cases h1
   | mkis h1=>cases h1
   | tas h1=>cases h1
   | sto h1 h2 h3 h4 h5 =>
    cases h1;rw [hev] at h4;cases h4;have:=h5.ent;rw [hmx] at this;cases this
   | stg h1 h2 h3 h4 _ h5 =>
    cases h1;rw [hev] at h4;cases h4;have:=h5.ent;rw [hmx] at this;cases this
  cases hk
theorem HS_same (T:Tr P false ops S E) (hD:SD ds (S 0)) (hall:Q2S ds ops=true) {i:Nat}:∀ m,i≤m→m≤ops.size→∀ id,HS S E ops.size m id=HS S E ops.size i id∨(Qp (HS S E ops.size i id)=true∧Qp (HS S E ops.size m id)=true∧Q3r S ds id):=by
 intro m
 induction m with
 | zero =>
  intro h _ id;have:i=0:=by omega
  subst this;exact .inl rfl
 | succ m ih =>
  intro h hm id;rcases zA i (m+1) with h'|h'
  ·have hi:=ih (by omega) (by omega) id;have hg:=qY (show m<ops.size by omega);rw [Q4w T (by omega)];cases hw:wrM false (ops[m]).op with
   | false =>
    obtain ⟨n1,n2⟩:=(T.step hg).2.2.1 hw;rw [QS n1 n2];exact hi
   | true =>
    have hsf:Q4Z ds ops m=true:=by
     have:=List.all_eq_true.1 hall m (List.mem_range.2 (by omega));rw [hg] at this;simpa [hw] using this
    obtain ⟨id',sz,es,e1,e2,e3,e4⟩:=Q7b T hD hall m (by omega) hsf;simp only [happ,e1,e2,look]
    by_cases hid:id'=id
    ·subst hid;rw [if_pos rfl];have hmm:Qp (HS S E ops.size m id')=true:=by
      simp only [HS];cases hq:look id' (S m).h with
      | none =>
       have:(S m).hp id'=none:=hq;rw [this] at e4;cases e4
      | some y =>
       have:(S m).hp id'=some y:=hq;rw [this] at e4;exact e4
     rcases hi with hi|⟨h1,h2,h3⟩
     ·exact .inr ⟨by rw [← hi];exact hmm,rfl,e3⟩
     exact .inr ⟨h1,rfl,h3⟩
    rw [if_neg hid];simpa using hi
  have:i=m+1:=by omega
  subst this;exact .inl rfl
theorem Q9f {h h':HP} (hh:∀ x,h' x=h x∨(Qp (h x)=true∧Qp (h' x)=true)):∀ d id,h' id=h id→cont h' d id=cont h d id:=by
 intro d
 induction d with
 | zero=>intro id _;rfl
 | succ d ih =>
  intro id he;simp only [cont,he];cases hq:h id with
  | none=>rfl
  | some y =>
   cases y with
   | mix=>rfl
   | row=>rfl
   | mapE=>rfl
   | ali c i k sz =>
    simp only;rcases hh c with h1|⟨h1,h2⟩
    ·rw [h1,ih c h1]
    rw [h1,h2];rfl
theorem takeC_ali (id i:Nat):∀ (cs:List AV) (k n:Nat),∀ p∈(Q12 id i k n cs).2,Qp (some p.2)=false:=by
 intro cs
 induction cs with
 | nil=>intro k n p hp;simp [Q12] at hp
 | cons a r ih =>
  intro k n p hp;unfold Q12 at hp;split at hp
  ·rename_i h;cases h
  ·rename_i h;cases h;simp only [List.mem_cons] at hp;rcases hp with rfl|hp
   ·rfl
   exact ih _ _ p hp
  rename_i h;cases h;exact ih _ _ p hp
theorem loadv_new {ty:Option Tyi} {a:AV} {h:HP} {n:Nat} {c:Prop} {e:Eff} (hc:Q2B ty a h n=some (c,e)):∀ p∈e.new,Qp (some p.2)=false:=by
 unfold Q2B at hc;split at hc
 ·split at hc
  ·simp only [qA,qC] at hc;rw [← hc.2];simp
  ·split at hc
   ·simp only [qA,qC] at hc;rw [← hc.2];exact takeC_ali _ _ _ _ _
   cases hc
  cases hc
 ·simp only [qA,qC] at hc;rw [← hc.2];simp
 cases hc
inductive Pts:AV→Nat→Prop
 | adr {id i k}:Pts (.adr id i k) id
 | own {id i k}:Pts (.own id i k) id
theorem Q7m (T:Tr P false ops S E) (hS0:∀ t id,t ∉ ds→Pts ((S 0).get t) id→¬ Q3r S ds id):∀ (n i t:Nat),i≤ops.size→Q4A ds ops n i t=true→∀ id,Pts ((S i).get t) id→¬ Q3r S ds id:=by
 intro n
 induction n with
 | zero=>intro i t _ h;cases h
 | succ n ih =>
  intro i t his h id hg;unfold Q4A at h;simp only [Bool.or_eq_true,Bool.and_eq_true,List.any_eq_true,List.mem_range] at h;rcases h with ⟨h,h'⟩|⟨l,hl,h⟩
  ·rw [Q3a T i (Nat.zero_le _) (by omega) fun q _ hq=>Q3J h (by omega)] at hg;exact hS0 _ _ (by simpa using h') hg
  split at h
  ·rename_i r hr;obtain ⟨o,hol,hgd,h1,h2,hop'⟩:=stepAt_eq hr;obtain ⟨e',hE,hop,hS⟩:=Q4o T hol hgd;rw [Q3a T (a:=l+1) i (by omega) (by omega) fun q hq1 hq2=>Q2M h2 (by omega) (by omega),hS,Q2m,if_pos h1] at hg;have key:Pts ((S l).get r) id→¬ Q3r S ds id:=fun hx=>ih l r (by omega) h id hx;obtain ⟨d,op,ty,pos,af,gd⟩:=o;simp only at hop' hop;have fin:∀ c,opF P op (S l).ev (S l).hp (S l).n=some (c,e')→¬ Q3r S ds id:=by
    intro c q1;rcases hop' with ⟨ty1,k1,rfl⟩|rfl|rfl|⟨ty1,k1,rfl⟩
    ·have hx:(S l).ev (.tmp r)=(S l).get r:=rfl;simp only [opF,hx] at q1;unfold fieldAddr at q1;split at q1
     ·rename_i hf hx0;simp only [qA,qC] at q1;rw [← q1.2] at hg;cases hg;exact key (by rw [hx0];exact .adr)
     ·simp only [qA,qC] at q1;rw [← q1.2] at hg;cases hg
     cases q1
    ·simp only [opF,qA,qC] at q1;rw [← q1.2] at hg;exact key hg
    ·have hx:(S l).ev (.tmp r)=(S l).get r:=rfl;simp only [opF,hx] at q1;unfold nilCheck at q1;split at q1
     ·rename_i hx0;simp only [qA,qC] at q1;rw [← q1.2] at hg;cases hg;exact key (by rw [hx0];exact .adr)
     ·simp only [qA,qC] at q1;rw [← q1.2] at hg;cases hg
     ·simp only [qA,qC] at q1;rw [← q1.2] at hg;cases hg
     cases q1
    have hx:(S l).ev (.tmp r)=(S l).get r:=rfl;simp only [opF,hx] at q1;split at q1
    ·unfold QZ at q1;split at q1
     ·rename_i hx0 _;split at q1
      ·split at q1
       ·simp only [qA,qC] at q1;rw [← q1.2] at hg;cases hg;exact key (by rw [hx0];exact .own)
       cases q1
      cases q1
     ·split at q1
      ·simp only [qA,qC] at q1;rw [← q1.2] at hg;cases hg
      cases q1
     cases q1
    cases q1
   rcases hop' with ⟨ty1,k1,rfl⟩|rfl|rfl|⟨ty1,k1,rfl⟩ <;>
   ·cases hop with
    | sem h0=>cases h0
    | blt q1 q2=>exact fin _ q1
    | call h1=>cases h1
    | mcall h1=>cases h1
    | icall h1=>cases h1
    | boxr h1=>cases h1
    | appM h1=>cases h1
    | fcall h1=>cases h1
    | fcallb h1=>cases h1
    | callb h1=>cases h1
    | mapo h1=>simp [mapF] at h1
    | mkz h1=>cases h1
    | cvs h1=>cases h1
    | sl3 h1=>cases h1
    | mkf h1=>cases h1
    | mkb h1=>cases h1
    | mki h1=>cases h1
    | mkis h1=>cases h1
    | tas h1=>cases h1
    | sto h1=>cases h1
    | stg h1=>cases h1
  cases h
theorem root_same (T:Tr P false ops S E) (hD:SD ds (S 0)) (hall:Q2S ds ops=true) (hS0:∀ t id,t ∉ ds→Pts ((S 0).get t) id→¬ Q3r S ds id) {i m:Nat} {oi:Oper} (hi:ops[i]? = some oi) (hr:Q4X ds ops i=true) (him:i≤m+1) (hm:m+1≤ops.size)
  {ev:Operand→AV} {e:Eff} (up:AOp P false oi.op ev (HS S E ops.size i) (S i).n e) (nw:∀ p∈e.new,HS S E ops.size i p.1=some p.2) (hev:∀ t,(.tmp t:Operand)∈oi.op.operands→ev (.tmp t)=(S i).get t) :
  AOp P false oi.op ev (HS S E ops.size (m+1)) (S i).n e∧∀ p∈e.new,HS S E ops.size (m+1) p.1=some p.2:=by
 obtain ⟨ty,t,ho,hsrc⟩:=Q5O hi hr;have his:=(Array.getElem?_eq_some_iff.1 hi).1;have hsame:=HS_same T hD hall (i:=i) (m+1) him hm;have hadr:∀ id a b,(S i).get t = .adr id a b→¬ Q3r S ds id:=fun id a b hg=>Q7m T hS0 8 i t (by omega) hsrc id (by rw [hg];exact .adr);have hidx:∀ ty' x c,QZ ty' ((S i).get t) x (HS S E ops.size i)=some (c,e)→QZ ty' ((S i).get t) x (HS S E ops.size (m+1))=some (c,e)∧e.new=[]:=by
  intro ty' x c hc;generalize hg:(S i).get t=v0 at hc ⊢;unfold QZ at hc ⊢;split at hc
  ·rename_i tt id off n k j;have hlt:¬ Q3r S ds id:=Q7m T hS0 8 i t (by omega) hsrc id (by rw [hg];exact .own);have hid:HS S E ops.size (m+1) id=HS S E ops.size i id:=(hsame id).resolve_right fun h=>hlt h.2.2;have hcont:=Q9f (h:=HS S E ops.size i) (h':=HS S E ops.size (m+1)) (fun x=>(hsame x).imp_right fun h=>⟨h.1,h.2.1⟩) depth id hid;simp only [hcont];refine ⟨hc,?_⟩;split at hc
   ·split at hc
    ·simp only [qA,qC] at hc;rw [← hc.2]
    cases hc
   cases hc
  ·refine ⟨hc,?_⟩;split at hc
   ·simp only [qA,qC] at hc;rw [← hc.2]
   cases hc
  cases hc
 have hload:∀ c,Q2B (tyi P ty) ((S i).get t) (HS S E ops.size i) (S i).n=some (c,e)→Q2B (tyi P ty) ((S i).get t) (HS S E ops.size (m+1)) (S i).n=some (c,e)∧∀ p∈e.new,Qp (some p.2)=false:=by
  intro c hc;refine ⟨?_,loadv_new hc⟩;cases hg:(S i).get t with
  | adr id a b =>
   have hlt:=hadr id a b hg;have hid:HS S E ops.size (m+1) id=HS S E ops.size i id:=(hsame id).resolve_right fun h=>hlt h.2.2;have hcont:=Q9f (h:=HS S E ops.size i) (h':=HS S E ops.size (m+1)) (fun x=>(hsame x).imp_right fun h=>⟨h.1,h.2.1⟩) depth id hid;rw [hg] at hc;cases hty:tyi P ty with
   | none=>rw [hty] at hc;cases hc
   | some tt =>
    rw [hty,Q8v] at hc;rw [Q8v,hid];cases hq:HS S E ops.size i id with
    | none=>rw [hq] at hc;cases hc
    | some y =>
     rw [hq] at hc;cases y with
     | mix=>exact hc
     | row=>exact hc
     | mapE=>cases hc
     | ali=>simp only [Qa9] at hc ⊢;rw [hcont];exact hc
  | rptr cs =>
   rw [hg] at hc;cases hty:tyi P ty with
   | none=>rw [hty] at hc;cases hc
   | some tt=>rw [hty] at hc;exact hc
  | _=>rw [hg] at hc;cases hty:tyi P ty<;>(rw [hty] at hc;cases hc)
 rcases ho with ho|⟨x,ho⟩
 ·rw [ho] at up hev ⊢;have hevt:=hev t (by simp [Op.operands]);cases up with
  | sem h0=>cases h0
  | blt h1 h2 =>
   simp only [opF] at h1;rw [hevt] at h1;obtain ⟨q1,q2⟩:=hload _ h1;refine ⟨.blt (by simp only [opF];rw [hevt];exact q1) h2,fun p hp=>?_⟩;rcases hsame p.1 with h|⟨h,_⟩
   ·rw [h];exact nw p hp
   rw [nw p hp,q2 p hp] at h;cases h
  | call h1=>cases h1
  | mcall h1=>cases h1
  | icall h1=>cases h1
  | boxr h1=>cases h1
  | appM h1=>cases h1
  | fcall h1=>cases h1
  | fcallb h1=>cases h1
  | callb h1=>cases h1
  | mapo h1=>simp [mapF] at h1
  | mkz h1=>cases h1
  | cvs h1=>cases h1
  | sl3 h1=>cases h1
  | mkf h1=>cases h1
  | mkb h1=>cases h1
  | mki h1=>cases h1
  | mkis h1=>cases h1
  | tas h1=>cases h1
  | sto h1=>cases h1
  | stg h1=>cases h1
 rw [ho] at up hev ⊢;have hevt:=hev t (by simp [Op.operands]);cases up with
 | sem h0=>cases h0
 | blt h1 h2 =>
  simp only [opF] at h1;split at h1
  ·rename_i et het;rw [hevt] at h1;obtain ⟨q1,q2⟩:=hidx _ _ _ h1;refine ⟨.blt (by simp only [opF,het];rw [hevt];exact q1) h2,fun p hp=>?_⟩;rw [q2] at hp;cases hp
  cases h1
 | call h1=>cases h1
 | mcall h1=>cases h1
 | icall h1=>cases h1
 | boxr h1=>cases h1
 | appM h1=>cases h1
 | fcall h1=>cases h1
 | fcallb h1=>cases h1
 | callb h1=>cases h1
 | mapo h1=>simp [mapF] at h1
 | mkz h1=>cases h1
 | cvs h1=>cases h1
 | sl3 h1=>cases h1
 | mkf h1=>cases h1
 | mkb h1=>cases h1
 | mki h1=>cases h1
 | mkis h1=>cases h1
 | tas h1=>cases h1
 | sto h1=>cases h1
 | stg h1=>cases h1
def isApp:Op→Bool
 | .call ⟨.builtin .append,_,_⟩=>true
 | _=>false
theorem app_set {op:Op} {ev:Operand→AV} {h:HP} {n:Nat} {e:Eff} (hop:AOp P false op ev h n e) (ha:isApp op=true):e.set=[]:=by
 unfold isApp at ha;split at ha
 case h_2=>cases ha
 rename_i az ts;cases hop with
 | sem h0=>cases h0
 | blt he hc =>
  simp only [opF] at he;unfold bltF at he;split at he
  ·first|(rename_i hq _ _;cases hq;done)|(rename_i hq _;cases hq;done)|(rename_i hq;cases hq;done)
  ·split at he
   ·split at he
    ·unfold Q2j at he;split at he
     ·split at he
      ·split at he
       ·simp only [qA,qC] at he;obtain ⟨_,rfl⟩:=he;rfl
       cases he
      cases he
     cases he
    cases he
   cases he
  ·first|(rename_i hq _ _;cases hq;done)|(rename_i hq _;cases hq;done)|(rename_i hq;cases hq;done)
  ·first|(rename_i hq _ _;cases hq;done)|(rename_i hq _;cases hq;done)|(rename_i hq;cases hq;done)
  cases he
 | call h1 h2=>cases h1;cases h2
 | mcall h1=>cases h1
 | icall h1=>cases h1
 | boxr h1=>cases h1
 | appM h1 h2 h3 =>
  unfold Vc.appM at h3;split at h3
  ·split at h3
   ·simp only [qA,qC] at h3;obtain ⟨_,rfl⟩:=h3;rfl
   cases h3
  cases h3
 | fcall h1 h2=>cases h1;cases h2
 | fcallb h1 h2=>cases h1;cases h2
 | callb h1 h2=>cases h1;cases h2
 | mapo h1=>simp [mapF] at h1
 | mkz h1=>cases h1
 | cvs h1=>cases h1
 | sl3 h1=>cases h1
 | mkf h1=>cases h1
 | mkb h1=>cases h1
 | mki h1=>cases h1
 | mkis h1=>cases h1
 | tas h1=>cases h1
 | sto h1=>cases h1
 | stg h1=>cases h1
theorem wr_ex {h:HP}:∀ (d id:Nat) (es:List (List AV)) (s:List (Nat × Ent)),wr h d id es=some s→∃ p y,s=[p]∧h p.1=some y:=by
 intro d
 induction d with
 | zero=>intro id es s hw;simp [wr] at hw
 | succ d ih =>
  intro id es s hw;unfold wr at hw;cases he:h id with
  | none=>simp [he] at hw
  | some e =>
   cases e with
   | mix=>simp [he] at hw;exact ⟨_,_,hw.symm,he⟩
   | row=>simp [he] at hw;exact ⟨_,_,hw.symm,he⟩
   | mapE=>simp [he] at hw
   | ali c i k sz =>
    simp only [he] at hw;cases hc:cont h d c with
    | none=>simp [hc] at hw
    | some p=>rw [hc] at hw;exact ih _ _ _ hw
theorem Q7Z {ty:TypeId} {a:Nat} {x:Operand} {ev:Operand→AV} {h:HP} {n j i k:Nat} {e:Eff} (hop:AOp P false (.store ty (.tmp a) x) ev h n e) (ha:ev (.tmp a) = .adr j i k) :
  ∀ p∈e.set,(∃ y,h p.1=some y)∧(Qp (h j)=true→p.1=j∧Qp (some p.2)=true):=by
 cases hop with
 | sem h0=>cases h0
 | blt h1 h2 =>
  simp only [opF,ha,Q33] at h1;cases hty:tyi P ty with
  | none=>rw [hty] at h1;cases h1
  | some t =>
   rw [hty] at h1;have gen:∀ (c0:Prop) y,h j=some y→Qp (some y)=false→(match cont h depth j with
     | some (sz,es)=>match ev x with
      | .val v=>if t.sz=1∧Q6x v=true then
        match wr h depth j (es.set i ((es.getD i []).set k (.val v))) with
        | some s=>some (i<es.length∧k<sz,({ v:=.bot,set:=s }:Eff))
        | none=>none
       else none
      | _=>none
     | none=>none)=some (c0,e)→∀ p∈e.set,(∃ y,h p.1=some y)∧(Qp (h j)=true→p.1=j∧Qp (some p.2)=true):=by
    intro c0 y hy hm hq;split at hq
    ·split at hq
     ·split at hq
      ·split at hq
       ·rename_i s hs;simp only [qA,qC] at hq;obtain ⟨_,rfl⟩:=hq;obtain ⟨q,y',rfl,hq⟩:=wr_ex _ _ _ _ hs;intro p hp;simp only [List.mem_singleton] at hp;subst hp;exact ⟨⟨_,hq⟩,fun hm'=>by rw [hy,hm] at hm';cases hm'⟩
       cases hq
      cases hq
     cases hq
    cases hq
   cases hj:h j with
   | none=>simp [hj] at h1
   | some y =>
    cases y with
    | mix sz es =>
     simp only [hj] at h1;split at h1
     ·simp only [qA,qC] at h1;obtain ⟨_,rfl⟩:=h1;intro p hp;simp only [List.mem_singleton] at hp;subst hp;exact ⟨⟨_,hj⟩,fun _=>⟨rfl,rfl⟩⟩
     cases h1
    | row=>simp only [hj] at h1;rw [← hj];exact gen _ _ hj rfl h1
    | mapE=>simp only [hj] at h1;rw [← hj];exact gen _ _ hj rfl h1
    | ali=>simp only [hj] at h1;rw [← hj];exact gen _ _ hj rfl h1
 | call h1=>cases h1
 | mcall h1=>cases h1
 | icall h1=>cases h1
 | boxr h1=>cases h1
 | appM h1=>cases h1
 | fcall h1=>cases h1
 | fcallb h1=>cases h1
 | callb h1=>cases h1
 | mapo h1=>simp [mapF] at h1
 | mkz h1=>cases h1
 | cvs h1=>cases h1
 | sl3 h1=>cases h1
 | mkf h1=>cases h1
 | mkb h1=>cases h1
 | mki h1=>cases h1
 | mkis h1=>cases h1
 | tas h1=>cases h1
 | sto h1 h2 h3 h4 h5 =>
  cases h1;rw [ha] at h4;cases h4;intro p hp;simp only [List.mem_singleton] at hp;subst hp;have:=h5.ent;exact ⟨⟨_,this⟩,fun hm=>by rw [this] at hm;cases hm⟩
 | stg h1 h2 h3 h4 _ h5 =>
  cases h1;rw [ha] at h4;cases h4;intro p hp;simp only [List.mem_singleton] at hp;subst hp;have:=h5.ent;exact ⟨⟨_,this⟩,fun hm=>by rw [this] at hm;cases hm⟩
def Tgt (rs:List Nat) (st st':St) (j:Nat):Prop:=Qp (st.hp j)=true∧Qp (st'.hp j)=true∧∀ s∈rs,∀ id,st.get s = .adr id 0 0→j ≠ id
structure Kp (rs:List Nat) (J:Nat) (ops:Array Oper) (st st':St):Prop where
 var:∀ s∈rs,∃ id,st.get s = .adr id 0 0∧Qp (st.hp id)=true∧Qp (st'.hp id)=true
 wr:∀ k o,ops[k]? = some o→wrM false o.op=true→isApp o.op=true∨∃ ty a x,o.op = .store ty (.tmp a) x∧(∀ m,k≤m→m<ops.size→(ops[m]?).bind (·.dst) ≠ some a)∧∃ j i' k',st'.get a = .adr j i' k'∧(k≤J→Tgt rs st st' j)
theorem kp_set (T:Tr P false ops S E) {rs:List Nat} {J:Nat} (hK:Kp rs J ops (S 0) (S ops.size)) {m:Nat} (hm:m<ops.size):∀ p∈(eff E m).set,(∃ y,(S m).hp p.1=some y)∧(m≤J→∃ j,Tgt rs (S 0) (S ops.size) j∧(Qp ((S m).hp j)=true→p.1=j∧Qp (some p.2)=true)):=by
 have hg:=qY hm;obtain ⟨hf,hS,hnw,_⟩:=T.step hg;intro p hp;cases hw:wrM false (ops[m]).op with
 | false=>rw [(hnw hw).1] at hp;cases hp
 | true =>
  have hrun:=T.run m _ hg;cases hE:E m with
  | none=>simp [eff,hE] at hp
  | some e =>
   rw [hE] at hrun;have hop:=hrun.2.1;have heff:eff E m=e:=(by simp [eff,hE]);rw [heff] at hp;rcases hK.wr m _ hg hw with ha|⟨ty,a,x,ho,hd,j,i',k',hj,ht⟩
   ·rw [app_set hop ha] at hp;cases hp
   rw [ho] at hop;have hga:(S m).get a = .adr j i' k':=(by rw [← hj];exact (Q3a T ops.size (by omega) (qE _) fun q h1 h2=>hd q h1 h2).symm);have:=Q7Z hop (show (S m).ev (.tmp a) = .adr j i' k' from hga) p hp;exact ⟨this.1,fun hJ=>⟨j,ht hJ,this.2⟩⟩
theorem kp_gone (T:Tr P false ops S E) {rs:List Nat} {J:Nat} (hK:Kp rs J ops (S 0) (S ops.size)) {x m:Nat} (hx:x<(S m).n) (h0:(S m).hp x=none):∀ k,m≤k→k≤ops.size→(S k).hp x=none:=by
 intro k
 induction k with
 | zero =>
  intro h _;have:m=0:=by omega
  subst this;exact h0
 | succ k ih =>
  intro h hk;rcases zA m (k+1) with h'|h'
  ·have hn:=ih (by omega) (by omega);have hg:=qY (show k<ops.size by omega);obtain ⟨hf,hS,_⟩:=T.step hg;have hle:=T.nle (show m≤k by omega) (by omega);show look x (S (k+1)).h=none;rw [hS,Q26 _ _ hf];have h1:look x (eff E k).set=none:=by
    cases hq:look x (eff E k).set with
    | none=>rfl
    | some y =>
     obtain ⟨⟨z,hz⟩,_⟩:=kp_set T hK (show k<ops.size by omega) _ (Qg hq);rw [hn] at hz;cases hz
   have h2:look x (eff E k).new=none:=by
    cases hq:look x (eff E k).new with
    | none=>rfl
    | some y=>have:=(hf.new _ (Qg hq)).1;simp only at this;omega
   simp only [happ,h1,hn,h2];simp
  have:m=k+1:=by omega
  subst this;exact h0
theorem kp_all (T:Tr P false ops S E) {rs:List Nat} {J:Nat} (hK:Kp rs J ops (S 0) (S ops.size)):∀ m,m≤ops.size→m≤J+1→(∀ s∈rs,∀ id,(S 0).get s = .adr id 0 0→(S m).hp id=(S 0).hp id)∧∀ j,Tgt rs (S 0) (S ops.size) j→Qp ((S m).hp j)=true:=by
 intro m
 induction m with
 | zero=>intro _ _;exact ⟨fun _ _ _ _=>rfl,fun j hj=>hj.1⟩
 | succ m ih =>
  intro hm hmJ;obtain ⟨i1,i2⟩:=ih (by omega) (by omega);have hg:=qY (show m<ops.size by omega);obtain ⟨hf,hS,_⟩:=T.step hg;have hms:∀ x,Qp ((S 0).hp x)=true→x<(S 0).n:=by
   intro x hx;cases hq:(S 0).hp x with
   | none=>rw [hq] at hx;cases hx
   | some y=>exact T.all 0 (by omega) _ _ hq
  have hnew:∀ x,Qp ((S 0).hp x)=true→look x (eff E m).new=none:=by
   intro x hx0;have hlt':x<(S m).n:=qQ (hms x hx0) (T.nle (Nat.zero_le _) (by omega));cases hq:look x (eff E m).new with
   | none=>rfl
   | some y=>have:=(hf.new _ (Qg hq)).1;simp only at this;omega
  have hdel:∀ x,Qp ((S 0).hp x)=true→Qp ((S ops.size).hp x)=true→look x (eff E m).set=none→x ∉ (eff E m).del:=by
   intro x hx0 hx hl hc;have hlt:x<(S (m+1)).n:=qQ (hms x hx0) (T.nle (Nat.zero_le _) hm);have hn:(S (m+1)).hp x=none:=by
    show look x (S (m+1)).h=none;rw [hS,Q26 _ _ hf];simp only [happ,hl,if_pos hc,hnew x hx0]
   rw [kp_gone T hK hlt hn ops.size hm (qE _)] at hx;cases hx
  have step:∀ x,Qp ((S 0).hp x)=true→look x (eff E m).set=none→x ∉ (eff E m).del→(S (m+1)).hp x=(S m).hp x:=by
   intro x hx0 hl hd;show look x (S (m+1)).h=_;rw [hS,Q26 _ _ hf];simp only [happ,hl,if_neg hd,hnew x hx0];cases (S m).hp x<;>rfl
  refine ⟨fun s hs id hid=>?_,fun j hj=>?_⟩
  ·obtain ⟨id',q1,q2,q3⟩:=hK.var s hs;rw [hid] at q1;cases q1;have hl:look id (eff E m).set=none:=by
    cases hq:look id (eff E m).set with
    | none=>rfl
    | some y =>
     obtain ⟨_,hh0⟩:=kp_set T hK (show m<ops.size by omega) _ (Qg hq);obtain ⟨j,ht,hh⟩:=hh0 (by omega);exact absurd (hh (i2 j ht)).1.symm (ht.2.2 s hs id hid)
   rw [step id q2 hl (hdel id q2 q3 hl)];exact i1 s hs id hid
  cases hq:look j (eff E m).set with
  | none=>rw [step j hj.1 hq (hdel j hj.1 hj.2.1 hq)];exact i2 j hj
  | some y =>
   obtain ⟨_,hh0⟩:=kp_set T hK (show m<ops.size by omega) _ (Qg hq);obtain ⟨j',ht,hh⟩:=hh0 (by omega);have:=(hh (i2 j' ht)).2;show Qp (look j (S (m+1)).h)=true;rw [hS,Q26 _ _ hf];simp only [happ,hq];exact this
theorem kept_nil (ops:Array Oper) (i:Nat):Q4j [] ops i=false:=by
 have h:∀ l t,Q6q [] ops l t=false:=by
  intro l t;unfold Q6q;split<;>simp
 unfold Q4j;split
 ·simp [h]
 rfl
theorem Q5C {rs:List Nat} {i:Nat} {o:Oper} (hi:ops[i]? = some o) (h:Q4j rs ops i=true):∃ ty t,o.op = .load ty (.tmp t)∧((t∈rs∧Q7M ops t=true)∨∃ l,l<i∧Q6q rs ops l t=true):=by
 unfold Q4j at h;split at h
 ·rename_i d ty t t2 p af g ho;rw [hi] at ho;cases ho;simp only [Bool.or_eq_true,Bool.and_eq_true,List.any_eq_true,List.mem_range] at h;refine ⟨ty,t,rfl,?_⟩;rcases h with h|⟨l,hl,h⟩
  ·exact .inl ⟨by simpa using h.1,h.2⟩
  exact .inr ⟨l,hl,h⟩
 cases h
theorem kept_adr (T:Tr P false ops S E) {rs:List Nat} {J:Nat} (hK:Kp rs J ops (S 0) (S ops.size)) {i:Nat} (his:i<ops.size) {t:Nat} (h:(t∈rs∧Q7M ops t=true)∨∃ l,l<i∧Q6q rs ops l t=true):∃ s∈rs,∃ id a b,(S 0).get s = .adr id 0 0∧(S i).get t = .adr id a b:=by
 rcases h with ⟨ht,hd⟩|⟨l,hl,h⟩
 ·obtain ⟨id,q1,_⟩:=hK.var t ht;exact ⟨t,ht,id,0,0,q1,by rw [Q3a T i (Nat.zero_le _) (by omega) fun q _ hq=>Q3J hd (by omega)];exact q1⟩
 unfold Q6q at h;split at h
 ·rename_i d ty1 r off ty2 pos af hol;simp only [Bool.and_eq_true,beq_iff_eq] at h;obtain ⟨h1,h2,h3,h4⟩:=h;have h4:r∈rs:=by simpa using h4
  obtain ⟨id,q1,_⟩:=hK.var r h4;obtain ⟨e',hE,hop,hS⟩:=Q4o T hol rfl;have hr0:(S l).get r = .adr id 0 0:=by rw [Q3a T l (Nat.zero_le _) (by omega) fun q _ hq=>Q3J h3 (by omega)];exact q1
  have hg:(S i).get t=e'.v:=by rw [Q3a T (a:=l+1) i (by omega) (by omega) fun q hq1 hq2=>Q2M h2 (by omega) (by omega),hS,Q2m,if_pos h1]
  cases hop with
  | sem h0=>cases h0
  | blt p1 p2 =>
   have hx:(S l).ev (.tmp r) = .adr id 0 0:=hr0;simp only [opF,hx] at p1;unfold fieldAddr at p1;split at p1
   ·rename_i hf hx0;cases hx0;simp only [qA,qC] at p1;rw [← p1.2] at hg;exact ⟨r,h4,id,_,_,q1,hg⟩
   ·rename_i hx0;cases hx0
   cases p1
  | call h1=>cases h1
  | mcall h1=>cases h1
  | icall h1=>cases h1
  | boxr h1=>cases h1
  | appM h1=>cases h1
  | fcall h1=>cases h1
  | fcallb h1=>cases h1
  | callb h1=>cases h1
  | mapo h1=>simp [mapF] at h1
  | mkz h1=>cases h1
  | cvs h1=>cases h1
  | sl3 h1=>cases h1
  | mkf h1=>cases h1
  | mkb h1=>cases h1
  | mki h1=>cases h1
  | mkis h1=>cases h1
  | tas h1=>cases h1
  | sto h1=>cases h1
  | stg h1=>cases h1
 cases h
theorem kept_same (T:Tr P false ops S E) {rs:List Nat} {J:Nat} (hK:Kp rs J ops (S 0) (S ops.size)) {i m:Nat} {oi:Oper} (hi:ops[i]? = some oi) (hr:Q4j rs ops i=true) (him:i≤m+1) (hmJ:m≤J) (hm:m+1≤ops.size)
  {ev:Operand→AV} {e:Eff} (up:AOp P false oi.op ev (HS S E ops.size i) (S i).n e) (hev:∀ t,(.tmp t:Operand)∈oi.op.operands→ev (.tmp t)=(S i).get t) :
  AOp P false oi.op ev (HS S E ops.size (m+1)) (S i).n e∧∀ p∈e.new,HS S E ops.size (m+1) p.1=some p.2:=by
 obtain ⟨ty,t,ho,hsrc⟩:=Q5C hi hr;have his:=(Array.getElem?_eq_some_iff.1 hi).1;obtain ⟨s,hs,id,a,b,q1,q4⟩:=kept_adr T hK his hsrc;obtain ⟨id',q1',q2,q3⟩:=hK.var s hs;rw [q1] at q1';cases q1';rw [ho] at up hev ⊢;have hevt:ev (.tmp t) = .adr id a b:=by rw [hev t (by simp [Op.operands])];exact q4
 obtain ⟨sz,es,hmx⟩:∃ sz es,(S 0).hp id=some (.mix sz es):=by
  cases hq:(S 0).hp id with
  | none=>rw [hq] at q2;cases q2
  | some y=>cases y with
   | mix sz es=>exact ⟨sz,es,rfl⟩
   | row=>rw [hq] at q2;cases q2
   | mapE=>rw [hq] at q2;cases q2
   | ali=>rw [hq] at q2;cases q2
 have hH:∀ k,k≤ops.size→k≤J+1→HS S E ops.size k id=some (.mix sz es):=by
  intro k hk hkJ;have h1:look id (S k).h=some (.mix sz es):=by
   have:=(kp_all T hK k hk hkJ).1 s hs id q1;rw [hmx] at this;exact this
  simp only [HS,h1]
 cases up with
 | sem h0=>cases h0
 | blt h1 h2 =>
  simp only [opF] at h1;rw [hevt] at h1;cases hty:tyi P ty with
  | none=>rw [hty] at h1;cases h1
  | some tt =>
   rw [hty] at h1;simp only [Q2B,hH i (by omega) (by omega),qA,qC] at h1;obtain ⟨hc,he⟩:=h1;subst he;refine ⟨.blt (c:=a<es.length∧b+tt.sz≤sz) ?_ (by rw [hc];exact h2),fun p hp=>by cases hp⟩;simp only [opF];rw [hevt,hty];simp only [Q2B,hH (m+1) hm (by omega)]
 | call h1=>cases h1
 | mcall h1=>cases h1
 | icall h1=>cases h1
 | boxr h1=>cases h1
 | appM h1=>cases h1
 | fcall h1=>cases h1
 | fcallb h1=>cases h1
 | callb h1=>cases h1
 | mapo h1=>simp [mapF] at h1
 | mkz h1=>cases h1
 | cvs h1=>cases h1
 | sl3 h1=>cases h1
 | mkf h1=>cases h1
 | mkb h1=>cases h1
 | mki h1=>cases h1
 | mkis h1=>cases h1
 | tas h1=>cases h1
 | sto h1=>cases h1
 | stg h1=>cases h1
def Mov (P:Program) (ops:Array Oper) (S:Nat→St) (E:Nat→Option Eff) (i m:Nat):Prop:=∀ oi,ops[i]? = some oi→wrM false oi.op=false∧∀ (ev:Operand→AV) (e:Eff),i≤m+1→m+1≤ops.size →
 AOp P false oi.op ev (S i).hp (S i).n e→e=eff E i→AOp P false oi.op ev (HS S E ops.size i) (S i).n e→(∀ p∈e.new,HS S E ops.size i p.1=some p.2)→(∀ t,(.tmp t:Operand)∈oi.op.operands→ev (.tmp t)=(S i).get t) →
 AOp P false oi.op ev (HS S E ops.size (m+1)) (S i).n e∧∀ p∈e.new,HS S E ops.size (m+1) p.1=some p.2
theorem mov_soft (T:Tr P false ops S E) (hD:SD ds (S 0)) (hall:Q2S ds ops=true) (hS0:∀ t id,t ∉ ds→Pts ((S 0).get t) id→¬ Q3r S ds id) {i m:Nat} (hr:Q4X ds ops i=true):Mov P ops S E i m :=
 fun oi hi=>⟨rootAt_wr hi hr,fun ev e him hm _ _ up nw hev=>root_same T hD hall hS0 hi hr him hm up nw hev⟩
theorem mov_kept (T:Tr P false ops S E) {rs:List Nat} {J:Nat} (hK:Kp rs J ops (S 0) (S ops.size)) {i m:Nat} (hmJ:m≤J) (hr:Q4j rs ops i=true):Mov P ops S E i m :=
 fun oi hi=>⟨by obtain ⟨ty,t,ho,_⟩:=Q5C hi hr;rw [ho];rfl,fun ev e him hm _ _ up nw hev=>kept_same T hK hi hr him hmJ hm up hev⟩
theorem rdT_wr {op:Op} {t:Nat} (h:rdT op=some t):wrM false op=false:=by
 unfold rdT at h;split at h<;>first|rfl|cases h
theorem mov_ro (T:Tr P false ops S E) {rd0:List Nat} (h0:∀ t∈rd0,RoV ((S 0).get t)) {i m:Nat} (hr:roAt rd0 ops i=true):Mov P ops S E i m:=fun oi hi=>by
 obtain ⟨t,ht,hv⟩:=Q6z h0 (fun k o ho=>T.run k o (by simpa using ho)) hi hr;refine ⟨rdT_wr ht,fun ev e _ _ _ _ up nw hev=>?_⟩;have:=up.calmR ht (by rw [hev t (rdT_mem ht)];exact hv);exact ⟨this.2 _,by rw [this.1.2.2.1];simp⟩
theorem mix_keep (T:Tr P false ops S E) (hD:SD ds (S 0)) (hall:Q2S ds ops=true) {b id:Nat} (hb:Qp ((S b).hp id)=true):∀ m,b≤m→m≤ops.size→Qp ((S m).hp id)=true:=by
 intro m
 induction m with
 | zero =>
  intro h _;have:b=0:=by omega
  subst this;exact hb
 | succ m ihm =>
  intro h1 h2;rcases zA b (m+1) with h|h
  ·have i2:=ihm (by omega) (by omega);have hg:=qY (show m<ops.size by omega);obtain ⟨hf,hS,hnw,_⟩:=T.step hg;show Qp (look id (S (m+1)).h)=true;rw [hS,Q26 _ _ hf];have hh:Qp (happ (eff E m) (S m).hp id)=true:=by
    cases hw:wrM false (ops[m]).op with
    | false =>
     obtain ⟨n1,n2⟩:=hnw hw;rw [QS n1 n2];exact i2
    | true =>
     have hsf:Q4Z ds ops m=true:=by
      have:=List.all_eq_true.1 hall m (List.mem_range.2 (by omega));rw [hg] at this;simpa [hw] using this
     obtain ⟨id',sz,es,e1,e2,_⟩:=Q7b T hD hall m (by omega) hsf;simp only [happ,e1,e2,look]
     by_cases hid:id'=id
     ·rw [if_pos hid];rfl
     rw [if_neg hid];simpa using i2
   cases hq:happ (eff E m) (S m).hp id with
   | none=>rw [hq] at hh;cases hh
   | some y=>rw [hq] at hh;exact hh
  have:b=m+1:=by omega
  subst this;exact hb
theorem late_eff (T:Tr P false ops S E) (hD:SD ds (S 0)) (hall:Q2S ds ops=true) {i k:Nat} (hk:k<ops.size) (hl:lateW ops i k=true):(∀ p∈(eff E k).set,(S (i+1)).n≤p.1)∧(eff E k).del=[]:=by
 have hl2:=hl;unfold lateW at hl;split at hl
 ·rename_i d ty s x ty2 pos af ho;obtain ⟨a,ha,hal⟩:=List.any_eq_true.1 hl;have ha:=List.mem_range.1 ha;simp only [Bool.and_eq_true,decide_eq_true_eq] at hal;obtain ⟨a1,a2,a3,a4⟩:=Q97 T hal.2;have hsf:Q4Z ds ops k=true:=by
   have:=List.all_eq_true.1 hall k (List.mem_range.2 hk);rw [ho] at this;simpa [wrM,Q1h] using this
  obtain ⟨id,sz,es,e1,e2,_⟩:=Q7b T hD hall k hk hsf;obtain ⟨e,hE,hop,hS⟩:=Q4o T ho rfl;have heff:eff E k=e:=by simp [eff,hE]
  have hg:(S k).get s = .adr (S a).n 0 0:=by
   rw [Q3a T (a:=a+1) k (by omega) (by omega) fun m h1 h2=>Q2M a2 (by omega) (by omega)];exact a3
  have hm:=mix_keep T hD hall a4 k (by omega) (by omega);refine ⟨fun p hp=>?_,e2⟩;rw [heff] at hp;have:=((Q7Z hop (show (S k).ev (.tmp s)=_ from hg)) p hp).2 hm;rw [this.1];exact T.nle (by omega) (by omega)
 cases hl
theorem mov_late (T:Tr P false ops S E) (hD:SD ds (S 0)) (hall:Q2S ds ops=true) {i m:Nat} (hl:Q7C ops i=true):Mov P ops S E i m:=fun oi hi=>by
 have his:=(Array.getElem?_eq_some_iff.1 hi).1;unfold Q7C at hl;rw [Bool.and_eq_true] at hl;obtain ⟨hl1,hl2⟩:=hl;have hw:wrM false oi.op=false:=by
  rw [hi] at hl1;simpa using hl1
 refine ⟨hw,fun ev e him hm up0 hee up nw hev=>?_⟩;obtain ⟨n1,n2⟩:=(T.step hi).2.2.1 hw;have h0:HS S E ops.size (i+1)=HS S E ops.size i:=by rw [Q4w T his,QS n1 n2]
 have key:∀ q,i+1≤q→q≤ops.size→∀ id,id<(S (i+1)).n→HS S E ops.size q id=HS S E ops.size (i+1) id:=by
  intro q
  induction q with
  | zero=>intro h;omega
  | succ q ih =>
   intro h1 h2 id hid;rcases zA (i+1) (q+1) with h|h
   ·rw [← ih (by omega) (by omega) id hid,Q4w T (by omega)];have hg:=qY (show q<ops.size by omega);cases hwq:wrM false (ops[q]).op with
    | false =>
     obtain ⟨g1,g2⟩:=(T.step hg).2.2.1 hwq;rw [QS g1 g2]
    | true =>
     have hlw:lateW ops i q=true:=by
      have:=List.all_eq_true.1 hl2 q (List.mem_range.2 (by omega));rw [hg] at this;simp only [qU,qZ,hwq,Bool.not_true,Bool.or_false,Bool.or_eq_true,decide_eq_true_eq] at this;exact this.resolve_left (by omega)
     obtain ⟨g1,g2⟩:=late_eff T hD hall (by omega) hlw;simp only [happ,g2];have:look id (eff E q).set=none:=by
      cases hq:look id (eff E q).set with
      | none=>rfl
      | some y =>
       obtain ⟨p,hp,hpe⟩:=List.mem_map.1 (Q2c hq);have:=g1 p hp;omega
     rw [this];simp
   have:i=q:=(by omega);subst this;rfl
 have all:∀ id,id<(S (i+1)).n→HS S E ops.size (m+1) id=HS S E ops.size i id:=by
  intro id hid;rcases zA i (m+1) with h|h
  ·rw [key (m+1) (by omega) hm id hid,h0]
  have:i=m+1:=by omega
  rw [this]
 have hle:=T.nle (show i≤i+1 by omega) (by omega);have hok:=T.all i (by omega);refine ⟨up0.up (fun id x hid=>?_) fun id hid=>?_,fun p hp=>?_⟩
 ·have hid':look id (S i).h=some x:=hid;have:=hok _ _ hid';rw [all id (by omega)];simp only [HS,hid']
 ·rw [all id (by omega)];simp only [HS,St.hp];cases hh:look id (S i).h with
  | some x=>rfl
  | none =>
   cases hl:look id (Q2A E i (ops.size - i)) with
   | none=>rfl
   | some x =>
    obtain ⟨p,hp,hpe⟩:=List.mem_map.1 (Q2c hl);have:=(Q4k T (ops.size - i) i (by omega) p hp).1;omega
 have hfe:e.fine (S i).n:=by rw [hee];exact (T.step hi).1
 have hlt:=(hfe.new p hp).2;have hn:=T.n his;rw [all p.1 (by rw [hn,← hee];exact hlt)];exact nw p hp
theorem hU_last (L:Nat→Bool):∀ n,(∃ k,k<n∧L k=true∧isW false ops k=true)→∃ m,m<n∧hU false ops S E L n=HS S E ops.size (m+1)∧(∀ k,m<k→k<n→L k=true→isW false ops k=false)∧L m=true∧isW false ops m=true:=by
 intro n
 induction n with
 | zero=>rintro ⟨k,hk,_⟩;omega
 | succ n ih =>
  rintro ⟨k,hk,h1,h2⟩
  by_cases hn:L n=true∧isW false ops n=true
  ·refine ⟨n,by omega,?_,(fun q h3 h4=>by omega),hn.1,hn.2⟩;simp only [hU];rw [if_pos (by simpa [isW] using hn)]
  have hkn:k<n:=by
   rcases zA k n with h|h
   ·exact h
   have:k=n:=(by omega);subst this;exact absurd ⟨h1,h2⟩ hn
  obtain ⟨m,m1,m2,m3,m4,m5⟩:=ih ⟨k,hkn,h1,h2⟩;refine ⟨m,by omega,?_,fun q h3 h4 h5=>?_,m4,m5⟩
  ·simp only [hU];rw [if_neg (by simpa [isW] using hn)];exact m2
  by_cases hq:q=n
  ·subst hq;cases hw:isW false ops q with
   | false=>rfl
   | true=>exact absurd ⟨h5,hw⟩ hn
  exact m3 q h3 (by omega) h5
theorem mid_stepS (T:Tr P false ops S E) (hN:∀ o∈ops.toList,∀ d,o.dst=some d→d<N) {L:Nat→Bool} {i:Nat} {oi:Oper} (hi:ops[i]? = some oi) (hL:L i=false)
  (hA:∀ k o,k<i→ops[k]? = some o→Q45 false ops o oi=true→L k=true∨(Mov P ops S E k i∧Q3X ops o oi=false)) (hB:∀ k o,i<k→ops[k]? = some o→L k=true→Q3X ops oi o=false∧(Q4R oi o=true→Mov P ops S E i k))
  {a:Act} {w:World} (M:Mid false C R N ops S E w0 L a w) {K:Act→World→Prop} (hK:∀ R' a' w',RX R R' C.w0.heap.size→Mid false C R' N ops S E w0 (upL L i) a' w'→K a' w'):wpOp P ops i K a w:=by
 classical
 have hin:i<ops.size:=(Array.getElem?_eq_some_iff.1 hi).1;obtain ⟨o,ρ,W,H,hx,hρ,hpin⟩:=M.ex;obtain ⟨hf,hS,hnw,hnt⟩:=T.step hi;have hd:(ops[i]?).bind (·.dst)=oi.dst:=by rw [hi];rfl
 have hslot:∀ t,t∈Q4n ops oi→envU ops S E L ops.size t=(S i).get t:=by
  intro t ht;rw [Q7o L t i ops.size (by omega) fun k hk1 hk2 hk3=>?_]
  ·refine Q8j T L t i (by omega) fun k hk1 hk2=>?_;have hk:k<ops.size:=(by omega);rw [qY hk] at hk2;have hk2:(ops[k]).dst=some t:=hk2;have hcs:Q3X ops ops[k] oi=true:=by
    simp only [Q3X,hk2,Bool.or_eq_true];left;left;simpa using ht
   rcases hA k _ hk1 (qY hk) (by rw [Q9c,hcs];rfl) with h|h
   ·exact h
   rw [hcs] at h;cases h.2
  intro hdk
  by_cases hki:k=i
  ·subst hki;rw [hL] at hk3;cases hk3
  have hk:k<ops.size:=hk2;have h1:=hB k _ (by omega) (qY hk) hk3;rw [qY hk] at hdk;exact (Q6j h1.1).2 t hdk ht
 have hown:∀ t,envU ops S E (upL L i) ops.size t=if oi.dst=some t then (eff E i).v else envU ops S E L ops.size t:=by
  intro t;rw [Q9i hL t ops.size fun k h1 h2 h3=>?_,hd]
  ·by_cases hdt:oi.dst=some t
   ·rw [if_pos ⟨hin,hdt⟩,if_pos hdt]
   rw [if_neg (fun h=>hdt h.2),if_neg hdt]
  cases hdi:oi.dst with
  | none=>right;rw [hd,hdi]
  | some d =>
   left;rw [hd,hdi,qY h2];have h4:=hB k _ h1 (qY h2) h3;exact ((Q6j h4.1).1 d hdi).2
 have hdN:∀ x,oi.dst=some x→x<a.tmps.size:=fun x hx=>by
  rw [M.size];exact hN oi (by rw [← Array.getElem?_toList] at hi;exact List.mem_of_getElem? hi) x hx
 have fin:∀ v w' R' o' ρ',RX R R' C.w0.heap.size→WF C w' ⟨R',o',ρ'⟩→HRel w' ⟨R',o',ρ'⟩ (hU false ops S E (upL L i) ops.size)→(∀ id k,ρ id=some k→ρ' id=some k)→(∀ id k,ρ' id=some k→ρ id=some k∨((S i).n≤id∧id<(S i).n+(eff E i).cnt)) →
   XRel w' R' ρ' v (eff E i).v→(∀ b,R b→w'.heap[b]? = w.heap[b]?)→K (a.put oi.dst v) w':=by
  intro v w' R' o' ρ' hX W' H' h1 h2 hv h3;refine hK R' _ _ hX ⟨by rw [Q5h];exact M.size,by rw [← M.defers];cases oi.dst<;>rfl,⟨o',ρ',W',H',fun t=>?_,fun id k hk=>?_,fun id hid=>?_,hpin.2⟩⟩
  ·rw [put_get a oi.dst v t hdN,hown];split
   ·exact hv
   exact (hx t).mono (fun b hb=>⟨hX.1 b hb,h3 b hb⟩) h1
  ·rcases h2 id k hk with h4|h4
   ·rcases hρ id k h4 with h5|⟨j,hj,hLj,h5⟩
    ·exact .inl h5
    exact .inr ⟨j,hj,by simp only [upL];split<;>simp_all,h5⟩
   exact .inr ⟨i,hin,by simp [upL],h4.1,by rw [T.n hin];exact h4.2⟩
  rw [← hpin.1 id hid];cases hr:ρ id with
  | some k=>exact h1 id k hr
  | none =>
   cases hr':ρ' id with
   | none=>rfl
   | some k =>
    exfalso;rcases h2 id k hr' with h4|h4
    ·rw [hr] at h4;cases h4
    have:=T.nle (show 0≤i by omega) (by omega);have:=hpin.2;omega
 have hW:isW false ops i=true→(∀ k,k<i→isW false ops k=true→L k=true)∧∀ k,i<k→k<ops.size→L k=true→isW false ops k=false:=by
  intro hw;have hwi:wrM false oi.op=true:=by simpa [isW,hi] using hw
  have htw:∀ x:Op,wrM false x=true→Q1b x=true:=by
   intro x hx;cases x with
   | call cl =>
    obtain ⟨ce,args,ts⟩:=cl;cases ce with
    | builtin b=>cases b<;>simp_all [wrM,Q3c,roC,Q3A,Q1h,Q1b]
    | value=>rfl
    | invoke=>simp [wrM,Q3c,roC,Q3A,Q1h] at hx
   | _=>first|rfl|(simp [wrM,Q3c,roC,Q3A,Q1h] at hx;done)
  refine ⟨fun k hk hwk=>?_,fun k hk hk2 hLk=>?_⟩
  ·have hks:k<ops.size:=(by omega);have hg:=qY hks;have hwk':wrM false (ops[k]).op=true:=(by simpa [isW,hg] using hwk);rcases hA k _ hk hg (by simp only [Q45,Bool.or_eq_true,Bool.and_eq_true];left;right;exact ⟨⟨hwk',(tch0 _).trans (htw _ hwi)⟩,rfl⟩) with h|h
   ·exact h
   have:=(h.1 _ hg).1;rw [hwk'] at this;cases this
  have hg:=qY hk2;have h1:=hB k _ hk hg hLk;cases hwk:isW false ops k with
  | false=>rfl
  | true =>
   have hwk':wrM false (ops[k]).op=true:=(by simpa [isW,hg] using hwk);have h2:=h1.2 (by simp only [Q4R,hwi,htw _ hwk',Bool.and_self,Bool.true_or]);have:=(h2 _ hi).1;rw [hwi] at this;cases this
 have hhU:=hU_upL T hin hL hW;have hguard:∀ b,Q2i ops oi (S i)=some b→Region.wanted oi (yielded ops a.tmps)=b:=by
  intro b hb;unfold Q2i at hb;unfold Region.wanted;split at hb
  ·rename_i hg;rw [hg];simpa using hb
  rename_i j want hg;rw [hg];split at hb
  ·rename_i t ht;split at hb
   ·rename_i bb hbb;have h1:=hx t;rw [hslot t (Q3b hg ht),hbb] at h1;have h2:=h1.val_eq.1;have h3:a.tmps[t]? = some (.bool bb):=by
     cases hh:a.tmps[t]? with
     | none=>simp [hh,undef] at h2
     | some x=>simp [hh] at h2;rw [h2]
    simp only [yielded,ht,Option.bind_some,h3];simp only [qA] at hb;rw [← hb];cases bb<;>cases want<;>rfl
   ·rename_i htt;have h1:=hx t;rw [hslot t (Q3b hg ht),htt] at h1;obtain ⟨cs,h2,h3,_⟩:=h1.tup_eq;have h4:cs = #[]:=(by simpa using h3);subst h4;simp only [qA] at hb;rw [← hb];have h5:a.tmps[t]? = none∨a.tmps[t]? = some (.tuple #[]):=by
     cases hh:a.tmps[t]? with
     | none=>exact .inl rfl
     | some x=>simp [hh] at h2;rw [h2];exact .inr rfl
    rcases h5 with h5|h5<;>simp [yielded,ht,h5]
   cases hb
  cases hb
 have hrun:=T.run i oi hi;unfold wpOp;rw [hi];simp only;cases hE:E i with
 | none =>
  rw [hE] at hrun;rw [hguard false hrun.1];simp only [Bool.false_eq_true,if_false];have heff:eff E i = { v:=.tup [] }:=by simp [eff,hE]
  refine fin undef w R o ρ .refl W ?_ (fun _ _ h=>h) (fun _ _ h=>.inl h) (by rw [heff];exact .tup rfl fun k hk=>by simp at hk) (fun _ _=>rfl);rw [hhU,heff];cases isW false ops i<;>simpa [QS] using H
 | some e =>
  rw [hE] at hrun;obtain ⟨hwant,hop,_⟩:=hrun;have heff:eff E i=e:=by simp [eff,hE]
  rw [hguard true hwant];simp only [if_true]
  let ev:Operand→AV:=fun x=>if x∈oi.op.operands then (S i).ev x else .bot
  have hev:∀ x,XRel w R ρ (a.eval x) (ev x):=by
   intro x;simp only [ev];split
   ·rename_i hmem;cases x with
    | tmp t =>
     have:=hx t;rw [hslot t (Q81 hmem)] at this;exact this
    | const v =>
     simp only [St.ev,cst,Act.eval];split
     ·rename_i hsc;exact .r (.val (Q7V hsc))
     exact .bot
    | global=>exact .bot
    | func f=>exact .fn (by simp) (fun k hk=>by simp at hk)
   exact .bot
  have hop1:AOp P false oi.op ev (S i).hp (S i).n e:=hop.congr fun x hx=>by simp only [ev];rw [if_pos hx]
  have hop2:AOp P false oi.op ev (hU false ops S E L ops.size) (S i).n e∧(∀ p∈e.new,hU false ops S E L ops.size p.1=some p.2):=by
   cases ht:Q1b oi.op with
   | false =>
    have hc:=hop1.calm ht;exact ⟨hc.2 _,by rw [hc.1.2.2.1];simp⟩
   | true =>
    have hok:=T.all i (by omega);have up:AOp P false oi.op ev (HS S E ops.size i) (S i).n e:=by
     refine hop1.up (fun id x hid=>?_) fun id hid=>?_
     ·have hid':look id (S i).h=some x:=hid;simp only [HS,hid']
     simp only [HS,St.hp];cases hh:look id (S i).h with
     | some x=>rfl
     | none =>
      cases hl:look id (Q2A E i (ops.size - i)) with
      | none=>rfl
      | some x =>
       obtain ⟨p,hp,hpe⟩:=List.mem_map.1 (Q2c hl);have:=(Q4k T (ops.size - i) i (by omega) p hp).1;omega
    have nw:∀ p∈e.new,HS S E ops.size i p.1=some p.2:=by
     intro p hp;have hfe:e.fine (S i).n:=(by rw [← heff];exact hf);have hlt:=(hfe.new p hp).1;have hnone:look p.1 (S i).h=none:=by
      cases hh:look p.1 (S i).h with
      | none=>rfl
      | some x=>have:=hok _ _ hh;omega
     simp only [HS,hnone];have hlat:Q2A E i (ops.size - i)=(eff E i).new++Q2A E (i+1) (ops.size - (i+1)):=by
      rw [show ops.size - i=(ops.size - (i+1))+1 by omega];rfl
     rw [hlat,Q1Y,heff,QO hfe.nodup hp]
    by_cases hlate:∃ k,i<k∧k<ops.size∧L k=true∧isW false ops k=true
    ·obtain ⟨k1,hk1,hk2,hk3,hk4⟩:=hlate;have hg1:=qY hk2;have hwk1:wrM false (ops[k1]).op=true:=(by simpa [isW,hg1] using hk4);obtain ⟨m,hm1,hm2,hm3,hm4,hm5⟩:=hU_last (S:=S) (E:=E) L ops.size ⟨k1,hk2,hk3,hk4⟩;have him:i≤m:=by
      rcases zA m i with h|h
      ·have:=hm3 k1 (by omega) hk2 hk3;rw [this] at hk4;cases hk4
      exact h
     rw [hm2];have hne:i ≠ m:=fun q=>by rw [q,hm4] at hL;cases hL
     have hgm:=qY hm1;have hwm:wrM false (ops[m]).op=true:=(by simpa [isW,hgm] using hm5);have hr:=(hB m _ (by omega) hgm hm4).2 (by simp only [Q4R,ht,hwm,Bool.and_self,Bool.or_true]);exact (hr _ hi).2 ev e (by omega) (by omega) hop1 heff.symm up nw fun t ht=>by simp only [ev];rw [if_pos ht];rfl
    have e1:hU false ops S E L ops.size=HS S E ops.size i:=by
     rw [Q5A L i ops.size (by omega) fun k hk1 hk2 hk3=>?_]
     ·refine hU_at T L i (by omega) fun k hk hwk=>?_;have hks:k<ops.size:=(by omega);have hg:=qY hks;have hwk':wrM false (ops[k]).op=true:=(by simpa [isW,hg] using hwk);rcases hA k _ hk hg (by simp only [Q45,Bool.or_eq_true,Bool.and_eq_true];left;right;exact ⟨⟨hwk',(tch0 _).trans ht⟩,rfl⟩) with h|h
      ·exact h
      have:=(h.1 _ hg).1;rw [hwk'] at this;cases this
     by_cases hki:k=i
     ·subst hki;rw [hL] at hk3;cases hk3
     cases hwk:isW false ops k with
     | false=>rfl
     | true=>exact absurd ⟨k,by omega,hk2,hk3,hwk⟩ hlate
    rw [e1];exact ⟨up,nw⟩
  have hfr:∀ id,(S i).n≤id→id<(S i).n+e.cnt→ρ id=none:=by
   intro id h1 h2;cases hh:ρ id with
   | none=>rfl
   | some k =>
    have hni:=T.n hin;rw [heff] at hni;rcases hρ id k hh with h3|⟨j,hj,hLj,h3,h4⟩
    ·have:=T.nle (show 0≤i by omega) (by omega);omega
    rcases Nat.lt_trichotomy j i with hji|hji|hji
    ·have:=T.nle (show j+1≤i by omega) (by omega);omega
    ·subst hji;rw [hL] at hLj;cases hLj
    have:=T.nle (show i+1≤j by omega) (by omega);omega
  have hlim:wrM false oi.op=true→∀ id k,ρ id=some k→id<(S i).n:=by
   intro hw id k hk;rcases hρ id k hk with h3|⟨j,hj,hLj,h3,h4⟩
   ·exact qQ h3 (T.nle (by omega) (by omega))
   rcases Nat.lt_trichotomy j i with hji|hji|hji
   ·have:=T.nle (show j+1≤i by omega) (by omega);omega
   ·subst hji;rw [hL] at hLj;cases hLj
   have hg:=qY hj;have h5:Q1b (ops[j]).op=false:=by
    cases h:Q1b (ops[j]).op with
    | false=>rfl
    | true =>
     have h2:=(hB j _ hji hg hLj).2 (by simp only [Q4R,hw,h,Bool.and_self,Bool.true_or]);have:=(h2 _ hi).1;rw [hw] at this;cases this
   have h6:=(T.step hg).2.2.2 ((tch0 _).trans h5);have:=T.n hj;rw [h6.2.2.2] at this;omega
  have hstep:=hop2.1.step (fun h=>hlim (lim_wr h)) hev W H hop2.2 hfr;refine hstep K (fun _ _ _=>True) fun v w' R' o' ρ' hX W' H' h1 h2 hv h3=>?_;have hv':XRel w' R' ρ' v (eff E i).v:=by rw [heff];exact hv
  refine fin v w' R' o' ρ' hX W' ?_ h1 (by rw [heff];exact h2) hv' h3;rw [hhU,heff];cases hw:isW false ops i with
  | true=>exact H'
  | false =>
   have hwf:wrM false oi.op=false:=(by simpa [isW,hi] using hw);have:=hnw hwf;rw [heff] at this;rw [QS this.1 this.2] at H';rw [cond_false,QS rfl rfl];exact H'
theorem Q8z {rd0:List Nat} (hrd:∀ t∈rd0,RoV ((S 0).get t)) (T:Tr P false ops S E) (hN:okN N ops=true) {rs:List Nat} (hD:SD ds (S 0)) {J:Nat} (hK:rs ≠ []→Kp rs J ops (S 0) (S ops.size)) (hreg:Q9z rd0 ds rs J ops=true) (hback:Q1G ops=true) (hm:P.follows .mixedOrders=true) {id:Nat} {Q:Exit→Act→World→Prop} {a:Act} {w:World} (h:Rel C R N a w (S 0))
  (hQ:∀ R' a' w',RX R R' C.w0.heap.size→Rel C R' N a' w' (S ops.size)→Q .normal a' w'):(Code.region id ops true).wpT P Q a w:=by
 have hS0:∀ t id,t ∉ ds→Pts ((S 0).get t) id→¬ Q3r S ds id:=by
  intro t id hn ht hs;generalize hg:(S 0).get t=v0 at ht;rcases hs with hs|⟨s,hs,hc⟩
  case inr=>cases ht with
   | adr=>exact hD.sep t id _ _ hn hg s hs hc
   | own=>exact hD.sepO t id _ _ hn hg s hs hc
  refine absurd hs (Nat.not_le.2 ?_);obtain ⟨_,_,_,o,ρ,_,_,hx,hρ,_⟩:=h;have:=hx t;rw [hg] at this;cases ht with
  | adr =>
   obtain ⟨b,bsz,cap,hb,_⟩:=this.adr_eq;exact hρ id _ hb
  | own =>
   rcases this.own_eq with ⟨s0,c0,hb,_⟩|⟨b,bsz,cap,cc,x0,hb,_⟩
   ·exact hρ id _ hb
   exact hρ id _ hb
 have mv:∀ i j,(roAt rd0 ops i=true∨(Q4j rs ops i=true∧j≤J)∨(Q2S ds ops=true∧(Q4X ds ops i=true∨Q7C ops i=true)))→Mov P ops S E i j:=fun i j hi=>hi.elim (fun h=>mov_ro T hrd h) fun hi=>hi.elim (fun h=>mov_kept T (hK (by rintro rfl;rw [kept_nil] at h;cases h.1)) h.2 h.1) fun h=>h.2.elim (fun q=>mov_soft T hD h.1 hS0 q) fun q=>mov_late T hD h.1 q;refine wp_region_any hm fun wr hrl=>?_;have key:∀ (fuel:Nat) (listed:Array Bool) (R':Nat→Prop) (a:Act) (w':World),RX R R' C.w0.heap.size→listed.size=ops.size→left (fun k=>listed.getD k false) ops.size≤fuel →
   (∀ j,listed.getD j false=true→∀ i,((Q2C ops.toList []).getD j 0).testBit i=true→listed.getD i false=true)→Mid false C R' N ops S E wr.drew (fun k=>listed.getD k false) a w'→wpAny P .any ops Q fuel listed a w':=by
  intro fuel
  induction fuel with
  | zero =>
   intro listed R' a w' hX hsz hleft hanc M;have hall:=Q5D _ (show left (fun k=>listed.getD k false) ops.size=0 by omega);refine ⟨?_,hQ _ _ _ hX (Q5H T M hall)⟩;cases hr:Region.ready .any ops listed with
   | nil=>rfl
   | cons x xs =>
    have hx:x∈Region.ready .any ops listed:=(by rw [hr];simp);obtain ⟨hf,o,ho,_⟩:=mem_ready.1 hx;have hxs:=(Array.getElem?_eq_some_iff.1 ho).1;have h1:listed.getD x false=true:=hall x hxs;have:listed.getD x true=listed.getD x false:=(by simp [show x<listed.size by omega]);rw [this,h1] at hf;cases hf
  | succ fuel ih =>
   intro listed R' a w' hX hsz hleft hanc M;refine ⟨fun hr=>?_,fun i hi w₁ hrl1=>?_⟩
   ·
    have hall:∀ k,k<ops.size→listed.getD k false=true:=by
     intro k
     induction k using Nat.strongRecOn with
     | _ k ihk =>
      intro hk;cases hl:listed.getD k false with
      | true=>rfl
      | false =>
       have:k∈Region.ready .any ops listed:=by
        refine mem_ready.2 ⟨?_,ops[k],qY hk,fun e he hb=>?_⟩
        ·have:listed.getD k true=listed.getD k false:=(by simp [show k<listed.size by omega]);rw [this,hl]
        have h1:=hback;unfold Q1G at h1;simp only [qS] at h1;have h2:=h1 (ops[k],k) (List.mk_mem_zipIdx_iff_getElem?.2 (by simp [hk])) e (by simpa using he);rw [hb] at h2;have hlt:e.on<k:=(by simpa using h2);exact ihk e.on hlt (by omega)
       rw [hr] at this;cases this
    exact hQ _ _ _ hX (Q5H T M hall)
   obtain ⟨hf,oi,hoi,hafter⟩:=mem_ready.1 hi;have hin:=(Array.getElem?_eq_some_iff.1 hoi).1;have hLi:listed.getD i false=false:=by
    have:listed.getD i true=listed.getD i false:=(by simp [show i<listed.size by omega]);rw [← this];exact hf
   have hanci:∀ k,((Q2C ops.toList []).getD i 0).testBit k=true→listed.getD k false=true:=by
    intro k hk;obtain ⟨o',ho',e,he,hb,hx⟩:=Q5G ops.toList [] i k (by simp) hk;have hoo:o'=oi:=by
     simp only [List.length_nil,Nat.sub_zero] at ho';rw [Array.getElem?_toList,hoi] at ho';simpa using ho'.symm
    subst hoo;have h1:=hafter e (by simpa using he) hb;rcases hx with hx|⟨_,hx⟩
    ·rw [← hx];exact h1
    exact hanc _ h1 _ hx
   refine mid_stepS T (Q74 hN) hoi hLi (fun k o hk ho hc=>?_) (fun k o hk ho hLk=>?_) (M.rly hrl1) fun R'' a' w'' hX' M'=>?_
   ·rcases Q5K hreg hk ho hoi with h|⟨h1,h2⟩
    ·exact .inl (hanci k h)
    rw [Q9c,h1,Bool.false_or] at hc;exact .inr ⟨mv k i (h2 hc),h1⟩
   ·rcases Q5K hreg hk hoi ho with h|⟨h1,h2⟩
    ·have:=hanc k hLk i h;rw [hLi] at this;cases this
    exact ⟨h1,fun hc=>mv i k (h2 hc)⟩
   have hset:∀ k,(listed.setIfInBounds i true).getD k false=upL (fun k=>listed.getD k false) i k:=by
    intro k;simp only [upL]
    by_cases hk:k=i
    ·subst hk;simp [show k<listed.size by omega]
    rw [if_neg hk,getD_set_ne false (Ne.symm hk)]
   refine ih _ R'' a' w'' (hX.trans hX' (qE _)) (by simpa using hsz) ?_ ?_ (M'.congrL fun k=>(hset k).symm)
   ·have h1:=Q8t (L:=fun k=>listed.getD k false) hLi ops.size;rw [if_pos hin] at h1;have h2:left (fun k=>(listed.setIfInBounds i true).getD k false) ops.size=left (upL (fun k=>listed.getD k false) i) ops.size:=by
     congr 1;funext k;exact hset k
    omega
   intro j hj k hk;rw [hset] at hj ⊢;simp only [upL] at hj ⊢
   by_cases hki:k=i
   ·rw [if_pos hki]
   rw [if_neg hki]
   by_cases hji:j=i
   ·subst hji;exact hanci k hk
   rw [if_neg hji] at hj;exact hanc j hj k hk
 refine key ops.size _ R a _ .refl (by simp) ?_ ?_ ?_
 ·have:∀ m,left (fun k=>(zC ops.size false).getD k false) m≤m:=by
   intro m
   induction m with
   | zero=>simp [left]
   | succ m ih=>simp only [left];split<;>omega
  exact this _
 ·intro j hj;exfalso
  by_cases hjs:j<ops.size
  ·simp [hjs] at hj
  simp [hjs] at hj
 refine Q5I T (h.rly hrl).drew fun k=>?_
 by_cases hk:k<ops.size
 ·simp [hk]
 simp [hk]
end
end
section
attribute [local simp] Qd QD Qq
def callX (P:Program) (mt:MT) (all:Array Oper) (f:Nat) (az:List AV) (dst:Option Nat) (os:List Oper) (st:St) (K:St→Prop):Prop :=
 Q8f P mt all f az dst os st K∨∃ keep bs res,PurK keep st.hp az bs∧FContract P keep f bs res∧Q2Y P mt all os (st.app dst { v:=res }) K
def callB (P:Program) (mt:MT) (all:Array Oper) (f:Nat) (az:List AV) (dst:Option Nat) (os:List Oper) (st:St) (K:St→Prop):Prop :=
 (∃ bs res,PurL st.hp az bs∧Contract P f bs res∧Q2Y P mt all os (st.app dst (unk st.n res)) K)∨∃ keep bs res,PurK keep st.hp az bs∧FContract P keep f bs res∧Q2Y P mt all os (st.app dst { v:=res }) K
def Q7h (P:Program) (mt:MT) (all:Array Oper) (az:List AV) (dst:Option Nat) (os:List Oper) (st:St) (K:St→Prop):AV→Prop
 | .fn f caps=>callX P mt all f (az++caps) dst os st K
 | .bnd f rs=>callB P mt all f (rs++az) dst os st K
 | _=>False
def callI (P:Program) (mt:MT) (all:Array Oper) (F:Option Nat) (az:List AV) (dst:Option Nat) (os:List Oper) (st:St) (K:St→Prop):Prop:=False
def Q7i (P:Program) (mt:MT) (all:Array Oper) (name:String) (az:List AV) (dst:Option Nat) (os:List Oper) (st:St) (K:St→Prop):AV→Prop
 | .ifc t cs=>callI P mt all (mth P t name) (.agg cs :: az) dst os st K
 | .ifs t sz es=>callI P mt all (mth P t name) (.lst true sz es :: az) dst os st K
 | _=>False
def mkI (t:TypeId):Bool→Bool→AV→Option (Prop × Eff)
 | true,_,.agg cs=>some (True,{ v:=.ifc t cs })
 | _,true,.lst _ sz es=>some (True,{ v:=.ifs t sz es })
 | _,_,_=>none
def asB (t sz:Nat) (es:List (List AV)):Bool→Option (Prop × Eff)
 | true=>some (True,{ v:=.tup [.ifs t sz es,.val (.bool true)] })
 | false=>none
def asA (P:Program) (s:TypeId):Bool→AV→Option (Prop × Eff)
 | true,.ifs t sz es=>asB t sz es (tas P s t)
 | _,_=>none
def inZ (fz:List Nat):Option Nat→Bool
 | some d=>fz.contains d
 | none=>false
def Q9u (P:Program) (et:Option TypeId) (l c:AV) (n:Nat):Option (Prop × Eff) :=
 match et with
 | some e=>Q4W (some (((elm P e).bind (tyi P)).getD ⟨false,1,8,[]⟩)) (tyi P e) l c n
 | none=>none
noncomputable def opX (P:Program) (fz:List Nat) (dst:Option Nat) (op:Op) (ev:Operand→AV) (h:HP) (n:Nat):Option (Prop × Eff) :=
 match op with
 | .box t x=>bif inZ fz dst then boxr (ev x) else boxv (ev x) n
 | .call ⟨.builtin .append,⟨[s,x]⟩,⟨[t,u]⟩⟩=>match elm P t with
  | some e=>if t=u then (bif inZ fz dst then appM (tyi P e) (ev s) (ev x) h n else Q2j (tyi P e) (ev s) (ev x) h n) else none
  | none=>none
 | .call ⟨.builtin .len,⟨[x]⟩,⟨[t]⟩⟩=>bif inZ fz dst then lenm (mty P t) (Q3v h (ev x)) else match elm P t with
  | some _=>lenv (ev x)
  | none=>none
 | .makeSlice t l c=>bif inZ fz dst then Q9u P (elm P t) (ev l) (ev c) n else match elm P t with
  | some e=>Q4V (tyi P e) (ev l) (ev c) n
  | none=>none
 | .makeFunc (.func f) ⟨[]⟩ caps=>some (True,{ v:=.fn f (caps.toList.map ev) })
 | .makeInterface t x=>mkI t (sty P t) (slt P t) (ev x)
 | .typeAssert x _ s ok=>asA P s ok (ev x)
 | .makeFunc (.func f) ⟨r :: rs⟩ ⟨[]⟩=>some (True,{ v:=.bnd f ((r :: rs).map ev) })
 | .convert s d x=>bif inZ fz dst then convS (byS P s d) h (ev x) else Q6L (intk P s) (intk P d) (ev x)
 | .slice t x none (some y) (some z)=>match elm P t with
  | some e=>Q3n (tyi P e) h (ev x) (ev y) (ev z)
  | none=>none
 | .makeMap t none=>makv (mty P t) n
 | .lookup t x k ok=>Q5E (mty P t) (Q3v h (ev x)) (ev k) ok
 | .mapUpdate t x k y=>updv (mty P t) h (ev x) (ev k) (ev y)
 | op=>opF P op ev h n
theorem Q9D {P:Program} {mt:MT} {fz:List Nat} {dst:Option Nat} {op:Op} {ev:Operand→AV} {h:HP} {n:Nat} {c:Prop} {e:Eff} (hx:opX P fz dst op ev h n=some (c,e)) (hc:c):AOp P mt op ev h n e:=by
 unfold opX at hx;split at hx
 ·rename_i t x;cases hz:inZ fz dst with
  | true=>rw [hz] at hx;exact .boxr rfl hx
  | false=>rw [hz] at hx;exact .blt hx hc
 ·rename_i s x t u;split at hx
  ·rename_i e0 hel;split at hx
   ·rename_i htu;subst htu;cases hz:inZ fz dst with
    | true=>rw [hz] at hx;exact .appM rfl hel hx hc
    | false =>
     rw [hz] at hx;refine .blt (c:=c) ?_ hc;simp only [opF,bltF,hel,if_true];exact hx
   cases hx
  cases hx
 ·rename_i x t;cases hz:inZ fz dst with
  | true=>rw [hz] at hx;exact .mapo hx hc
  | false=>rw [hz] at hx;exact .blt hx hc
 ·rename_i t l cc;cases hz:inZ fz dst with
  | true =>
   rw [hz] at hx;simp only [cond_true] at hx;unfold Q9u at hx;split at hx
   ·rename_i et hel;exact .mkz rfl hel hx hc
   cases hx
  | false=>rw [hz] at hx;exact .blt hx hc
 ·simp only [qA,qC] at hx;obtain ⟨_,rfl⟩:=hx;exact .mkf rfl
 ·rename_i t x;unfold mkI at hx;split at hx
  ·rename_i hs hx2;simp only [qA,qC] at hx;obtain ⟨_,rfl⟩:=hx;exact .mki rfl hs hx2
  ·rename_i hs hx2;simp only [qA,qC] at hx;obtain ⟨_,rfl⟩:=hx;exact .mkis rfl hs hx2
  cases hx
 ·rename_i x xt s ok;unfold asA at hx;split at hx
  ·rename_i t sz es hx2;unfold asB at hx;split at hx
   ·rename_i hs;simp only [qA,qC] at hx;obtain ⟨_,rfl⟩:=hx;exact .tas rfl hs hx2
   cases hx
  cases hx
 ·simp only [qA,qC] at hx;obtain ⟨_,rfl⟩:=hx;exact .mkb rfl
 ·rename_i s d x;cases hz:inZ fz dst with
  | true =>
   rw [hz] at hx;obtain ⟨e2,id,ns,h1,h2,h3,rfl⟩:=convS_eq hx hc;exact .cvs rfl h1 h2 h3
  | false=>rw [hz] at hx;exact .blt hx hc
 ·split at hx
  ·rename_i et hel;exact .sl3 rfl hel hx hc
  cases hx
 ·exact .mapo hx hc
 ·exact .mapo hx hc
 ·exact .mapo hx hc
 exact .blt hx hc
def semA (P:Program) (mt:MT) (all:Array Oper) (op:Op) (dst:Option Nat) (os:List Oper) (st:St) (K:St→Prop):Prop :=
 (mt.on && wrM mt op)=true∧∃ e,SemOp P op st.ev st.hp st.n e∧Q2Y P mt all os (st.app dst e) K
def stoZ (P:Program) (mt:MT) (all:Array Oper) (op:Op) (t:TypeId) (av xv:AV) (dst:Option Nat) (os:List Oper) (st:St) (K:St→Prop):Prop:=stoA P mt all t av xv dst os st K∨semA P mt all op dst os st K
def Q4M (P:Program) (mt:MT) (fz:List Nat) (all:Array Oper) (os:List Oper) (K R:St→Prop) (dst:Option Nat) (st:St) (op:Op):Prop :=
 match op with
 | .call ⟨.value x,args,_⟩=>Q7h P mt all (args.toList.map st.ev) dst os st K (st.ev x)
 | .call ⟨.invoke x name,args,_⟩=>Q7i P mt all name (args.toList.map st.ev) dst os st K (st.ev x)
 | .store t a x=>Q4L R (stoZ P mt all (.store t a x) t (st.ev a) (st.ev x) dst os st K) dst st (Q33 (tyi P t) (st.ev a) (st.ev x) st.hp)
 | .call ⟨.builtin .append,args,ts⟩=>Q4L R (semA P mt all (.call ⟨.builtin .append,args,ts⟩) dst os st K) dst st (opX P fz dst (.call ⟨.builtin .append,args,ts⟩) st.ev st.hp st.n)
 | .lookup t x k ok=>Q4L R (semA P mt all (.lookup t x k ok) dst os st K) dst st (Q5E (mty P t) (Q3v st.hp (st.ev x)) (st.ev k) ok)
 | .mapUpdate t x k y=>Q4L R (semA P mt all (.mapUpdate t x k y) dst os st K) dst st (updv (mty P t) st.hp (st.ev x) (st.ev k) (st.ev y))
 | .call ⟨.builtin .clear,args,ts⟩=>semA P mt all (.call ⟨.builtin .clear,args,ts⟩) dst os st K
 | op=>Q68 R dst st (opX P fz dst op st.ev st.hp st.n)
def Q8p (P:Program) (mt:MT) (fz:List Nat) (all:Array Oper) (os:List Oper) (K R:St→Prop) (dst:Option Nat) (st:St) (op:Op) (t:Nat) (want:Bool):AV→Prop
 | .val (.bool b)=>(b=want→Q4M P mt fz all os K R dst (st.put t (.val (.bool want))) op)∧(b = !want→R ((st.put t (.val (.bool !want))).app dst { v:=.tup [] }))
 | .tup []=>R (st.app dst { v:=.tup [] })
 | _=>False
def Q9o (P:Program) (mt:MT) (fz:List Nat) (all:Array Oper) (os:List Oper) (K R:St→Prop) (dst:Option Nat) (st:St) (op:Op) (want:Bool):Option Nat→Prop
 | some t=>Q8p P mt fz all os K R dst st op t want (st.get t)
 | none=>False
def runX (P:Program) (mt:MT) (fz:List Nat) (all:Array Oper):List Oper→St→(St→Prop)→Prop
 | [],st,K=>K st
 | o :: os,st,K=>match o.guard with
  | none=>Q4M P mt fz all os K (fun st'=>runX P mt fz all os st' K) o.dst st o.op
  | some (j,want)=>Q9o P mt fz all os K (fun st'=>runX P mt fz all os st' K) o.dst st o.op want ((all[j]?).bind (·.dst))
theorem goX_one {P:Program} {mt:MT} {fz:List Nat} {all:Array Oper} {o:Oper} {os:List Oper} {st:St} {K R:St→Prop} (hw:Q2i all o st=some true)
  (ih:∀ st',R st'→Q2Y P mt all os st' K) (h:Q4M P mt fz all os K R o.dst st o.op):Q2Y P mt all (o :: os) st K:=by
 refine .inl ⟨hw,?_⟩;unfold Q4M at h;split at h
 ·rename_i x args ts ho;unfold Q7h at h;split at h
  ·rename_i f caps hx;rcases h with (⟨bs,res,h1,h2,h3⟩|⟨h0,args,ms,res,m,Pt,sets,dels,h1,h2,h3,h4,h5,h6⟩|⟨h0,e,h1,h2⟩)|⟨keep,bs,res,h1,h2,h3⟩
   ·exact ⟨_,.call ho rfl hx h1 h2,h3⟩
   ·exact ⟨_,.mcall (Q5n h0 ho hx) ho rfl hx h1 h2 h3 h4 h5,h6⟩
   ·exact ⟨_,.icall (Q5n h0 ho hx) ho rfl hx h1,h2⟩
   exact ⟨_,.fcall ho rfl hx h1 h2,h3⟩
  ·rename_i f rs hx;rcases h with ⟨bs,res,h1,h2,h3⟩|⟨keep,bs,res,h1,h2,h3⟩
   ·exact ⟨_,.callb ho rfl hx h1 h2,h3⟩
   exact ⟨_,.fcallb ho rfl hx h1 h2,h3⟩
  exact h.elim
 ·rename_i x name args ts ho;unfold Q7i at h;split at h
  ·rename_i t cs hx;exact h.elim
  ·rename_i t sz es hx;exact h.elim
  exact h.elim
 ·rename_i t a x ho;unfold Q4L at h;split at h
  ·rename_i c e he;exact ⟨e,.blt (by rw [ho];exact he) h.1,ih _ h.2⟩
  rcases h with (⟨ty,id,i,k,b,sz,es,ds,dels,h1,h2,h3,h4,h5⟩|⟨ty,id,i,az,bs,sz,es,ds,dels,h1,h2,h3,h3',h4,h5⟩)|⟨h0,e,h1,h2⟩
  ·exact ⟨_,.sto ho h1 h2 h3 h4,h5⟩
  ·exact ⟨_,.stg ho h1 h2 h3 h3' h4,h5⟩
  exact ⟨e,.sem (by rw [ho];exact h0) (by rw [ho];exact h1),h2⟩
 ·rename_i args ts ho;unfold Q4L at h;split at h
  ·rename_i c e he;exact ⟨e,Q9D (fz:=fz) (dst:=o.dst) (by rw [ho];exact he) h.1,ih _ h.2⟩
  obtain ⟨h0,e,h1,h2⟩:=h;exact ⟨e,.sem (by rw [ho];exact h0) (by rw [ho];exact h1),h2⟩
 ·rename_i t x k ok ho;unfold Q4L at h;split at h
  ·rename_i c e he;exact ⟨e,Q9D (fz:=fz) (dst:=o.dst) (by rw [ho];exact he) h.1,ih _ h.2⟩
  obtain ⟨h0,e,h1,h2⟩:=h;exact ⟨e,.sem (by rw [ho];exact h0) (by rw [ho];exact h1),h2⟩
 ·rename_i t x k y ho;unfold Q4L at h;split at h
  ·rename_i c e he;exact ⟨e,Q9D (fz:=fz) (dst:=o.dst) (by rw [ho];exact he) h.1,ih _ h.2⟩
  obtain ⟨h0,e,h1,h2⟩:=h;exact ⟨e,.sem (by rw [ho];exact h0) (by rw [ho];exact h1),h2⟩
 ·rename_i args ts ho;obtain ⟨h0,e,h1,h2⟩:=h;exact ⟨e,.sem (by rw [ho];exact h0) (by rw [ho];exact h1),h2⟩
 unfold Q68 at h;split at h
 ·rename_i c e he;exact ⟨e,Q9D he h.1,ih _ h.2⟩
 exact h.elim
theorem Q2n {P:Program} {mt:MT} {fz:List Nat} {all:Array Oper}:∀ (os:List Oper) (st:St) (K:St→Prop),runX P mt fz all os st K→Q2Y P mt all os st K:=by
 intro os
 induction os with
 | nil=>intro st K h;exact h
 | cons o os ih =>
  intro st K h;unfold runX at h;split at h
  ·rename_i hg;exact goX_one (by simp [Q2i,hg]) (fun st'=>ih st' K) h
  rename_i j want hg;unfold Q9o at h;split at h
  ·rename_i t ht;unfold Q8p at h;split at h
   ·rename_i b hb;have hput:∀ b',b=b'→st.put t (.val (.bool b'))=st:=(by rintro _ rfl;exact St.put_get hb (by simp));obtain ⟨h1,h2⟩:=h
    by_cases hbw:b=want
    ·have h1:=h1 hbw;rw [hput _ hbw] at h1;exact goX_one (by simp only [Q2i,hg,ht,hb,hbw,beq_self_eq_true]) (fun st'=>ih st' K) h1
    have hb':b = !want:=(by cases b<;>cases want<;>simp_all);have h2:=h2 hb';rw [hput _ hb'] at h2;refine .inr ⟨?_,ih _ _ h2⟩;have:(b == want)=false:=(by simpa using hbw);simp only [Q2i,hg,ht,hb,this]
   ·rename_i htt;refine .inr ⟨?_,ih _ _ h⟩;simp only [Q2i,hg,ht,htt]
   exact h.elim
  exact h.elim
section
variable {P:Program} {mt:MT} {fz:List Nat} {all:Array Oper} {f:Nat} {az bs:List AV} {res:AV} {dst:Option Nat} {os:List Oper} {st:St} {K:St→Prop}
theorem QH (hc:Contract P f bs res) (hp:PurL st.hp az bs) (h:runX P mt fz all os (st.app dst (unk st.n res)) K):callX P mt all f az dst os st K:=.inl (.inl ⟨bs,res,hp,hc,Q2n _ _ _ h⟩)
theorem Q7j (keep:Bool) (hc:FContract P keep f bs res) (hp:PurK keep st.hp az bs) (h:runX P mt fz all os (st.app dst { v:=res }) K):callX P mt all f az dst os st K:=.inr ⟨keep,bs,res,hp,hc,Q2n _ _ _ h⟩
theorem Q38 {e:Eff} (hc:ICon P f az st.hp st.n e) (h:runX P mt fz all os (st.app dst e) K) (hm:mt.may f=true:=by rfl):callX P mt all f az dst os st K:=.inl (.inr (.inr ⟨hm,e,hc,Q2n _ _ _ h⟩))
theorem QaE {op:Op} {t:TypeId} {ty:Tyi} {xv b:AV} {id i k sz:Nat} {es:List (List AV)} {ds:List Nat} (dels:List Nat) (h1:tyi P t=some ty) (h2:ty.sz=1)
  (h3:Sto st.hp st.n id i k xv b sz es ds dels) (h:runX P mt fz all os (st.app dst { v:=.bot,set:=[(id,.row sz (es.set i ((es.getD i []).set k b)))],del:=ds++dels }) K):stoZ P mt all op t (.adr id i k) xv dst os st K :=
 .inl <| .inl ⟨ty,id,i,k,b,sz,es,ds,dels,h1,h2,rfl,h3,Q2n _ _ _ h⟩
theorem Q8O {op:Op} {t:TypeId} {ty:Tyi} {az bs:List AV} {id i sz:Nat} {es:List (List AV)} {ds:List Nat} (dels:List Nat) (h1:tyi P t=some ty) (h2:ty.sz=sz)
  (h3:StoG st.hp st.n id i az bs sz es ds dels) (h:runX P mt fz all os (st.app dst { v:=.bot,set:=[(id,.row sz (es.set i bs))],del:=ds++dels }) K):stoZ P mt all op t (.adr id i 0) (.agg az) dst os st K :=
 .inl <| .inr ⟨ty,id,i,az,bs,sz,es,ds,dels,h1,h2,rfl,rfl,h3,Q2n _ _ _ h⟩
theorem PurK.ofL {h:HP} (hp:PurL h az bs):PurK false h az bs:=hp
end
theorem Qm {P:Program} {F:Fx} {AQ:Exit→St→Prop} {st:St} {id:Nat} {ops:Array Oper} {d:Bool} (fz:List Nat) (hm:P.follows .mixedOrders=true) (hok:(okN F.N ops && (!d || (Q3S false ops && Q1G ops)))=true)
  (h:∀ K:St→Prop,(∀ st',AQ .normal st'→K st')→runX P false fz ops ops.toList st K):Wp P F (.region id ops d) AQ st :=
 Q4u hm hok fun K hK=>Q2n _ _ _ (h K hK)
theorem Q60 {P:Program} {F:Fx} {AQ:Exit→St→Prop} {st:St} {id:Nat} {ops:Array Oper} {d:Bool} (fz:List Nat) (hm:P.follows .mixedOrders=true) (hok:(okN F.N ops && (!d || (Q3S true ops && Q1G ops)))=true)
  (h:∀ K:St→Prop,(∀ st',AQ .normal st'→K st')→runX P true fz ops ops.toList st K):Wp P F (.region id ops d) AQ st :=
 Q4u hm hok fun K hK=>Q2n _ _ _ (h K hK)
theorem w_runXR {P:Program} {F:Fx} {AQ:Exit→St→Prop} {st:St} {id:Nat} {ops:Array Oper} {d:Bool} (lk:Bool) (fz ro:List Nat) (hm:P.follows .mixedOrders=true) (hok:(okN F.N ops && (!d || (Q3S ⟨true,ro,lk,[],false⟩ ops && Q1G ops)))=true)
  (h:∀ K:St→Prop,(∀ st',AQ .normal st'→K st')→runX P ⟨true,ro,lk,[],false⟩ fz ops ops.toList st K):Wp P F (.region id ops d) AQ st :=
 Q4u hm hok fun K hK=>Q2n _ _ _ (h K hK)
theorem w_runXQ {P:Program} {F:Fx} {AQ:Exit→St→Prop} {st:St} {id:Nat} {ops:Array Oper} {d:Bool} (lk:Bool) (fz ro rd0 rd:List Nat) (hrd:∀ t∈rd0,RoV (st.get t)) (hm:P.follows .mixedOrders=true) (hok:(okN F.N ops && (!d || (Q3S ⟨true,ro,lk,rd,false⟩ ops && Q1G ops)) && Qak rd0 rd ops)=true)
  (h:∀ K:St→Prop,(∀ st',AQ .normal st'→K st')→runX P ⟨true,ro,lk,rd,false⟩ fz ops ops.toList st K):Wp P F (.region id ops d) AQ st :=
 Q5Z rd0 hrd (Bool.and_eq_true _ _ ▸ hok:_∧_).2 hm (Bool.and_eq_true _ _ ▸ hok:_∧_).1 fun K hK=>Q2n _ _ _ (h K hK)
theorem Q8X {P:Program} {F:Fx} {AQ:Exit→St→Prop} {st:St} {id:Nat} {ops:Array Oper} {d:Bool} (fz rd0 rd:List Nat) (hrd:∀ t∈rd0,RoV (st.get t)) (hm:P.follows .mixedOrders=true) (hok:(okN F.N ops && (!d || (Q3S ⟨false,[],false,rd,true⟩ ops && Q1G ops)) && Qak rd0 rd ops)=true)
  (h:∀ K:St→Prop,(∀ st',AQ .normal st'→K st')→runX P ⟨false,[],false,rd,true⟩ fz ops ops.toList st K):Wp P F (.region id ops d) AQ st :=
 Q5Z rd0 hrd (Bool.and_eq_true _ _ ▸ hok:_∧_).2 hm (Bool.and_eq_true _ _ ▸ hok:_∧_).1 fun K hK=>Q2n _ _ _ (h K hK)
theorem w_runXS {P:Program} {F:Fx} {AQ:Exit→St→Prop} {st:St} {id:Nat} {ops:Array Oper} (fz:List Nat) (hm:P.follows .mixedOrders=true) (hok:(okN F.N ops && (Q9z [] [] [] 0 ops && Q1G ops))=true)
  (h:∀ K:St→Prop,(∀ st',AQ .normal st'→K st')→runX P false fz ops ops.toList st K):Wp P F (.region id ops true) AQ st:=by
 intro a w hr;obtain ⟨R',hX,hr⟩:=hr;obtain ⟨S,E,h0,hend,htr⟩:=Q5z ops _ _ _ (Q2n _ _ _ (h (AQ .normal) fun _ h=>h));subst h0;have T:Tr P false ops S E:=⟨hr.ok,(fun _ _ _ h=>by have:=(rdL_nil _).symm.trans h;cases this),fun k o ho=>htr k o (by simpa using ho)⟩;simp only [Bool.and_eq_true] at hok;have hend':AQ .normal (S ops.size):=by simpa using hend
 exact Q8z (rd0:=[]) (by simp) (ds:=[]) (rs:=[]) (J:=0) T hok.1 (sd_nil _) (fun h=>absurd rfl h) hok.2.1 hok.2.2 hm hr fun R'' a' w' hX' h'=>⟨_,⟨R'',hX.trans hX' (qE _),h'⟩,hend'⟩
def rE (P:Program) (mt:MT) (fz:List Nat) (all:Array Oper) (os:List Oper) (dst:Option Nat) (st:St) (K:St→Prop) (x:Option (Prop × Eff)):Prop:=Q68 (fun st'=>runX P mt fz all os st' K) dst st x
def rS (P:Program) (mt:MT) (fz:List Nat) (all:Array Oper) (os:List Oper) (dst:Option Nat) (st:St) (K:St→Prop) (op:Op) (t:TypeId) (av xv:AV) (x:Option (Prop × Eff)):Prop:=Q4L (fun st'=>runX P mt fz all os st' K) (stoZ P mt all op t av xv dst os st K) dst st x
def rL (P:Program) (mt:MT) (fz:List Nat) (all:Array Oper) (os:List Oper) (dst:Option Nat) (st:St) (K:St→Prop) (op:Op) (x:Option (Prop × Eff)):Prop:=Q4L (fun st'=>runX P mt fz all os st' K) (semA P mt all op dst os st K) dst st x
def rO (P:Program) (mt:MT) (fz:List Nat) (all:Array Oper) (os:List Oper) (dst:Option Nat) (st:St) (K:St→Prop) (op:Op):Prop:=Q4M P mt fz all os K (fun st'=>runX P mt fz all os st' K) dst st op
def gE (P:Program) (mt:MT) (fz:List Nat) (all:Array Oper) (os:List Oper) (dst:Option Nat) (st:St) (K:St→Prop) (op:Op) (t:Nat) (want:Bool) (x:AV):Prop:=Q8p P mt fz all os K (fun st'=>runX P mt fz all os st' K) dst st op t want x
section
variable {P:Program} {mt:MT} {fz:List Nat} {all:Array Oper} {os:List Oper} {dst:Option Nat} {st:St} {K:St→Prop} {op:Op} {ty:TypeId} {pos:String} {af:Array Edge}
@[simp] theorem rE_some {c:Prop} {e:Eff}:rE P mt fz all os dst st K (some (c,e))=(c∧runX P mt fz all os (st.app dst e) K):=rfl
@[simp] theorem callIX_ifc {name:String} {t:Nat} {cs az:List AV}:Q7i P mt all name az dst os st K (.ifc t cs)=callI P mt all (mth P t name) (.agg cs :: az) dst os st K:=rfl
@[simp] theorem callIX_ifs {name:String} {t sz:Nat} {es:List (List AV)} {az:List AV}:Q7i P mt all name az dst os st K (.ifs t sz es)=callI P mt all (mth P t name) (.lst true sz es :: az) dst os st K:=rfl
@[simp] theorem mkI_agg {t:TypeId} {b:Bool} {cs:List AV}:mkI t true b (.agg cs)=some (True,{ v:=.ifc t cs }):=rfl
@[simp] theorem asA_ifs {s t sz:Nat} {es:List (List AV)}:asA P s true (.ifs t sz es)=asB t sz es (tas P s t):=rfl
@[simp] theorem asB_true {t sz:Nat} {es:List (List AV)}:asB t sz es true=some (True,{ v:=.tup [.ifs t sz es,.val (.bool true)] }):=rfl
@[simp] theorem callEX_bnd {f:Nat} {rs az:List AV}:Q7h P mt all az dst os st K (.bnd f rs)=callB P mt all f (rs++az) dst os st K:=rfl
@[simp] theorem callEX_fn {f:Nat} {caps az:List AV}:Q7h P mt all az dst os st K (.fn f caps)=callX P mt all f (az++caps) dst os st K:=rfl
@[simp] theorem rO_call {x:Operand} {args:Array Operand} {ts:Array TypeId}:rO P mt fz all os dst st K (.call ⟨.value x,args,ts⟩)=Q7h P mt all (args.toList.map st.ev) dst os st K (st.ev x):=rfl
@[simp] theorem rO_move {x}:rO P mt fz all os dst st K (.move x)=runX P mt fz all os (st.app dst { v:=st.ev x }) K:=by simp [rO,Q4M,Q68,opX,opF]
@[simp] theorem rO_assign {x}:rO P mt fz all os dst st K (.assign x)=runX P mt fz all os (st.app dst { v:=st.ev x }) K:=by simp [rO,Q4M,Q68,opX,opF]
@[simp] theorem rO_pick {c a b}:rO P mt fz all os dst st K (.pick c a b)=rE P mt fz all os dst st K (pick (st.ev c) (st.ev a) (st.ev b)):=rfl
@[simp] theorem rO_alloc {e}:rO P mt fz all os dst st K (.alloc e)=rE P mt fz all os dst st K (Vc.alloc (tyi P e) st.n):=rfl
@[simp] theorem rO_box {t x}:rO P mt fz all os dst st K (.box t x)=rE P mt fz all os dst st K (bif inZ fz dst then boxr (st.ev x) else boxv (st.ev x) st.n):=rfl
@[simp] theorem rO_build {t parts}:rO P mt fz all os dst st K (.build t parts)=rE P mt fz all os dst st K (build (tyi P t) (Q3t P t) (parts.toList.map fun p=>(p.1,st.ev p.2))):=rfl
@[simp] theorem rO_buildSlice {t len parts}:rO P mt fz all os dst st K (.buildSlice t len parts)=rE P mt fz all os dst st K (elmE (fun e=>buildSlice (tyi P e) len (parts.toList.map fun p=>(p.1,st.ev p.2)) st.n) (elm P t)):=by
 simp only [rO,rE,Q4M,opX,opF];cases elm P t<;>rfl
@[simp] theorem rO_load {t a}:rO P mt fz all os dst st K (.load t a)=rE P mt fz all os dst st K (Q2B (tyi P t) (st.ev a) st.hp st.n):=rfl
@[simp] theorem rO_store {t a x}:rO P mt fz all os dst st K (.store t a x)=rS P mt fz all os dst st K (.store t a x) t (st.ev a) (st.ev x) (Q33 (tyi P t) (st.ev a) (st.ev x) st.hp):=rfl
@[simp] theorem rS_some {op:Op} {t:TypeId} {av xv:AV} {c:Prop} {e:Eff}:rS P mt fz all os dst st K op t av xv (some (c,e))=(c∧runX P mt fz all os (st.app dst e) K):=rfl
@[simp] theorem rS_none {op:Op} {t:TypeId} {av xv:AV}:rS P mt fz all os dst st K op t av xv none=stoZ P mt all op t av xv dst os st K:=rfl
@[simp] theorem rO_nilCheck {x}:rO P mt fz all os dst st K (.nilCheck x)=rE P mt fz all os dst st K (nilCheck (st.ev x)):=rfl
@[simp] theorem rO_binOp {o xt x y yt}:rO P mt fz all os dst st K (.binOp o xt x y yt)=rE P mt fz all os dst st K (Q5r (eqT P xt) o (st.ev x) (st.ev y)):=rfl
@[simp] theorem rO_unOp {o t x}:rO P mt fz all os dst st K (.unOp o t x)=rE P mt fz all os dst st K (unop o (st.ev x)):=rfl
@[simp] theorem rO_convert {s d x}:rO P mt fz all os dst st K (.convert s d x)=rE P mt fz all os dst st K (bif inZ fz dst then convS (byS P s d) st.hp (st.ev x) else Q6L (intk P s) (intk P d) (st.ev x)):=rfl
@[simp] theorem rO_makeSlice {t l c}:rO P mt fz all os dst st K (.makeSlice t l c)=rE P mt fz all os dst st K (bif inZ fz dst then Q9u P (elm P t) (st.ev l) (st.ev c) st.n else elmE (fun e=>Q4V (tyi P e) (st.ev l) (st.ev c) st.n) (elm P t)):=by
 simp only [rO,rE,Q4M,opX,opF];cases elm P t<;>rfl
@[simp] theorem makeSX_some {e:TypeId} {l c:AV} {n:Nat}:Q9u P (some e) l c n=Q4W (some (((elm P e).bind (tyi P)).getD ⟨false,1,8,[]⟩)) (tyi P e) l c n:=rfl
attribute [simp] Q4W zc
@[simp] theorem rO_fieldAddr {t x k}:rO P mt fz all os dst st K (.fieldAddr t x k)=rE P mt fz all os dst st K (fieldAddr (fld P t k) (st.ev x)):=rfl
@[simp] theorem rO_field {t x k}:rO P mt fz all os dst st K (.field t x k)=rE P mt fz all os dst st K (Q5w (fld P t k) (st.ev x)):=rfl
@[simp] theorem rO_indexAddr {t x i}:rO P mt fz all os dst st K (.indexAddr t x i)=rE P mt fz all os dst st K (elmE (fun e=>QZ (tyi P e) (st.ev x) (st.ev i) st.hp) (elm P t)):=by
 simp only [rO,rE,Q4M,opX,opF];cases elm P t<;>rfl
@[simp] theorem rO_slice {t x lo hi}:rO P mt fz all os dst st K (.slice t x lo hi none)=rE P mt fz all os dst st K (elmE (fun e=>Q3F (tyi P e) st.hp (st.ev x) (lo.map st.ev) (hi.map st.ev)) (elm P t)):=by
 simp only [rO,rE,Q4M,opX,opF];cases elm P t<;>rfl
@[simp] theorem rO_extract {x k}:rO P mt fz all os dst st K (.extract x k)=rE P mt fz all os dst st K (Q39 (st.ev x) k):=rfl
@[simp] theorem rO_len {x t}:rO P mt fz all os dst st K (.call ⟨.builtin .len,#[x],#[t]⟩)=rE P mt fz all os dst st K (bif inZ fz dst then lenm (mty P t) (Q3v st.hp (st.ev x)) else elmE (fun _=>lenv (st.ev x)) (elm P t)):=by
 simp only [rO,rE,Q4M,opX];cases inZ fz dst<;>cases elm P t<;>rfl
@[simp] theorem rO_append {x y t u}:rO P mt fz all os dst st K (.call ⟨.builtin .append,#[x,y],#[t,u]⟩)=rL P mt fz all os dst st K (.call ⟨.builtin .append,#[x,y],#[t,u]⟩) (elmE (fun e=>if t=u then (bif inZ fz dst then appM (tyi P e) (st.ev x) (st.ev y) st.hp st.n else Q2j (tyi P e) (st.ev x) (st.ev y) st.hp st.n) else none) (elm P t)):=by
 simp only [rO,rL,Q4M,opX];cases elm P t<;>rfl
@[simp] theorem rO_min {xs ts}:rO P mt fz all os dst st K (.call ⟨.builtin .min,xs,ts⟩)=rE P mt fz all os dst st K (Q41 (fun a b=>if b<a then b else a) (xs.toList.map st.ev)):=rfl
@[simp] theorem rO_max {xs ts}:rO P mt fz all os dst st K (.call ⟨.builtin .max,xs,ts⟩)=rE P mt fz all os dst st K (Q41 (fun a b=>if b > a then b else a) (xs.toList.map st.ev)):=rfl
@[simp] theorem QaK {t x}:rO P mt fz all os dst st K (.makeInterface t x)=rE P mt fz all os dst st K (mkI t (sty P t) (slt P t) (st.ev x)):=rfl
@[simp] theorem rO_typeAssert {x xt s ok}:rO P mt fz all os dst st K (.typeAssert x xt s ok)=rE P mt fz all os dst st K (asA P s ok (st.ev x)):=rfl
@[simp] theorem rO_invoke {x:Operand} {name:String} {args:Array Operand} {ts:Array TypeId}:rO P mt fz all os dst st K (.call ⟨.invoke x name,args,ts⟩)=Q7i P mt all name (args.toList.map st.ev) dst os st K (st.ev x):=rfl
@[simp] theorem rO_makeFuncB {f r}:rO P mt fz all os dst st K (.makeFunc (.func f) #[r] #[])=rE P mt fz all os dst st K (some (True,{ v:=.bnd f [st.ev r] })):=rfl
@[simp] theorem rO_makeFunc {f caps}:rO P mt fz all os dst st K (.makeFunc (.func f) #[] caps)=rE P mt fz all os dst st K (some (True,{ v:=.fn f (caps.toList.map st.ev) })):=rfl
@[simp] theorem rO_makeMap {t}:rO P mt fz all os dst st K (.makeMap t none)=rE P mt fz all os dst st K (makv (mty P t) st.n):=rfl
@[simp] theorem rL_some {op:Op} {c:Prop} {e:Eff}:rL P mt fz all os dst st K op (some (c,e))=(c∧runX P mt fz all os (st.app dst e) K):=rfl
@[simp] theorem rL_none {op:Op}:rL P mt fz all os dst st K op none=semA P mt all op dst os st K:=rfl
theorem Q6B {op:Op} {e:Eff} (hs:SemOp P op st.ev st.hp st.n e) (h:runX P mt fz all os (st.app dst e) K) (hm:(mt.on && wrM mt op)=true:=by rfl):semA P mt all op dst os st K:=⟨hm,e,hs,Q2n _ _ _ h⟩
@[simp] theorem rO_clear {args:Array Operand} {ts:Array TypeId}:rO P mt fz all os dst st K (.call ⟨.builtin .clear,args,ts⟩)=semA P mt all (.call ⟨.builtin .clear,args,ts⟩) dst os st K:=rfl
@[simp] theorem MK.plain_ext {x:XP}:(MK.ext x).plain=false:=rfl
@[simp] theorem rO_lookup {t x k ok}:rO P mt fz all os dst st K (.lookup t x k ok)=rL P mt fz all os dst st K (.lookup t x k ok) (Q5E (mty P t) (Q3v st.hp (st.ev x)) (st.ev k) ok):=rfl
@[simp] theorem rO_mapUpdate {t x k y}:rO P mt fz all os dst st K (.mapUpdate t x k y)=rL P mt fz all os dst st K (.mapUpdate t x k y) (updv (mty P t) st.hp (st.ev x) (st.ev k) (st.ev y)):=rfl
@[simp] theorem runX_nil:runX P mt fz all [] st K=K st:=rfl
@[simp] theorem runX_go:runX P mt fz all (⟨dst,op,ty,pos,af,none⟩ :: os) st K=rO P mt fz all os dst st K op:=rfl
@[simp high] theorem gE_tup {t:Nat} {want:Bool}:gE P mt fz all os dst st K op t want (.tup [])=runX P mt fz all os (st.app dst { v:=.tup [] }) K:=rfl
end
section
variable {h:HP} {n:Nat} {sz off m id:Nat} {es:List (List AV)} {kd:MK} {me:List (Value × Value)} {z:Value} {t:Tyi}
def srcME (sz off m:Nat):Option Ent→Option (Prop × List (List AV))
 | some (.mix sz' es)=>if sz'=sz then some (off+m≤es.length,(es.drop off).take m) else none
 | _=>none
def baseME (sz id m:Nat):Option Ent→Option (Prop × List (List AV) × List Nat)
 | some (.mix sz' es)=>if sz'=sz then some (m=es.length,es,[id]) else none
 | _=>none
def mcontE:Option Ent→Option (MK × List (Value × Value))
 | some (.mapE kd es)=>if kd.plain=true then some (kd,es) else none
 | _=>none
noncomputable def updE (kd:MK) (id:Nat) (kv v:Value):Option Ent→Option (Prop × Eff)
 | some (.mapE kd' es)=>if kd'=kd∧kd.is kv=true then some (es.length<1099511627776,{ v:=.bot,set:=[(id,.mapE kd (mset kv v es))] }) else none
 | _=>none
theorem srcM_nil:srcM h sz (.val (.slice none 0 0))=some (True,[]):=rfl
theorem srcM_lst {u:Bool} {sz':Nat}:srcM h sz (.lst u sz' es)=if sz'=sz then some (True,es) else none:=rfl
theorem srcM_E:srcM h sz (.own id off m)=srcME sz off m (h id):=rfl
@[simp] theorem srcME_mix {sz':Nat}:srcME sz off m (some (.mix sz' es))=if sz'=sz then some (off+m≤es.length,(es.drop off).take m) else none:=rfl
theorem baseM_nil:Q66 h sz (.val (.slice none 0 0))=some (True,[],[]):=rfl
theorem baseM_E:Q66 h sz (.own id 0 m)=baseME sz id m (h id):=rfl
@[simp] theorem baseME_mix {sz':Nat}:baseME sz id m (some (.mix sz' es))=if sz'=sz then some (m=es.length,es,[id]) else none:=rfl
def appME (t:Tyi) (n:Nat):Option (Prop × List (List AV) × List Nat)→Option (Prop × List (List AV))→Option (Prop × Eff)
 | some (c1,es,i),some (c2,news)=>some ((0<news.length∨i ≠ [])∧n ∉ i∧c1∧c2∧(es.length+news.length) * t.bytes≤140737488355328∧es.length+news.length≤140737488355328∧0<t.sz,
    { v:=.own n 0 (es.length+news.length),del:=i,new:=[(n,.mix t.sz (es++news))],cnt:=1 })
 | _,_=>none
theorem appM_E {s x:AV}:appM (some t) s x h n=appME t n (Q66 h t.sz s) (srcM h t.sz x):=by
 simp only [appM,appME];cases Q66 h t.sz s with
 | none=>rfl
 | some p=>cases srcM h t.sz x<;>rfl
@[simp] theorem appME_some {c1 c2:Prop} {i:List Nat} {news:List (List AV)}:appME t n (some (c1,es,i)) (some (c2,news))=some ((0<news.length∨i ≠ [])∧n ∉ i∧c1∧c2∧(es.length+news.length) * t.bytes≤140737488355328∧es.length+news.length≤140737488355328∧0<t.sz,
    { v:=.own n 0 (es.length+news.length),del:=i,new:=[(n,.mix t.sz (es++news))],cnt:=1 }):=rfl
theorem mcont_mp:Q3v h (.mp id)=mcontE (h id):=rfl
theorem Qae:Q3v h (.cmap kd me)=some (kd,me):=rfl
@[simp] theorem mcontE_map:mcontE (some (.mapE kd me))=if kd.plain=true then some (kd,me) else none:=rfl
theorem Qab {kd':MK} {kv:Value} {ok:Bool}:Q5E (some (kd,z)) (some (kd',me)) (.val kv) ok=if kd'=kd∧kd.is kv=true then
   some (True,{ v:=bif ok then .tup [.val ((Q1A kv me).getD z),.val (.bool (Q1A kv me).isSome)] else .val ((Q1A kv me).getD z) }) else none:=rfl
theorem lookv_agg {kd':MK} {az:List AV} {ok:Bool}:Q5E (some (kd,z)) (some (kd',me)) (.agg az) ok=(Qw az).elim none fun l=>if kd'=kd∧kd.is (.agg (l.map (Value.int .i64)).toArray)=true then
   some (True,{ v:=bif ok then .tup [.val ((Q1A (.agg (l.map (Value.int .i64)).toArray) me).getD z),.val (.bool (Q1A (.agg (l.map (Value.int .i64)).toArray) me).isSome)] else .val ((Q1A (.agg (l.map (Value.int .i64)).toArray) me).getD z) }) else none:=by
 simp only [Q5E,keyV];cases Qw az<;>rfl
theorem updv_agg {az:List AV} {v:Value}:updv (some (kd,z)) h (.mp id) (.agg az) (.val v)=(Qw az).elim none fun l=>updE kd id (.agg (l.map (Value.int .i64)).toArray) v (h id):=by
 simp only [updv,keyV];cases Qw az<;>rfl
theorem updv_mp {kv v:Value}:updv (some (kd,z)) h (.mp id) (.val kv) (.val v)=updE kd id kv v (h id):=rfl
@[simp] theorem updE_map {kd':MK} {kv v:Value}:updE kd id kv v (some (.mapE kd' me))=if kd'=kd∧kd.is kv=true then some (me.length<1099511627776,{ v:=.bot,set:=[(id,.mapE kd (mset kv v me))] }) else none:=rfl
theorem makv_some:makv (some (kd,z)) n=some (True,{ v:=.mp n,new:=[(n,.mapE kd [])],cnt:=1 }):=rfl
theorem lenm_some {p:MK × Value} {kd':MK}:lenm (some p) (some (kd',me))=some (True,{ v:=.val (.int .i64 me.length) }):=rfl
end
theorem boxr_if {x:AV}:boxr x=if x.cells.all AV.ro && x.shr then some (True,{ v:=.rptr x.cells }) else none:=rfl
attribute [simp] srcM_nil srcM_lst srcM_E baseM_nil baseM_E appM_E mcont_mp Qae Qab updv_mp lookv_agg updv_agg makv_some lenm_some boxr_if inZ AV.ro AV.ro1 AV.shr MK.is
attribute [simp] rl
def Em {α β:Type} (ek:α→Value) (ev:β→Value) (xs:List (α × β)):List (Value × Value):=xs.map fun p=>(ek p.1,ev p.2)
def QP {α β:Type} [DecidableEq α] (k:α):List (α × β)→Option β
 | []=>none
 | (a,v) :: r=>if a=k then some v else QP k r
def tset {α β:Type} [DecidableEq α] (k:α) (v:β):List (α × β)→List (α × β)
 | []=>[(k,v)]
 | (a,x) :: r=>if a=k then (a,v) :: r else (a,x) :: tset k v r
theorem Q70 {α β:Type} [DecidableEq α] {ek:α→Value} {ev:β→Value} (hi:∀ a b,ek a=ek b→a=b) (k:α):∀ xs:List (α × β),Q1A (ek k) (Em ek ev xs)=(QP k xs).map ev:=by
 intro xs
 induction xs with
 | nil=>rfl
 | cons p r ih =>
  obtain ⟨a,v⟩:=p;simp only [Em,qJ,Q1A,QP]
  by_cases h:a=k
  ·subst h;simp
  rw [if_neg (fun h'=>h (hi _ _ h')),if_neg h];exact ih
theorem mset_Em {α β:Type} [DecidableEq α] {ek:α→Value} {ev:β→Value} (hi:∀ a b,ek a=ek b→a=b) (k:α) (v:β):∀ xs:List (α × β),mset (ek k) (ev v) (Em ek ev xs)=Em ek ev (tset k v xs):=by
 intro xs
 induction xs with
 | nil=>rfl
 | cons p r ih =>
  obtain ⟨a,x⟩:=p;simp only [Em,qJ,mset,tset]
  by_cases h:a=k
  ·subst h;simp
  rw [if_neg (fun h'=>h (hi _ _ h')),if_neg h];simp only [qJ];have:mset (ek k) (ev v) (r.map fun p=>(ek p.1,ev p.2))=(tset k v r).map fun p=>(ek p.1,ev p.2):=ih;rw [this]
def vI (x:Int):Value:=.int .i64 x
def Mii (xs:List (Int × Int)):List (Value × Value):=Em vI vI xs
theorem vI_inj (a b:Int) (h:vI a=vI b):a=b:=by cases h;rfl
@[simp] theorem Mii_nil:Mii []=[]:=rfl
@[simp] theorem Mii_length (xs:List (Int × Int)):(Mii xs).length=xs.length:=by simp [Mii,Em]
@[simp] theorem find_Mii (k:Int) (xs:List (Int × Int)):(Q1A (.int .i64 k) (Mii xs)).getD (.int .i64 0) = .int .i64 ((QP k xs).getD 0):=by
 have:=Q70 (ev:=vI) vI_inj k xs;show ((Q1A (vI k) (Em vI vI xs)).getD (vI 0))=_;rw [this];cases QP k xs<;>rfl
@[simp] theorem some_Mii (k:Int) (xs:List (Int × Int)):(Q1A (.int .i64 k) (Mii xs)).isSome=(QP k xs).isSome:=by
 have:=Q70 (ev:=vI) vI_inj k xs;show (Q1A (vI k) (Em vI vI xs)).isSome=_;rw [this];cases QP k xs<;>rfl
@[simp] theorem set_Mii (k v:Int) (xs:List (Int × Int)):mset (.int .i64 k) (.int .i64 v) (Mii xs)=Mii (tset k v xs):=mset_Em (ev:=vI) vI_inj k v xs
@[simp] theorem set_Mii0 (k v:Int):mset (.int .i64 k) (.int .i64 v) []=Mii [(k,v)]:=rfl
structure RetF (keep:Bool) (ts:List Nat) (st:St) (rs:List AV):Prop where
 len:rs.length=ts.length
 pur:∀ k,k<ts.length→PurTo st.hp (st.get (ts.getD k 0)) (rs.getD k .bot)
 own:keep=false→∀ k,k<ts.length→(match st.get (ts.getD k 0) with|.val _=>True|.mp _=>True|_=>False)
def retFQ (keep:Bool) (ts:List Nat) (rs:List AV):Exit→St→Prop
 | .normal,st=>RetF keep ts st rs
 | .ret,st=>RetF keep ts st rs
 | _,_=>False
theorem Q5v {P:Program} (keep:Bool) {f:Nat} {fn:Func} {c:Code} {args:List AV} {ts:List Nat} {rs:List AV} {res:AV} (hf:P.funcs[f]? = some fn) (hb:fn.body=some c) (hrt:resT fn.results=some ts) (hrs:res=QM rs)
  (hname : (fn.name == "runtime.NumGoroutine") = false) (hN : args.length ≤ fn.ntmps) (h : ∀ F : Fx, F.N = fn.ntmps → F.pins = 0 → Wp P F c (retFQ keep ts rs) ⟨Q3o 0 args, [], 0⟩) : FContract P keep f args res := by
 subst hrs;refine ⟨⟨fn,hf,hname,by rw [hb];rfl⟩,fun w R vals hR hsz hx=>?_⟩;refine calls_of_wp hf hb ?_
 let C:Ctx:=⟨w,fun _=>False,fun _=>none,0⟩
 have hrel:Rel C R fn.ntmps { tmps:=vals++zC (fn.ntmps - vals.size) undef,defers:=[] } w ⟨Q3o 0 args,[],0⟩:=by
  refine ⟨by simp;omega,rfl,(fun id x h=>by cases h),fun _=>none,noρ,⟨fun b hb=>⟨hR b hb,rfl⟩,(fun b L hb=>by cases hb),rfl,⟨rfl,qE _⟩,rfl,qE _,fun b _ _=>rfl⟩,⟨(fun id sz es bk _ hb=>by cases hb),(fun id sz es bk _ hb=>by cases hb),(fun id c i k sz bk _ hb=>by cases hb),(fun id kd es bk _ hb=>by cases hb)⟩,fun t=>?_,(fun id k hk=>by cases hk),(fun id hid=>by cases hid),qE _⟩;simp only [St.get,Q2u]
  by_cases ht:t<args.length
  ·rw [if_pos (by omega)];simp only [Nat.sub_zero,qZ];have:=hx t ht;have h2:(vals++zC (fn.ntmps - vals.size) undef).getD t undef=vals.getD t undef:=by
    simp [qW,show t<vals.size by omega]
   rw [h2];exact this
  rw [if_neg (by omega)];exact .bot
 refine Q3R (fun e a w' hq=>?_) (h ⟨C,R,fn.ntmps,0,rfl⟩ rfl rfl _ w (.of hrel));obtain ⟨st,⟨R',hX,hr⟩,hq⟩:=hq;have fin:RetF keep ts st rs→a.defers=[]∧∃ v,(results fn a.tmps).run P w' = .ok v w'∧∃ v' R1,Ending.returned v = .returned v'∧Blw w.heap.size w w'∧(∀ b,R1 b→b<w'.heap.size∧((keep=true∧R b)∨w.heap.size≤b))∧XRel w' R1 noρ v' (QM rs):=by
  intro hA;obtain ⟨_,hdef,_,o,ρ,W,H,hxx,_⟩:=hr
  let R1:Nat→Prop:=if keep then RAll ⟨R',o,ρ⟩ else fun b=>∃ L,o b=some L
  have hown:∀ b L,o b=some L→b<w'.heap.size∧w.heap.size≤b:=fun b L hb=>by
   obtain ⟨q1,q2⟩:=W.o b L hb;exact ⟨q1,q2.resolve_right id⟩
  have hR1:∀ b,R1 b→b<w'.heap.size∧((keep=true∧R b)∨w.heap.size≤b):=fun b hb=>by
   cases keep with
   | true =>
    rcases (show RAll ⟨R',o,ρ⟩ b from hb) with hb|⟨L,hb⟩
    ·exact ⟨(W.R b hb).1,(hX.2 b hb).imp (fun h=>⟨rfl,h⟩) id⟩
    exact ⟨(hown b L hb).1,.inr (hown b L hb).2⟩
   | false =>
    obtain ⟨L,hb⟩:=hb;exact ⟨(hown b L hb).1,.inr (hown b L hb).2⟩
  have hcell:∀ k,k<ts.length→XRel w' R1 noρ (a.tmps.getD (ts.getD k 0) undef) (rs.getD k .bot):=by
   intro k hk;have h1:=hA.pur k hk;have h2:=hxx (ts.getD k 0);cases hkp:keep with
   | true=>subst hkp;exact (Q75 H h1 h2).1
   | false =>
    subst hkp;have h3:=hA.own rfl k hk;generalize st.get (ts.getD k 0)=av at h1 h2 h3;generalize rs.getD k .bot=rv at h1 ⊢;generalize a.tmps.getD (ts.getD k 0) undef=vv at h2 ⊢;cases av with
    | val v =>
     cases h1 with
     | val=>obtain ⟨rfl,hs⟩:=h2.val_eq;exact .r (.val hs)
     | nil=>obtain ⟨rfl,hs⟩:=h2.val_eq;exact .r (.nil (by decide))
    | mp id =>
     cases h1 with
     | mp he hk =>
      obtain ⟨b,rfl,hb⟩:=h2.mp_eq;obtain ⟨b',q1,q2,q3,q4⟩:=(H.map _ _ _ _ he hb).plain hk;simp only [Bk.mk.injEq,qA,and_true] at q1;subst q1;exact .r (.cmap ⟨_,q2⟩ q3 q4)
    | _=>exact h3.elim
  refine ⟨hdef,_,Q3g hrt _,_,R1,rfl,⟨W.os,W.tape,W.output,W.size,fun b hb=>W.keep b hb id⟩,hR1,?_⟩;have hl:=hA.len
  match ts,rs,hl,hcell with
  | [],[],_,_=>exact .tup rfl fun k hk=>by simp at hk
  | [t],[r],_,hcell=>exact hcell 0 (by simp)
  | t :: u :: ts,r :: s :: rs,hl,hcell =>
   simp only [qJ,Q2q,QM];refine .tup (by simp at hl;simp;omega) fun k hk=>?_;have hk':k<(t :: u :: ts).length:=(by simp at hl hk;simp;omega);have:=hcell k hk';have h1:((a.tmps.getD t undef :: a.tmps.getD u undef :: ts.map fun t=>a.tmps.getD t undef).toArray).getD k undef=a.tmps.getD ((t :: u :: ts).getD k 0) undef:=by
    have e1:(a.tmps.getD t undef :: a.tmps.getD u undef :: ts.map fun t=>a.tmps.getD t undef)=(t :: u :: ts).map fun t=>a.tmps.getD t undef:=rfl;rw [e1];have hk2:k<(List.map (fun t=>a.tmps.getD t undef) (t :: u :: ts)).toArray.size:=(by simpa using hk');rw [Array.getD_eq_getD_getElem?,qY hk2,qZ];simp only [List.getElem_toArray,List.getElem_map];rw [qB,qF hk',qZ]
   rw [h1];exact this
 cases e with
 | normal=>exact fin hq
 | ret=>exact fin hq
 | _=>exact hq.elim
theorem RetF.nil {keep:Bool} {st:St}:RetF keep [] st []:=⟨rfl,fun k hk=>by simp at hk,fun _ k hk=>by simp at hk⟩
theorem RetF.cons {keep:Bool} {t:Nat} {ts:List Nat} {st:St} {r:AV} {rs:List AV} (hp:PurTo st.hp (st.get t) r) (ho:keep=false→(match st.get t with|.val _=>True|.mp _=>True|_=>False)) (h:RetF keep ts st rs):RetF keep (t :: ts) st (r :: rs):=by
 refine ⟨by simp [h.len],fun k hk=>?_,fun hkp k hk=>?_⟩
 ·cases k with
  | zero=>exact hp
  | succ k=>simpa using h.pur k (by simpa using hk)
 cases k with
 | zero=>exact ho hkp
 | succ k=>simpa using h.own hkp k (by simpa using hk)
end
section
attribute [local simp] Qd QD Qq
theorem wp_wk {P:Program} {F:Fx} {c:Code} {AQ:Exit→St→Prop} {st:St} (h:Wp P F c (fun e st=>∃ st',Wk F st st'∧AQ e st') st):Wp P F c AQ st:=by
 intro a w hr;refine wp_mono (h a w hr) fun e a w he=>?_;obtain ⟨st1,h1,st2,h2,h3⟩:=he;exact ⟨st2,h2 a w h1,h3⟩
def iretWQ (F:Fx) (ts:List Nat) (H:List (Nat × Ent)) (n:Nat) (e:Eff):Exit→St→Prop
 | .normal,st=>∃ st',Wk F st st'∧IRet ts H n e st'
 | .ret,st=>∃ st',Wk F st st'∧IRet ts H n e st'
 | _,_=>False
theorem Q2z {P:Program} {f:Nat} {fn:Func} {c:Code} {az:List AV} {ts:List Nat} {H:List (Nat × Ent)} {n:Nat} {e:Eff} (hf:P.funcs[f]? = some fn) (hb:fn.body=some c) (hrt:resT fn.results=some ts)
  (hname : (fn.name == "runtime.NumGoroutine") = false) (hN : az.length ≤ fn.ntmps) (hH : ∀ p ∈ H, p.1 < n) (hfine : e.fine n) (hnew : ∀ id, n ≤ id → id < n + e.cnt → id ∈ e.new.map Prod.fst)
  (h:∀ F:Fx,F.N=fn.ntmps→F.pins=n→Wp P F c (iretWQ F ts H n e) ⟨Q3o 0 az,H,n⟩):ICon P f az (fun id=>look id H) n e:=by
 refine Q6p hf hb hrt hname hN hH hfine hnew fun F h1 h2=>wp_wk (Wp.mono ?_ (h F h1 h2));intro ex st hq;cases ex with
 | normal=>exact hq
 | ret=>exact hq
 | _=>exact hq.elim
theorem iw_r {F:Fx} {ts:List Nat} {H:List (Nat × Ent)} {n:Nat} {e:Eff} {st st':St} (h:Wk F st st') (h2:IRet ts H n e st'):iretWQ F ts H n e .ret st:=⟨st',h,h2⟩
theorem iw_n {F:Fx} {ts:List Nat} {H:List (Nat × Ent)} {n:Nat} {e:Eff} {st st':St} (h:Wk F st st') (h2:IRet ts H n e st'):iretWQ F ts H n e .normal st:=⟨st',h,h2⟩
structure IRetG (P:Program) (rvs:List ResultVar) (H:List (Nat × Ent)) (n:Nat) (e:Eff) (st:St):Prop where
 res:∃ az,RGet P st rvs az∧QM az=e.v
 n:st.n=n+e.cnt
 h:st.h=Q42 e.set (Q3y e.del H)++e.new
def pinsB (n:Nat) (m:List (Nat × Nat)):Bool:=(zD n).all fun i=>look i m == some i
theorem pins_ok {n:Nat} {m:List (Nat × Nat)} (h:pinsB n m=true):∀ id,id<n→look id m=some id:=by
 intro id hid;unfold pinsB at h;have:=List.all_eq_true.1 h id (List.mem_range.2 hid);simpa using this
theorem Wk.rP {F:Fx} {st st':St} (n:Nat) (m:List (Nat × Nat)) (hP:F.pins=n) (hpin:pinsB n m=true)
  (h:(m.map Prod.fst).Nodup∧(m.map Prod.snd).Nodup∧(∀ p∈m,p.2<st'.n)∧(∀ p∈st'.h,p.1<st'.n)∧(∀ p∈st'.s,p.2=rl m (st.get p.1)∨p.2 = .bot)∧∀ p∈st'.h,hhOk m st.h p.1 p.2):Wk F st st' :=
 Wk.rel m h.1 h.2.1 (by rw [hP];exact pins_ok hpin) h.2.2.1 h.2.2.2.1 h.2.2.2.2.1 h.2.2.2.2.2
theorem Q7r {e:Eff} {n:Nat} (h:(∀ p∈e.new,n≤p.1∧p.1<n+e.cnt)∧(e.new.map Prod.fst).Nodup∧(∀ x∈e.del,x<n)∧(e.set.map Prod.fst).Nodup∧∀ p∈e.set,p.1<n):e.fine n:=⟨h.1,h.2.1,h.2.2.1,h.2.2.2⟩
def newB (n cnt:Nat) (l:List Nat):Bool:=(zD cnt).all fun i=>l.contains (n+i)
theorem newI {e:Eff} {n:Nat} (h:newB n e.cnt (e.new.map Prod.fst)=true):∀ id,n≤id→id<n+e.cnt→id∈e.new.map Prod.fst:=by
 intro id h1 h2;unfold newB at h;have:=List.all_eq_true.1 h (id - n) (List.mem_range.2 (by omega));rw [show n+(id - n)=id by omega] at this;simpa using this
def roRows (sz:Nat) (es:List (List AV)):Prop:=∀ e∈es,e.length=sz∧∀ c∈e,AV.ro c=true
def ownB:AV→Bool
 | .val _=>true
 | .mp _=>true
 | _=>false
theorem RetF.one {t:Nat} {ts:List Nat} {st:St} {r:AV} {rs:List AV} (ho:ownB (st.get t)=true) (hp:PurTo st.hp (st.get t) r) (h:RetF false ts st rs):RetF false (t :: ts) st (r :: rs):=by
 refine .cons hp (fun _=>?_) h
 revert ho
 cases st.get t<;>simp [ownB]
end
section
attribute [local simp] Qd QD Qq
theorem Q9Q {op:Op} {P:Program} {mt:MT} {fz:List Nat} {all:Array Oper} {t:TypeId} {ty:Tyi} {xv b:AV} {id i k sz:Nat} {es es2:List (List AV)} {ds:List Nat} {dst:Option Nat} {os:List Oper} {st:St} {K:St→Prop} (dels:List Nat) (h1:tyi P t=some ty) (h2:ty.sz=1)
  (he:look id st.h=some (.row sz es)) (hl:layC st.hp xv=some (b,ds)) (hi:i<es.length) (hk:k<sz) (hn:(id :: ds).Nodup) (hlt:∀ y∈ds++dels,y<st.n) (ha:∀ p∈st.h,Q6U p.2=true→p.1∈dels)
  (h2':es.set i ((es.getD i []).set k b)=es2)
  (h:runX P mt fz all os (st.app dst { v:=.bot,set:=[(id,.row sz es2)],del:=ds++dels }) K):stoZ P mt all op t (.adr id i k) xv dst os st K:=by
 subst h2';exact QaE dels h1 h2 ⟨he,hl,hi,hk,hn,hlt,fun id' _ _ _ _ _ h3=>.inl (ha (id',_) (Qg h3) rfl)⟩ h
theorem stoG_row {op:Op} {P:Program} {mt:MT} {fz:List Nat} {all:Array Oper} {t:TypeId} {ty:Tyi} {az bs:List AV} {id i sz:Nat} {es es2:List (List AV)} {ds:List Nat} {dst:Option Nat} {os:List Oper} {st:St} {K:St→Prop} (dels:List Nat) (h1:tyi P t=some ty) (h2:ty.sz=sz)
  (he:look id st.h=some (.row sz es)) (hl:layCs st.hp az=some (bs,ds)) (hi:i<es.length) (hk:az.length=sz) (hn:(id :: ds).Nodup) (hlt:∀ y∈ds++dels,y<st.n) (ha:∀ p∈st.h,Q6U p.2=true→p.1∈dels)
  (h2':es.set i bs=es2)
  (h:runX P mt fz all os (st.app dst { v:=.bot,set:=[(id,.row sz es2)],del:=ds++dels }) K):stoZ P mt all op t (.adr id i 0) (.agg az) dst os st K:=by
 subst h2';exact Q8O dels h1 h2 ⟨he,hl,hi,hk,hn,hlt,fun id' _ _ _ _ _ h3=>.inl (ha (id',_) (Qg h3) rfl)⟩ h
end
section
attribute [local simp] Qd QD Qq
def Q5J:Ent→Bool
 | .ali _ _ _ _=>false
 | _=>true
def rlE' (m:List (Nat × Nat)) (x:Ent):Ent:=(rlE m x).getD x
@[simp] theorem rlE'_mix {m:List (Nat × Nat)} {sz:Nat} {es:List (List AV)}:rlE' m (.mix sz es) = .mix sz (rlLL m es):=rfl
@[simp] theorem rlE'_row {m:List (Nat × Nat)} {sz:Nat} {es:List (List AV)}:rlE' m (.row sz es) = .row sz es:=rfl
@[simp] theorem rlE'_map {m:List (Nat × Nat)} {kd:MK} {es:List (Value × Value)}:rlE' m (.mapE kd es) = .mapE kd es:=rfl
end
section
attribute [local simp] Qd QD Qq
theorem St.hp_put (st:St) (d:Nat) (av:AV):(st.app (some d) { v:=av }).hp=st.hp:=by
 funext k
 simp [St.app,St.hp,Q42,Q3y]
theorem Rel.put {C:Ctx} {R:Nat→Prop} {N:Nat} {a:Act} {w:World} {st:St} (h:Rel C R N a w st) {d:Nat} (hd:d<N) {v:Value} {av:AV} (hv:∀ ρ,XRel w R ρ v av) :
  Rel C R N (a.put (some d) v) w (st.app (some d) { v:=av }):=by
 obtain ⟨h1,h2,h3,o,ρ,W,H,hx,hρ⟩:=h;have hn:(st.app (some d) { v:=av }).n=st.n:=by simp [St.app]
 refine ⟨by rw [Q5h];exact h1,by rw [← h2];rfl,fun id x hid=>?_,o,ρ,W,by rw [St.hp_put];exact H,fun t=>?_,by rw [hn];exact hρ.1,hρ.2.1,by rw [hn];exact hρ.2.2⟩
 ·have e:look id (st.app (some d) { v:=av }).h=look id st.h:=congrFun (St.hp_put st d av) id;rw [e] at hid;rw [hn];exact h3 id x hid
 rw [put_get a (some d) v t (fun x hx=>by cases hx;rw [h1];exact hd),Q2m];split
 ·exact hv ρ
 exact hx t
theorem equal_nil {P:Program} {t e:TypeId} (ht:elm P t=some e) (a:Option Addr) (n c:Nat) (w:World):(Op.equal t (.slice a n c) (.slice none 0 0)).run P w = .ok a.isNone w:=by
 have hu:=Q1i ht;have hr:(underlying t).run P w = .ok (.slice e) w:=by simp [underlying,hu,go_sem]
 have e1:Op.equal t (.slice a n c) (.slice none 0 0)=underlying t >>= fun d=>match d,a with
   | .slice _,none=>pure true
   | .slice _,some _=>pure false
   | _, _ => stuck "==: the operands do not fit the type, or the type is not comparable" := by
  show Op.equalIn (9999+1) t _ _=_;unfold Op.equalIn
  congr 1
  funext d
  cases d<;>cases a<;>rfl
 rw [e1];cases a<;>simp [hr,go_sem]
theorem w_eqnil {P:Program} {F:Fx} {AQ:Exit→St→Prop} {st:St} {id t0 d3 d4:Nat} {o0 o1:Oper} {t t2 e:TypeId} {u:Bool} {sz:Nat} {es:List (List AV)} (h0:o0.op = .move (.tmp t0)) (h0d:o0.dst=some d3) (h0g:o0.guard=none)
  (h1:o1.op = .binOp .eql t (.tmp d3) (.const (.slice none 0 0)) t2) (h1d:o1.dst=some d4) (h1g:o1.guard=none) (ht:elm P t=some e) (hl:st.get t0 = .lst u sz es) (hN3:d3<F.N) (hN4:d4<F.N)
  (h:∀ b:Bool,(es ≠ []→b=false)→AQ .normal ((st.app (some d3) { v:=.lst u sz es }).app (some d4) { v:=.val (.bool b) })):Wp P F (.region id #[o0,o1] false) AQ st:=by
 intro a w ⟨R',hX,hr⟩;refine wp_region ?_;show OpsT P #[o0,o1] [0,1] _ a w;refine Q10 fun w₁ r₁=>?_;have hr1:=hr.rly r₁;have hxr:RRel w₁ R' (a.eval (.tmp t0)) (.lst u sz es):=by
  obtain ⟨_,_,_,o,ρ,_,_,hx,_⟩:=hr1;have:=hx t0;rw [hl] at this;exact this.lst_eq
 have hv:∃ p n c,a.eval (.tmp t0) = .slice p n c∧(es ≠ []→p.isNone=false):=by
  generalize hh:a.eval (.tmp t0)=v at hxr;cases hxr with
  | nil=>exact ⟨_,_,_,rfl,fun k=>absurd rfl k⟩
  | lst=>exact ⟨_,_,_,rfl,fun _=>rfl⟩
 obtain ⟨p,n,c,hv,hnil⟩:=hv;refine Q5m (o:=o0) (x:=a.eval (.tmp t0)) (w':=w₁) rfl (by simp [Region.wanted,h0g]) (by unfold execOp;rw [h0];rfl) ?_;rw [h0d];have hr2:=hr1.put hN3 (fun ρ=>.r hxr);refine Q10 fun w₂ r₂=>?_;have hr3:=hr2.rly r₂;have he:(a.put (some d3) (a.eval (.tmp t0))).eval (.tmp d3) = .slice p n c:=by
  rw [← hv];show (a.put (some d3) (a.eval (.tmp t0))).tmps.getD d3 undef=_;rw [put_get a (some d3) _ d3 (fun x hx=>by cases hx;rw [hr1.size];exact hN3),if_pos rfl]
 have hc:(a.put (some d3) (a.eval (.tmp t0))).eval (.const (.slice none 0 0)) = .slice none 0 0:=rfl;have hq:=equal_nil ht p n c w₂;have hg:(eqGuard .eql t (.tmp d3) (.const (.slice none 0 0)) (.slice p n c) (.slice none 0 0))=pure ():=rfl;have hb:binOp .eql t (.slice p n c) (.slice none 0 0)=(do pure (.bool (← Op.equal t (.slice p n c) (.slice none 0 0)))):=rfl;refine Q5m (o:=o1) (x:=.bool p.isNone) (w':=w₂) rfl (by simp [Region.wanted,h1g]) ?_ ?_
 ·unfold execOp;rw [h1];simp only [he,hc,hg,hb];simp [hq,go_sem]
 rw [h1d];exact Q5g ⟨_,⟨R',hX,hr3.put hN4 fun ρ=>.r (.val trivial)⟩,h p.isNone hnil⟩
end
section
attribute [local simp] Qd QD Qq
section
variable {P:Program} {ops:Array Oper}
theorem Qan (Inv:(Nat→Bool)→Act→World→Prop) (hback:Q1G ops=true) (hm:P.follows .mixedOrders=true) {id:Nat} {Q:Exit→Act→World→Prop} {a:Act} {w:World}
  (h0:∀ w₁,Rly w w₁→∀ L:Nat→Bool,(∀ k,k<ops.size→L k=false)→Inv L a w₁.drew)
  (hcongr:∀ L L':Nat→Bool,(∀ k,L k=L' k)→∀ a w,Inv L a w→Inv L' a w)
  (hstep:∀ (L:Nat→Bool) (i:Nat) (a:Act) (w w₁:World),i<ops.size→L i=false→(∀ k,((Q2C ops.toList []).getD i 0).testBit k=true→L k=true) →
   (∀ j,L j=true→((Q2C ops.toList []).getD j 0).testBit i=false)→Inv L a w→Rly w w₁→wpOp P ops i (fun a' w'=>Inv (upL L i) a' w') a w₁)
  (hQ:∀ (L:Nat→Bool) (a':Act) (w':World),(∀ k,k<ops.size→L k=true)→Inv L a' w'→Q .normal a' w'):(Code.region id ops true).wpT P Q a w:=by
 refine wp_region_any hm fun wr hrl=>?_;have key:∀ (fuel:Nat) (listed:Array Bool) (a:Act) (w':World),listed.size=ops.size→left (fun k=>listed.getD k false) ops.size≤fuel →
   (∀ j,listed.getD j false=true→∀ i,((Q2C ops.toList []).getD j 0).testBit i=true→listed.getD i false=true)→Inv (fun k=>listed.getD k false) a w'→wpAny P .any ops Q fuel listed a w':=by
  intro fuel
  induction fuel with
  | zero =>
   intro listed a w' hsz hleft hanc M;have hall:=Q5D _ (show left (fun k=>listed.getD k false) ops.size=0 by omega);refine ⟨?_,hQ _ _ _ hall M⟩;cases hr:Region.ready .any ops listed with
   | nil=>rfl
   | cons x xs =>
    have hx:x∈Region.ready .any ops listed:=(by rw [hr];simp);obtain ⟨hf,o,ho,_⟩:=mem_ready.1 hx;have hxs:=(Array.getElem?_eq_some_iff.1 ho).1;have h1:listed.getD x false=true:=hall x hxs;have:listed.getD x true=listed.getD x false:=(by simp [show x<listed.size by omega]);rw [this,h1] at hf;cases hf
  | succ fuel ih =>
   intro listed a w' hsz hleft hanc M;refine ⟨fun hr=>?_,fun i hi w₁ hrl1=>?_⟩
   ·
    have hall:∀ k,k<ops.size→listed.getD k false=true:=by
     intro k
     induction k using Nat.strongRecOn with
     | _ k ihk =>
      intro hk;cases hl:listed.getD k false with
      | true=>rfl
      | false =>
       have:k∈Region.ready .any ops listed:=by
        refine mem_ready.2 ⟨?_,ops[k],qY hk,fun e he hb=>?_⟩
        ·have:listed.getD k true=listed.getD k false:=(by simp [show k<listed.size by omega]);rw [this,hl]
        have h1:=hback;unfold Q1G at h1;simp only [qS] at h1;have h2:=h1 (ops[k],k) (List.mk_mem_zipIdx_iff_getElem?.2 (by simp [hk])) e (by simpa using he);rw [hb] at h2;have hlt:e.on<k:=(by simpa using h2);exact ihk e.on hlt (by omega)
       rw [hr] at this;cases this
    exact hQ _ _ _ hall M
   obtain ⟨hf,oi,hoi,hafter⟩:=mem_ready.1 hi;have hin:=(Array.getElem?_eq_some_iff.1 hoi).1;have hLi:listed.getD i false=false:=by
    have:listed.getD i true=listed.getD i false:=(by simp [show i<listed.size by omega]);rw [← this];exact hf
   have hanci:∀ k,((Q2C ops.toList []).getD i 0).testBit k=true→listed.getD k false=true:=by
    intro k hk;obtain ⟨o',ho',e,he,hb,hx⟩:=Q5G ops.toList [] i k (by simp) hk;have hoo:o'=oi:=by
     simp only [List.length_nil,Nat.sub_zero] at ho';rw [Array.getElem?_toList,hoi] at ho';simpa using ho'.symm
    subst hoo;have h1:=hafter e (by simpa using he) hb;rcases hx with hx|⟨_,hx⟩
    ·rw [← hx];exact h1
    exact hanc _ h1 _ hx
   refine wpOp_mono (fun a' w'' M'=>?_) (hstep (fun k=>listed.getD k false) i a w' w₁ hin hLi hanci (fun j hj=>?_) M hrl1);rotate_left
   ·cases hb:((Q2C ops.toList []).getD j 0).testBit i with
    | false=>rfl
    | true=>have:=hanc j hj i hb;rw [hLi] at this;cases this
   have hset:∀ k,(listed.setIfInBounds i true).getD k false=upL (fun k=>listed.getD k false) i k:=by
    intro k;simp only [upL]
    by_cases hk:k=i
    ·subst hk;simp [show k<listed.size by omega]
    rw [if_neg hk,getD_set_ne false (Ne.symm hk)]
   refine ih _ a' w'' (by simpa using hsz) ?_ ?_ (hcongr _ _ (fun k=>(hset k).symm) _ _ M')
   ·have h1:=Q8t (L:=fun k=>listed.getD k false) hLi ops.size;rw [if_pos hin] at h1;have h2:left (fun k=>(listed.setIfInBounds i true).getD k false) ops.size=left (upL (fun k=>listed.getD k false) i) ops.size:=by
     congr 1;funext k;exact hset k
    omega
   intro j hj k hk;rw [hset] at hj ⊢;simp only [upL] at hj ⊢
   by_cases hki:k=i
   ·rw [if_pos hki]
   rw [if_neg hki]
   by_cases hji:j=i
   ·subst hji;exact hanci k hk
   rw [if_neg hji] at hj;exact hanc j hj k hk
 refine key ops.size _ a _ (by simp) ?_ ?_ ?_
 ·have:∀ m,left (fun k=>(zC ops.size false).getD k false) m≤m:=by
   intro m
   induction m with
   | zero=>simp [left]
   | succ m ih=>simp only [left];split<;>omega
  exact this _
 ·intro j hj;exfalso
  by_cases hjs:j<ops.size
  ·simp [hjs] at hj
  simp [hjs] at hj
 refine h0 wr hrl _ fun k hk=>?_;simp [hk]
end
structure DR (C:Ctx) (R:Nat→Prop) (N p n sz b cap:Nat) (o:Nat→Option (List Nat)) (ρ:Nat→Option Bk) (s:List (Nat × AV)) (es:List (List AV)) (a:Act) (w:World):Prop where
 size:a.tmps.size=N
 defers:a.defers=[]
 W:WF C w ⟨R,o,ρ⟩
 hx:∀ t,XRel w R ρ (a.tmps.getD t undef) ((look t s).getD .bot)
 ρp:ρ p=some ⟨some b,sz,cap⟩
 ob:o b=some [p]
 cells:∃ (cur:Array Value) (el:TypeId),w.heap[b]? = some (.cells cur el (0,0))∧cap * sz≤cur.size∧∀ i k,i<es.length→k<sz→∃ u,cur[i * sz+k]? = some u∧sc u∧(es.getD i []).getD k .bot = .val u
 rows:∀ i,i<es.length→(es.getD i []).length=sz
 len:es.length≤cap∧cap≤maxLen
 lim:(∀ id k,ρ id=some k→id<n)∧(∀ id,id<C.n0→ρ id=C.ρ0 id)∧C.n0≤n
 pn:p<n
section
variable {C:Ctx} {R:Nat→Prop} {N p n sz b cap:Nat} {o:Nat→Option (List Nat)} {ρ:Nat→Option Bk} {s:List (Nat × AV)} {es:List (List AV)} {a:Act} {w:World}
theorem DR.rel (h:DR C R N p n sz b cap o ρ s es a w):Rel C R N a w ⟨s,[(p,.row sz es)],n⟩:=by
 obtain ⟨cur,el,hb,hcs,hc⟩:=h.cells;refine ⟨h.size,h.defers,fun id x hid=>?_,o,ρ,h.W,⟨fun id z e bk hx hbk=>?_,fun id z e bk hx hbk=>?_,fun id c i k z bk hx hbk=>?_,fun id kd e bk hx hbk=>?_⟩,h.hx,h.lim.1,h.lim.2.1,h.lim.2.2⟩
 ·simp only [look] at hid;split at hid
  ·rename_i q;subst q;exact h.pn
  cases hid
 ·simp only [St.hp,look] at hx;split at hx<;>cases hx
 ·simp only [St.hp,look] at hx;split at hx
  ·rename_i q;subst q;cases hx;have hbk':ρ p=some bk:=hbk;rw [h.ρp] at hbk';cases hbk';exact ⟨_,.own (fun i k=>cur.getD (i * sz+k) undef) h.ob hb hcs h.len.1 h.len.2 h.rows (fun i k hi hk=>by
    obtain ⟨u,q1,_,_⟩:=hc i k hi hk;simp [q1]) (fun i k hi hk=>by
    obtain ⟨u,q1,q2,_⟩:=hc i k hi hk;have:cur.getD (i * sz+k) undef=u:=(by simp [q1]);rw [this];exact Q2O q2) (fun i k hi hk=>by
    obtain ⟨u,q1,q2,q3⟩:=hc i k hi hk;have:cur.getD (i * sz+k) undef=u:=(by simp [q1]);rw [this,q3];exact .val q2),.own⟩
  cases hx
 ·simp only [St.hp,look] at hx;split at hx<;>cases hx
 simp only [St.hp,look] at hx;split at hx<;>cases hx
theorem DR.of (h:Rel C R N a w ⟨s,[(p,.row sz es)],n⟩) (hv:∀ r∈es,∀ c∈r,isVal c=true) {m:Nat} (hs:look 0 s=some (.own p 0 m)) (hm:0<m) (hme:m≤es.length) :
  ∃ o ρ b cap c,DR C R N p n sz b cap o ρ s es a w∧a.tmps.getD 0 undef = .slice (some ⟨b,0,none⟩) m c∧m≤c∧c≤cap:=by
 obtain ⟨h1,h2,h3,o,ρ,W,H,hx,hρ⟩:=h;have h0:=hx 0;have hg:St.get (⟨s,[(p,.row sz es)],n⟩:St) 0 = .own p 0 m:=by simp [St.get,hs]
 rw [hg] at h0;rcases h0.own_eq with ⟨sz',cap,r1,r2,r3,r4⟩|⟨b,sz',cap,c,x0,r1,r2,r3,r4,r5,r6,r7⟩
 ·omega
 have hx0:x0=0:=r6 rfl;subst hx0;obtain ⟨v,t1,t2⟩:=H.row p sz es _ (by simp [St.hp,look]) r1;cases t2;cases t1 with
 | @own _ _ _ _ _ cur el us u1 u2 u3 u4 u5 u6 u7 u8 u9 =>
  refine ⟨o,ρ,b,cap,c,⟨h1,h2,W,hx,r1,u1,⟨cur,el,u2,u3,fun i k hi hk=>?_⟩,u6,⟨u4,u5⟩,⟨hρ.1,hρ.2.1,hρ.2.2⟩,h3 p (.row sz es) (by simp [look])⟩,r2,r4,by omega⟩;have q:=u9 i k hi hk;have hmem:(es.getD i []).getD k .bot∈es.getD i []:=by
   rw [qB (l:=es.getD i []),qF (by rw [u6 i hi];exact hk),qZ];exact zE _
  have hmem2:es.getD i []∈es:=by
   rw [qB,qF hi,qZ];exact zE _
  have hval:=hv _ hmem2 _ hmem;have q7:=u7 i k hi hk;generalize (es.getD i []).getD k .bot=cc at q hval ⊢;generalize us i k=u at q q7;cases q with
  | val hq=>exact ⟨_,q7,hq,rfl⟩
  | _=>cases hval
theorem DR.rly (h:DR C R N p n sz b cap o ρ s es a w) {w₁:World} (r:Rly w w₁):DR C R N p n sz b cap o ρ s es a w₁:=by cases r;exact h
theorem DR.drew (h:DR C R N p n sz b cap o ρ s es a w):DR C R N p n sz b cap o ρ s es a w.drew:=by
 obtain ⟨cur,el,hb,hcs,hc⟩:=h.cells;exact ⟨h.size,h.defers,h.W.drew,fun t=>XRel.mono (w:=w) (w':=w.drew) (fun b hb=>⟨hb,rfl⟩) (fun _ _ h=>h) (h.hx t),h.ρp,h.ob,⟨cur,el,hb,hcs,hc⟩,h.rows,h.len,h.lim,h.pn⟩
theorem DR.put (h:DR C R N p n sz b cap o ρ s es a w) {d:Nat} (hd:d<N) {v:Value} {s':List (Nat × AV)} (hs:∀ t,t ≠ d→(look t s').getD .bot=(look t s).getD .bot) (hv:XRel w R ρ v ((look d s').getD .bot)) :
  DR C R N p n sz b cap o ρ s' es (a.put (some d) v) w:=by
 refine ⟨by rw [Q5h];exact h.size,by rw [← h.defers];rfl,h.W,fun t=>?_,h.ρp,h.ob,h.cells,h.rows,h.len,h.lim,h.pn⟩;rw [put_get a (some d) v t (fun x hx=>by cases hx;rw [h.size];exact hd)];split
 ·rename_i q;cases q;exact hv
 rename_i q;rw [hs t (fun e=>q (by rw [e]))];exact h.hx t
theorem DR.putB (h:DR C R N p n sz b cap o ρ s es a w) {d:Nat} (hd:d<N) {v:Value} (hs:look d s=none):DR C R N p n sz b cap o ρ s es (a.put (some d) v) w :=
 h.put hd (fun _ _=>rfl) (by rw [hs];exact .bot)
theorem DR.forget (h:DR C R N p n sz b cap o ρ s es a w) {s':List (Nat × AV)} (hs:∀ t,(look t s').getD .bot=(look t s).getD .bot∨(look t s').getD .bot = .bot):DR C R N p n sz b cap o ρ s' es a w :=
 ⟨h.size,h.defers,h.W,fun t=>by
  rcases hs t with q|q
  ·rw [q];exact h.hx t
  rw [q];exact .bot,h.ρp,h.ob,h.cells,h.rows,h.len,h.lim,h.pn⟩
theorem DR.setRow (h:DR C R N p n sz b cap o ρ s es a w) {cur cur':Array Value} {el:TypeId} {es':List (List AV)} (hb:w.heap[b]? = some (.cells cur el (0,0))) (hcs:cur'.size=cur.size) (hlen:es'.length≤cap) (hrows:∀ i,i<es'.length→(es'.getD i []).length=sz)
  (hc:∀ i k,i<es'.length→k<sz→∃ u,cur'[i * sz+k]? = some u∧sc u∧(es'.getD i []).getD k .bot = .val u):DR C R N p n sz b cap o ρ s es' a (w.setRow b cur'):=by
 have hne:∀ b',o b' ≠ some [p]→b' ≠ b:=fun b' q e=>q (by rw [e];exact h.ob);have hR:∀ b',R b'→(w.setRow b cur').heap[b']? = w.heap[b']?:=fun b' hb'=>setRow_other w b b' cur' (hne b' (by have q:o b'=none:=(h.W.R b' hb').2;rw [q];simp));obtain ⟨cur0,el0,hb0,hcs0,_⟩:=h.cells;rw [hb] at hb0;cases hb0;refine ⟨h.size,h.defers,⟨fun b' hb'=>?_,fun b' L hb'=>?_,h.W.os,h.W.tape,h.W.output,by simpa using h.W.size,fun b' hb' hw=>?_⟩,fun t=>(h.hx t).mono (fun b hb=>⟨hb,hR b hb⟩) (fun _ _ h=>h),h.ρp,h.ob,⟨cur',el,setRow_heap w b cur cur' el (0,0) hb,by rw [hcs];exact hcs0,hc⟩,hrows,⟨hlen,h.len.2⟩,h.lim,h.pn⟩
 ·exact ⟨by simpa using (h.W.R b' hb').1,(h.W.R b' hb').2⟩
 ·exact ⟨by simpa using (h.W.o b' L hb').1,(h.W.o b' L hb').2⟩
 rw [setRow_other w b b' cur' (fun e=>?_)]
 ·exact h.W.keep b' hb' hw
 subst e;rcases (h.W.o b' _ h.ob).2 with q|q
 ·omega
 exact hw q
end
end
section
attribute [local simp] Qd QD Qq
def IsOp (ops:Array Oper) (i:Nat) (op:Op) (d:Option Nat):Prop:=∃ o,ops[i]? = some o∧o.op=op∧o.dst=d∧o.guard=none
section
variable {P:Program}
theorem IsOp.val {ops:Array Oper} {i:Nat} {op:Op} {d:Option Nat} (h:IsOp ops i op d) {K:Act→World→Prop} {a:Act} {w w':World} {x:Value}
  (hr:∀ o:Oper,o.op=op→(execOp a.eval o).run P w = .ok (.value x) w') (hk:K (a.put d x) w'):Go.Vc.wpOp P ops i K a w:=by
 obtain ⟨o,h1,h2,h3,h4⟩:=h;subst h3;exact Q5m h1 (by simp [Region.wanted,h4]) (hr o h2) hk
theorem IsOp.move {ops:Array Oper} {i t:Nat} {d:Option Nat} (h:IsOp ops i (.move (.tmp t)) d) {K:Act→World→Prop} {a:Act} {w:World} (hk:K (a.put d (a.tmps.getD t undef)) w):Go.Vc.wpOp P ops i K a w :=
 h.val (fun o ho=>by unfold execOp;rw [ho];rfl) hk
theorem IsOp.assign {ops:Array Oper} {i t:Nat} {d:Option Nat} (h:IsOp ops i (.assign (.tmp t)) d) {K:Act→World→Prop} {a:Act} {w:World} (hk:K (a.put d (a.tmps.getD t undef)) w):Go.Vc.wpOp P ops i K a w :=
 h.val (fun o ho=>by unfold execOp;rw [ho];rfl) hk
theorem IsOp.slice {ops:Array Oper} {i x:Nat} {d:Option Nat} {t et:TypeId} {lo hi:Option Operand} (h:IsOp ops i (.slice t (.tmp x) lo hi none) d) {K:Act→World→Prop} {a:Act} {w:World} (ht:elm P t=some et) {ty:Tyi} (hty:tyi P et=some ty)
  {ad:Option Addr} {m c l r:Nat} (hx:a.tmps.getD x undef = .slice ad m c) (hb:(Instr.sliceBounds true m c (lo.map a.eval) (hi.map a.eval) none).run P w = .ok (l,r,c) w)
  (hk:K (a.put d (.slice (if c=l then ad else ad.map (·.add (l * ty.sz))) (r - l) (c - l))) w):Go.Vc.wpOp P ops i K a w:=by
 have hu:=Q1i ht;obtain ⟨inf,d0,z,h1,h2,h3,h4,_⟩:=Q18 hty;have hv:a.eval (.tmp x) = .slice ad m c:=hx;have h4':ty.sz=inf.size:=by rw [h4]
 rw [h4'] at hk;refine h.val (fun o ho=>?_) hk;simp [execOp,ho,hv,Instr.sliceAt,run_underlying hu,Instr.slice,hb,sizeOf,typeInfo,h1]
theorem run_len {t et:TypeId} (ht:elm P t=some et) {ad:Option Addr} {m c:Nat} {w:World} {y:TypeId}:(Builtin.len_ #[t] y #[.slice ad m c]).run P w = .ok (.int .i64 m) w:=by
 simp [Builtin.len_,run_underlying (Q1i ht),Builtin.lenOf];rfl
theorem IsOp.len {ops:Array Oper} {i x:Nat} {d:Option Nat} {t et:TypeId} (h:IsOp ops i (.call ⟨.builtin .len,#[.tmp x],#[t]⟩) d) {K:Act→World→Prop} {a:Act} {w:World} (ht:elm P t=some et) {ad:Option Addr} {m c:Nat}
  (hx:a.tmps.getD x undef = .slice ad m c) (hk:K (a.put d (.int .i64 m)) w):Go.Vc.wpOp P ops i K a w:=by
 have hv:a.eval (.tmp x) = .slice ad m c:=hx;refine h.val (fun o ho=>?_) hk;simp [execOp,ho,resolve,invoke,builtin,hv,run_len ht]
theorem Q79 {w:World} {t ty et:TypeId} {inf:TypeInfo} {z:Value} (ht:P.underlying t=some (.slice et)) (hi:P.info? et=some inf) (hz:inf.zero=some z)
  {b m cap:Nat} {cur:Array Value} {el:TypeId} (hb:w.heap[b]? = some (.cells cur el (0,0))) (hs:cap * inf.size≤cur.size) {ad:Option Addr} {nn cx:Nat} {news:List Value} (hnl:news.length=nn * inf.size) (hpos:0<inf.size)
  (hnews:∀ q u,news[q]? = some u→∃ b x,ad=some ⟨b,x,none⟩∧w.cell? ⟨b,x+q,none⟩=some u) (h1:∀ u∈news,one u) (hroom:m+nn≤cap) :
  ∃ cur',(Builtin.append_ #[t,t] ty #[.slice (some ⟨b,0,none⟩) m cap,.slice ad nn cx]).run P w = .ok (.slice (some ⟨b,0,none⟩) (m+nn) cap) (w.setRow b cur')∧cur'.size=cur.size ∧
   (∀ q,q<m * inf.size→cur'[q]? = cur[q]?)∧(∀ q,q<nn * inf.size→cur'[m * inf.size+q]? = news[q]?):=by
 by_cases h0:nn=0
 ·subst h0;have hn:news=[]:=List.eq_nil_of_length_eq_zero (by simpa using hnl);subst hn;have hf:∀ w1,(Builtin.firstCells inf.size 0 (.slice ad 0 cx)).run P w1 = .ok #[] w1:=by
   intro w1;cases ad with
   | none=>simp [Builtin.firstCells]
   | some a=>simp [Builtin.firstCells,loadCells,loadCellsFrom]
  refine ⟨cur,?_,rfl,fun _ _=>rfl,fun q hq=>by simp at hq⟩;rw [setRow_self w b cur el (0,0) hb];have hm:m≤cap:=by omega
  simp [Builtin.append_,run_underlying ht,sizeOf,typeInfo,hi,Builtin.lenOf,hf,hm,storeCells]
 have hnp:0<nn * inf.size:=Nat.mul_pos (by omega) hpos;obtain ⟨xb,x0,had,_⟩:=hnews 0 _ (qF (show 0<news.length by omega));subst had;have hcells:∀ q u,news[q]? = some u→w.cell? ((⟨xb,x0,none⟩:Addr).add q)=some u:=by
  intro q u hq;obtain ⟨b',x',h2,h3⟩:=hnews q u hq;simp only [qA,Addr.mk.injEq] at h2;obtain ⟨rfl,rfl,_⟩:=h2;rw [Q1e];exact h3
 have hfit:m * inf.size+news.length≤cur.size:=by rw [hnl,← qP];exact qN (qI _ hroom) hs
 have hf:=run_firstCells_some (P:=P) w inf.size nn ⟨xb,x0,none⟩ nn cx news hnl hcells;have hst:=run_storeCells_at P b (m * inf.size) el news 0 cur w hb (by simpa using hfit) h1;simp only [Nat.add_zero] at hst;refine ⟨(cur.toList.take (m * inf.size)++news++cur.toList.drop (m * inf.size+news.length)).toArray,?_,?_,fun q hq=>?_,fun q hq=>?_⟩
 ·simp [Builtin.append_,run_underlying ht,sizeOf,typeInfo,hi,Builtin.lenOf,hroom,hf,Q1e,hst]
 ·simp;omega
 ·simp only [List.getElem?_toArray,List.append_assoc];rw [qH (by simp;omega),qO,if_pos hq];simp
 have hl:(cur.toList.take (m * inf.size)).length=m * inf.size:=by simp;omega
 simp only [List.getElem?_toArray,List.append_assoc];rw [List.getElem?_append_right (by omega),hl,qH (by omega)]
 congr 1;omega
theorem run_clear {w:World} {t ty et:TypeId} {inf:TypeInfo} {z:Value} (ht:P.underlying t=some (.slice et)) (hi:P.info? et=some inf) (hz:inf.zero=some z) (hzs:z.cells.size=inf.size) (hz1:∀ v∈z.cells.toList,one v)
  {b x n c:Nat} {cur:Array Value} {el:TypeId} (hb:w.heap[b]? = some (.cells cur el (0,0))) (hs:x+n * inf.size≤cur.size) :
  ∃ cur',(Builtin.clear_ #[t] ty #[.slice (some ⟨b,x,none⟩) n c]).run P w = .ok (.tuple #[]) (w.setRow b cur')∧cur'.size=cur.size∧∀ q,q<x→cur'[q]? = cur[q]?:=by
 by_cases h0:n=0
 ·subst h0;refine ⟨cur,?_,rfl,fun _ _=>rfl⟩;rw [setRow_self w b cur el (0,0) hb];simp [Builtin.clear_,run_underlying ht]
 have hzl:(Builtin.zeroCells z.cells n).size=n * inf.size:=by rw [size_zeroCells,hzs]
 have hone:∀ v∈(Builtin.zeroCells z.cells n).toList,v.oneCell'=true:=by
  intro v hv;simp only [Builtin.zeroCells,Array.toList_map,List.mem_map] at hv;obtain ⟨i,hi',rfl⟩:=hv;have hi2:i<n * z.cells.size:=by simpa using hi'
  have hp:0<z.cells.size:=by
   rcases Nat.eq_zero_or_pos z.cells.size with q|q
   ·rw [q] at hi2;simp at hi2
   exact q
  have hlt:=Nat.mod_lt i hp;have:z.cells[i % z.cells.size]!∈z.cells.toList:=by
   rw [getElem!_pos z.cells _ hlt];exact Array.mem_toList_iff.2 (Array.getElem_mem hlt)
  exact hz1 _ this
 have hst:=run_storeCells_at P b x el (Builtin.zeroCells z.cells n).toList 0 cur w hb (by simpa [hzl] using hs) hone;simp only [Nat.add_zero,Array.length_toList,hzl] at hst;have hne:∀ k,n=k+1→True:=fun _ _=>trivial;obtain ⟨k,rfl⟩:∃ k,n=k+1:=⟨n - 1,by omega⟩;refine ⟨_,?_,Q4m cur x (Builtin.zeroCells z.cells (k+1)) (by omega),fun q hq=>?_⟩
 ·rw [hzl];simp [Builtin.clear_,run_underlying ht,zeroValue,typeInfo,hi,hz,hst]
 rw [Q3C cur x (Builtin.zeroCells z.cells (k+1)) (by omega),if_neg (by omega)]
theorem IsOp.clear {ops:Array Oper} {i x:Nat} {d:Option Nat} {t et:TypeId} (h:IsOp ops i (.call ⟨.builtin .clear,#[.tmp x],#[t]⟩) d) {K:Act→World→Prop} {a:Act} {w:World} (ht:elm P t=some et) {ty:Tyi} (hty:tyi P et=some ty)
  {b xo n c:Nat} {cur:Array Value} {el:TypeId} (hx:a.tmps.getD x undef = .slice (some ⟨b,xo,none⟩) n c) (hb:w.heap[b]? = some (.cells cur el (0,0))) (hs:xo+n * ty.sz≤cur.size)
  (hk:∀ cur':Array Value,cur'.size=cur.size→(∀ q,q<xo→cur'[q]? = cur[q]?)→K (a.put d (.tuple #[])) (w.setRow b cur')):Go.Vc.wpOp P ops i K a w:=by
 have hu:=Q1i ht;obtain ⟨inf,d0,z,h1,h2,h3,h4,h5,h6,_⟩:=Q18 hty;have hv:a.eval (.tmp x) = .slice (some ⟨b,xo,none⟩) n c:=hx;have h4':ty.sz=inf.size:=by rw [h4]
 obtain ⟨cur',e1,e2,e3⟩:=run_clear (P:=P) (ty:=0) hu h1 h3 h6 (fun v hv=>Q2O (h5 v hv)) (c:=c) hb (by rw [← h4'];exact hs);have e1':∀ ty:TypeId,(Builtin.clear_ #[t] ty #[.slice (some ⟨b,xo,none⟩) n c]).run P w = .ok (.tuple #[]) (w.setRow b cur'):=fun ty=>e1;refine h.val (fun o ho=>?_) (hk cur' e2 e3);simp [execOp,ho,resolve,invoke,builtin,hv,e1']
theorem IsOp.append {ops:Array Oper} {i x y:Nat} {d:Option Nat} {t et:TypeId} (h:IsOp ops i (.call ⟨.builtin .append,#[.tmp x,.tmp y],#[t,t]⟩) d) {K:Act→World→Prop} {a:Act} {w:World} (ht:elm P t=some et) {ty:Tyi} (hty:tyi P et=some ty) (hpos:0<ty.sz)
  {b m cap:Nat} {cur:Array Value} {el:TypeId} (hx:a.tmps.getD x undef = .slice (some ⟨b,0,none⟩) m cap) (hb:w.heap[b]? = some (.cells cur el (0,0))) (hs:cap * ty.sz≤cur.size) {ad:Option Addr} {nn cx:Nat} (hy:a.tmps.getD y undef = .slice ad nn cx)
  {news:List Value} (hnl:news.length=nn * ty.sz) (hnews:∀ q u,news[q]? = some u→∃ b x,ad=some ⟨b,x,none⟩∧w.cell? ⟨b,x+q,none⟩=some u) (h1:∀ u∈news,one u) (hroom:m+nn≤cap)
  (hk:∀ cur':Array Value,cur'.size=cur.size→(∀ q,q<m * ty.sz→cur'[q]? = cur[q]?)→(∀ q,q<nn * ty.sz→cur'[m * ty.sz+q]? = news[q]?)→K (a.put d (.slice (some ⟨b,0,none⟩) (m+nn) cap)) (w.setRow b cur')):Go.Vc.wpOp P ops i K a w:=by
 have hu:=Q1i ht;obtain ⟨inf,d0,z,g1,g2,g3,g4,g5,g6,_⟩:=Q18 hty;have hv:a.eval (.tmp x) = .slice (some ⟨b,0,none⟩) m cap:=hx;have hv2:a.eval (.tmp y) = .slice ad nn cx:=hy;have h4':ty.sz=inf.size:=by rw [g4]
 rw [h4'] at hs hnl hk hpos;obtain ⟨o,q1,q2,q3,q4⟩:=h;obtain ⟨cur',e1,e2,e3,e4⟩:=Q79 (P:=P) (ty:=o.type) hu g1 g3 hb hs (cx:=cx) hnl hpos hnews h1 hroom;subst q3;refine Q5m q1 (by simp [Region.wanted,q4]) ?_ (hk cur' e2 e3 e4);simp [execOp,q2,resolve,invoke,builtin,hv,hv2,e1]
end
end
section
attribute [local simp] Qd QD Qq
structure DelOps (ops5 ops6:Array Oper) (t:TypeId):Prop where
 n5:ops5.size=8
 back:Q1G ops5=true
 msk:Q2C ops5.toList []=[0,0,3,0,0,24,63,127]
 p0:IsOp ops5 0 (.move (.tmp 0)) (some 20)
 p1:IsOp ops5 1 (.move (.tmp 1)) (some 21)
 p2:IsOp ops5 2 (.slice t (.tmp 20) none (some (.tmp 21)) none) (some 22)
 p3:IsOp ops5 3 (.move (.tmp 0)) (some 23)
 p4:IsOp ops5 4 (.move (.tmp 2)) (some 24)
 p5:IsOp ops5 5 (.slice t (.tmp 23) (some (.tmp 24)) none none) (some 25)
 p6:IsOp ops5 6 (.call ⟨.builtin .append,#[.tmp 22,.tmp 25],#[t,t]⟩) (some 26)
 p7:IsOp ops5 7 (.assign (.tmp 26)) (some 0)
 n6:ops6.size=6
 q0:IsOp ops6 0 (.move (.tmp 0)) (some 27)
 q1:IsOp ops6 1 (.move (.tmp 0)) (some 28)
 q2:IsOp ops6 2 (.call ⟨.builtin .len,#[.tmp 28],#[t]⟩) (some 29)
 q3:IsOp ops6 3 (.move (.tmp 7)) (some 30)
 q4:IsOp ops6 4 (.slice t (.tmp 27) (some (.tmp 29)) (some (.tmp 30)) none) (some 31)
 q5:IsOp ops6 5 (.call ⟨.builtin .clear,#[.tmp 31],#[t]⟩) none
structure DC where
 C:Ctx
 R:Nat→Prop
 N:Nat
 p:Nat
 n:Nat
 sz:Nat
 b:Nat
 cap:Nat
 o:Nat→Option (List Nat)
 ρ:Nat→Option Bk
 es:List (List AV)
 i:Nat
 j:Nat
 c:Nat
def DC.m (D:DC):Nat:=D.es.length
def DC.es' (D:DC):List (List AV):=D.es.take D.i++D.es.drop D.j
def DC.m' (D:DC):Nat:=D.i+(D.m - D.j)
def DC.V (D:DC) (k:Nat):Value:=.slice (some ⟨D.b,0,none⟩) k D.c
def DC.ints (D:DC):List (Nat × AV):=[(1,.val (.int .i64 D.i)),(2,.val (.int .i64 D.j)),(7,.val (.int .i64 D.m))]
def DC.A (D:DC):List (Nat × AV):=(0,.own D.p 0 D.m) :: D.ints
def DC.Cc (D:DC):List (Nat × AV):=(0,.own D.p 0 D.m') :: D.ints
def DC.Dr (D:DC) (s:List (Nat × AV)) (es:List (List AV)) (a:Act) (w:World):Prop:=DR D.C D.R D.N D.p D.n D.sz D.b D.cap D.o D.ρ s es a w
def DC.EV (D:DC) (k:Nat) (v:Value):Prop:=match k with
 | 0=>v=D.V D.m
 | 1=>v = .int .i64 D.i
 | 2=>v=D.V D.i
 | 3=>v=D.V D.m
 | 4=>v = .int .i64 D.j
 | 5=>∃ ad cx,v = .slice ad (D.m - D.j) cx∧(D.m - D.j ≠ 0→ad=some ⟨D.b,D.j * D.sz,none⟩)
 | 6=>v=D.V D.m'
 | _=>True
structure DC.ok (D:DC):Prop where
 ij:D.i<D.j
 jm:D.j≤D.m
 mc:D.m≤D.c
 cc:D.c≤D.cap
 N:32≤D.N
 sz:0<D.sz
theorem DC.es'_len (D:DC) (h:D.ok):D.es'.length=D.m':=by
 have h1:=h.ij;have h2:=h.jm;simp only [DC.es',DC.m',DC.m,List.length_append,List.length_take,List.length_drop] at *;omega
theorem DC.es'_get (D:DC) (h:D.ok) {x:Nat} (hx:x<D.m'):D.es'.getD x []=D.es.getD (if x<D.i then x else x - D.i+D.j) []:=by
 have h1:=h.ij;have h2:=h.jm;simp only [DC.es',DC.m',DC.m] at *;rw [qB,qB]
 congr 1
 split
 ·rw [qH (by simp;omega),qO,if_pos (by assumption)]
 rw [List.getElem?_append_right (by simp;omega),qT]
 congr 1
 simp;omega
theorem mul_lt {x k n sz:Nat} (hx:x<n) (hk:k<sz):x * sz+k<n * sz:=by
 have:=qI sz (show x+1≤n by omega);rw [qP,Nat.one_mul] at this;omega
structure DI (D:DC) (L:Nat→Bool) (a:Act) (w:World):Prop where
 drA:L 6=false→D.Dr D.A D.es a w
 drB:L 6=true→L 7=false→D.Dr D.ints D.es' a w
 drC:L 7=true→D.Dr D.Cc D.es' a w
 e0:L 7=false→a.tmps.getD 0 undef=D.V D.m
 e7:L 7=true→a.tmps.getD 0 undef=D.V D.m'
 ev:∀ k,k<7→L k=true→D.EV k (a.tmps.getD (20+k) undef)
theorem pgD {a:Act} {N d t:Nat} {v:Value} (hs:a.tmps.size=N) (hd:d<N):(a.put (some d) v).tmps.getD t undef=if d=t then v else a.tmps.getD t undef:=by
 rw [put_get a (some d) v t (fun x hx=>by cases hx;rw [hs];exact hd)]
 by_cases h:d=t
 ·subst h;simp
 rw [if_neg h,if_neg (fun q=>h (Option.some.inj q))]
theorem DI.put {D:DC} (hD:D.ok) {L:Nat→Bool} {a:Act} {w:World} (h:DI D L a w) {k:Nat} (hk:k<6) (h6:L 6=false) (h7:L 7=false) {v:Value} (hv:D.EV k v):DI D (upL L k) (a.put (some (20+k)) v) w:=by
 have hA:=h.drA h6;have hN:=hD.N;have u:∀ x,x ≠ k→upL L k x=L x:=fun x hx=>by simp [upL,hx]
 have u6:=u 6 (by omega);have u7:=u 7 (by omega);have pg:∀ t,(a.put (some (20+k)) v).tmps.getD t undef=if 20+k=t then v else a.tmps.getD t undef:=fun t=>pgD hA.size (by omega);refine ⟨fun _=>hA.putB (by omega) ?_,fun q=>?_,fun q=>?_,fun _=>?_,fun q=>?_,fun x hx q=>?_⟩
 ·simp only [DC.A,DC.ints,look];rw [if_neg (by omega),if_neg (by omega),if_neg (by omega),if_neg (by omega)]
 ·rw [u6,h6] at q;cases q
 ·rw [u7,h7] at q;cases q
 ·rw [pg,if_neg (by omega)];exact h.e0 h7
 ·rw [u7,h7] at q;cases q
 rw [pg]
 by_cases e:x=k
 ·subst e;rw [if_pos rfl];exact hv
 rw [if_neg (by omega)];rw [u x e] at q;exact h.ev x hx q
section
variable {P:Program}
theorem boundsHi {a:Act} {w:World} {x m c r:Nat} (hx:a.tmps.getD x undef = .int .i64 r) (hr:r≤c):(Instr.sliceBounds true m c ((none:Option Operand).map a.eval) ((some (.tmp x):Option Operand).map a.eval) none).run P w = .ok (0,r,c) w:=by
 have hv:a.eval (.tmp x) = .int .i64 r:=hx;simp [Instr.sliceBounds,Q1f hv (show (0:Int)≤r by omega) (show (r:Int)≤(c:Nat) by omega)]
theorem boundsLo {a:Act} {w:World} {x m c l:Nat} (hx:a.tmps.getD x undef = .int .i64 l) (hr:l≤m):(Instr.sliceBounds true m c ((some (.tmp x):Option Operand).map a.eval) ((none:Option Operand).map a.eval) none).run P w = .ok (l,m,c) w:=by
 have hv:a.eval (.tmp x) = .int .i64 l:=hx;simp [Instr.sliceBounds,Q1f hv (show (0:Int)≤l by omega) (show (l:Int)≤(m:Nat) by omega)]
theorem boundsLH {a:Act} {w:World} {x y m c l r:Nat} (hx:a.tmps.getD x undef = .int .i64 l) (hy:a.tmps.getD y undef = .int .i64 r) (hl:l≤r) (hr:r≤c):(Instr.sliceBounds true m c ((some (.tmp x):Option Operand).map a.eval) ((some (.tmp y):Option Operand).map a.eval) none).run P w = .ok (l,r,c) w:=by
 have hv:a.eval (.tmp x) = .int .i64 l:=hx;have hv2:a.eval (.tmp y) = .int .i64 r:=hy;simp [Instr.sliceBounds,Q1f hv2 (show (0:Int)≤r by omega) (show (r:Int)≤(c:Nat) by omega),Q1f hv (show (0:Int)≤l by omega) (show (l:Int)≤(r:Nat) by omega)]
theorem Q8h {D:DC} {s:List (Nat × AV)} {es:List (List AV)} {a:Act} {w:World} (h:D.Dr s es a w) {t:Nat} {v:Value} (hs:look t s=some (.val v)):a.tmps.getD t undef=v:=by
 have:=h.hx t;rw [hs] at this;exact this.val_eq.1
theorem del5 {D:DC} (hD:D.ok) {ops5 ops6:Array Oper} {t et:TypeId} {ty:Tyi} (ho:DelOps ops5 ops6 t) (ht:elm P t=some et) (hty:tyi P et=some ty) (hsz:ty.sz=D.sz) (hm:P.follows .mixedOrders=true) {id:Nat} {Q:Exit→Act→World→Prop} {a:Act} {w:World}
  (h:D.Dr D.A D.es a w) (h0:a.tmps.getD 0 undef=D.V D.m) (hQ:∀ a' w',D.Dr D.Cc D.es' a' w'→a'.tmps.getD 0 undef=D.V D.m'→Q .normal a' w'):(Code.region id ops5 true).wpT P Q a w:=by
 have hN:=hD.N;have hij:=hD.ij;have hjm:=hD.jm;have hmc:=hD.mc;have hcc:=hD.cc;have hsp:=hD.sz;refine Qan (DI D) ho.back hm (fun w₁ r L hL=>?_) (fun L L' hL a w hi=>?_) (fun L i a w w₁ hi hL hanc hdes hI r=>?_) fun L a' w' hL hI=>?_
 ·rw [ho.n5] at hL;exact ⟨fun _=>(h.rly r).drew,(fun q=>by rw [hL 6 (by omega)] at q;cases q),(fun q=>by rw [hL 7 (by omega)] at q;cases q),fun _=>h0,(fun q=>by rw [hL 7 (by omega)] at q;cases q),fun k hk q=>by rw [hL k (by omega)] at q;cases q⟩
 ·have:L=L':=funext hL;rw [← this];exact hi
 rotate_left
 ·rw [ho.n5] at hL;exact hQ _ _ (hI.drC (hL 7 (by omega))) (hI.e7 (hL 7 (by omega)))
 rw [ho.n5] at hi;rw [ho.msk] at hanc;simp only [ho.msk] at hdes;have hI1:DI D L a w₁:=⟨fun q=>(hI.drA q).rly r,fun q q2=>(hI.drB q q2).rly r,fun q=>(hI.drC q).rly r,hI.e0,hI.e7,hI.ev⟩;have h7:i<7→L 7=false:=fun q=>by
  cases e:L 7 with
  | false=>rfl
  | true =>
   have:=hdes 7 e;exfalso;have hh:∀ i,i<7→Nat.testBit 127 i=true:=(by decide);have:=this.symm.trans (hh i q);cases this
 have h6:i<6→L 6=false:=fun q=>by
  cases e:L 6 with
  | false=>rfl
  | true =>
   have:=hdes 6 e;exfalso;have hh:∀ i,i<6→Nat.testBit 63 i=true:=(by decide);have:=this.symm.trans (hh i q);cases this
 have hrb:D.V D.i = .slice (some ⟨D.b,0,none⟩) D.i D.c:=rfl;rcases (show i=0∨i=1∨i=2∨i=3∨i=4∨i=5∨i=6∨i=7 by omega) with rfl|rfl|rfl|rfl|rfl|rfl|rfl|rfl
 ·refine ho.p0.move ?_;exact hI1.put hD (k:=0) (by omega) (h6 (by omega)) (h7 (by omega)) (hI1.e0 (h7 (by omega)))
 ·refine ho.p1.move ?_;exact hI1.put hD (k:=1) (by omega) (h6 (by omega)) (h7 (by omega)) (Q8h (hI1.drA (h6 (by omega))) rfl)
 ·have e0:a.tmps.getD 20 undef=D.V D.m:=hI1.ev 0 (by omega) (hanc 0 (by decide));have e1:a.tmps.getD 21 undef = .int .i64 D.i:=hI1.ev 1 (by omega) (hanc 1 (by decide));refine ho.p2.slice ht hty e0 (boundsHi e1 (by omega)) ?_;refine hI1.put hD (k:=2) (by omega) (h6 (by omega)) (h7 (by omega)) ?_;show _=D.V D.i;simp only [Nat.zero_mul,Nat.sub_zero,qU,Q1e,DC.V];split<;>rfl
 ·refine ho.p3.move ?_;exact hI1.put hD (k:=3) (by omega) (h6 (by omega)) (h7 (by omega)) (hI1.e0 (h7 (by omega)))
 ·refine ho.p4.move ?_;exact hI1.put hD (k:=4) (by omega) (h6 (by omega)) (h7 (by omega)) (Q8h (hI1.drA (h6 (by omega))) rfl)
 ·have e0:a.tmps.getD 23 undef=D.V D.m:=hI1.ev 3 (by omega) (hanc 3 (by decide));have e1:a.tmps.getD 24 undef = .int .i64 D.j:=hI1.ev 4 (by omega) (hanc 4 (by decide));refine ho.p5.slice ht hty e0 (boundsLo e1 (by omega)) ?_;refine hI1.put hD (k:=5) (by omega) (h6 (by omega)) (h7 (by omega)) ?_;refine ⟨_,_,rfl,fun q=>?_⟩;rw [if_neg (by omega)];simp only [qU,Q1e,Nat.zero_add,hsz]
 ·have e2:a.tmps.getD 22 undef=D.V D.i:=hI1.ev 2 (by omega) (hanc 2 (by decide));obtain ⟨ad,cx,e5,e6⟩:D.EV 5 (a.tmps.getD 25 undef):=hI1.ev 5 (by omega) (hanc 5 (by decide));have dA:=hI1.drA hL;obtain ⟨cur,el,hb,hcs,hc⟩:=dA.cells;have hmc':D.c * ty.sz≤cur.size:=by rw [hsz];exact qN (qI _ hcc) hcs
  let news:List Value:=(zD ((D.m - D.j) * D.sz)).map fun q=>cur.getD (D.j * D.sz+q) undef
  have hmm:(D.m - D.j) * D.sz+D.j * D.sz=D.m * D.sz:=by rw [← qP];congr 1;omega
  have hall:∀ q,q<D.m * D.sz→∃ u,cur[q]? = some u∧sc u∧(D.es.getD (q / D.sz) []).getD (q % D.sz) .bot = .val u:=by
   intro q hq;have q1:q / D.sz<D.es.length:=Nat.div_lt_of_lt_mul (by rw [Nat.mul_comm];exact hq);have q2:=Nat.mod_lt q hsp;obtain ⟨u,u1,u2,u3⟩:=hc _ _ q1 q2;have q3:q / D.sz * D.sz+q % D.sz=q:=by
    have:=Nat.div_add_mod q D.sz;rw [Nat.mul_comm] at this;exact this
   rw [q3] at u1;exact ⟨u,u1,u2,u3⟩
  have hnl:news.length=(D.m - D.j) * ty.sz:=by simp [news,hsz]
  have hng:∀ q,q<(D.m - D.j) * D.sz→∃ u,news[q]? = some u∧cur[D.j * D.sz+q]? = some u∧sc u:=by
   intro q hq;obtain ⟨u,u1,u2,_⟩:=hall (D.j * D.sz+q) (by omega);exact ⟨u,by simp [news,hq,u1],u1,u2⟩
  refine ho.p6.append ht hty (by rw [hsz];exact hsp) (e2.trans hrb) hb hmc' e5 hnl (fun q u hq=>?_) (fun u hu=>?_) (by omega) fun cur' c1 c2 c3=>?_
  ·have hlt:q<(D.m - D.j) * D.sz:=by
    rcases zA q news.length with h'|h'
    ·rw [hnl,hsz] at h';exact h'
    rw [List.getElem?_eq_none h'] at hq;cases hq
   obtain ⟨u',u1,u2,_⟩:=hng q hlt;rw [hq] at u1;cases u1;refine ⟨D.b,D.j * D.sz,e6 (fun z=>by rw [z] at hlt;simp at hlt),?_⟩;simp only [World.cell?,hb];simpa using u2
  ·obtain ⟨q,hq,rfl⟩:=List.mem_iff_getElem.1 hu;obtain ⟨u',u1,_,u2⟩:=hng q (by rw [hnl,hsz] at hq;exact hq);rw [qF hq] at u1;cases u1;exact Q2O u2
  have hdr:D.Dr D.ints D.es' a (w₁.setRow D.b cur'):=by
   refine (DR.forget dA (s':=D.ints) fun t=>?_).setRow hb c1 (by rw [D.es'_len hD];simp only [DC.m'];have:=dA.len.1;simp only [DC.m] at *;omega) (fun i hi=>?_) fun i k hi hk=>?_
   ·simp only [DC.A,look]
    by_cases q:0=t
    ·subst q;right;rfl
    left;rw [if_neg q]
   ·rw [D.es'_len hD] at hi;rw [D.es'_get hD hi];have h1:=hij;have h2:=hjm;refine dA.rows _ ?_;simp only [DC.m',DC.m] at *;split<;>omega
   rw [D.es'_len hD] at hi;rw [D.es'_get hD hi];split
   ·rename_i hxi;obtain ⟨u,u1,u2,u3⟩:=hc i k (by simp only [DC.m] at *;omega) hk;refine ⟨u,?_,u2,u3⟩;rw [c2 _ (by rw [hsz];exact mul_lt hxi hk)];exact u1
   rename_i hxi;have hlt:(i - D.i) * D.sz+k<(D.m - D.j) * D.sz:=mul_lt (by simp only [DC.m'] at hi;omega) hk;obtain ⟨u,u1,u2,u3⟩:=hng _ hlt;obtain ⟨u',v1,v2,v3⟩:=hc (i - D.i+D.j) k (by simp only [DC.m',DC.m] at *;omega) hk;have e1:(i - D.i+D.j) * D.sz+k=D.j * D.sz+((i - D.i) * D.sz+k):=(by rw [qP];omega);rw [e1,u2] at v1;cases v1;refine ⟨u,?_,u3,v3⟩;have e2:i * D.sz+k=D.i * ty.sz+((i - D.i) * D.sz+k):=by
    rw [hsz,← Nat.add_assoc,← qP]
    congr 2;omega
   rw [e2,c3 _ (by rw [hsz];exact hlt)];exact u1
  have u:∀ x,x ≠ 6→upL L 6 x=L x:=fun x hx=>by simp [upL,hx]
  have hL7:=h7 (by omega);have pg:∀ t,(a.put (some 26) (.slice (some ⟨D.b,0,none⟩) (D.i+(D.m - D.j)) D.c)).tmps.getD t undef=if 26=t then (.slice (some ⟨D.b,0,none⟩) (D.i+(D.m - D.j)) D.c) else a.tmps.getD t undef:=fun t=>pgD dA.size (by omega);refine ⟨fun q=>by simp [upL] at q,fun _ _=>hdr.putB (by omega) rfl,fun q=>?_,fun _=>?_,fun q=>?_,fun x hx q=>?_⟩
  ·rw [u 7 (by omega),hL7] at q;cases q
  ·rw [pg,if_neg (by omega)];exact hI1.e0 hL7
  ·rw [u 7 (by omega),hL7] at q;cases q
  rw [pg]
  by_cases e:x=6
  ·subst e;rw [if_pos rfl];rfl
  rw [if_neg (by omega)];rw [u x e] at q;exact hI1.ev x hx q
 have e6:a.tmps.getD 26 undef=D.V D.m':=hI1.ev 6 (by omega) (hanc 6 (by decide));refine ho.p7.assign ?_;rw [e6];have dB:=hI1.drB (hanc 6 (by decide)) hL;have pg:∀ t,(a.put (some 0) (D.V D.m')).tmps.getD t undef=if 0=t then D.V D.m' else a.tmps.getD t undef:=fun t=>pgD dB.size (by omega);have l6:L 6=true:=hanc 6 (by decide);refine ⟨fun q=>?_,fun _ q=>by simp [upL] at q,fun _=>?_,fun q=>by simp [upL] at q,fun _=>?_,fun x hx q=>?_⟩
 ·have:upL L 7 6=L 6:=by simp [upL]
  rw [this,l6] at q;cases q
 ·refine dB.put (by omega) (fun t ht=>?_) ?_
  ·simp only [DC.Cc,look];rw [if_neg (fun e=>ht e.symm)]
  have hl:=dB.len;rw [D.es'_len hD] at hl;simp only [DC.Cc,look,if_true,qZ,DC.V];exact .own (off:=0) dB.ρp (by omega) (by simp only [DC.m'];omega) (fun _=>by simp) (fun _=>rfl) hl.2
 ·rw [pg,if_pos rfl]
 rw [pg,if_neg (by omega)];have:upL L 7 x=L x:=by simp [upL];omega
 rw [this] at q;exact hI1.ev x hx q
theorem del6 {D:DC} (hD:D.ok) {ops5 ops6:Array Oper} {t et:TypeId} {ty:Tyi} (ho:DelOps ops5 ops6 t) (ht:elm P t=some et) (hty:tyi P et=some ty) (hsz:ty.sz=D.sz) {id:Nat} {Q:Exit→Act→World→Prop} {a:Act} {w:World}
  (h:D.Dr D.Cc D.es' a w) (h0:a.tmps.getD 0 undef=D.V D.m') (hQ:∀ a' w',D.Dr D.Cc D.es' a' w'→Q .normal a' w'):(Code.region id ops6 false).wpT P Q a w:=by
 have hN:=hD.N;have hij:=hD.ij;have hjm:=hD.jm;have hmc:=hD.mc;have hcc:=hD.cc;have hm':D.m' < D.m:=by simp only [DC.m'];omega
 have lk:∀ d,27≤d→look d D.Cc=none:=fun d hd=>by
  simp only [DC.Cc,DC.ints,look];rw [if_neg (by omega),if_neg (by omega),if_neg (by omega),if_neg (by omega)]
 refine wp_region ?_;rw [ho.n6];show OpsT P ops6 [0,1,2,3,4,5] Q a w;refine Q10 fun w₁ r₁=>ho.q0.move ?_;have d1:=(h.rly r₁).putB (d:=27) (v:=a.tmps.getD 0 undef) (by omega) (lk 27 (by omega));have g1:∀ t,(a.put (some 27) (a.tmps.getD 0 undef)).tmps.getD t undef=if 27=t then (a.tmps.getD 0 undef) else a.tmps.getD t undef:=fun t=>pgD h.size (by omega);generalize a.put (some 27) (a.tmps.getD 0 undef)=a1 at d1 g1;have v27:a1.tmps.getD 27 undef=D.V D.m':=by rw [g1];exact h0
 have v0:a1.tmps.getD 0 undef=D.V D.m':=by rw [g1];exact h0
 refine Q10 fun w₂ r₂=>ho.q1.move ?_;have d2:=(d1.rly r₂).putB (d:=28) (v:=a1.tmps.getD 0 undef) (by omega) (lk 28 (by omega));have g2:∀ t,(a1.put (some 28) (a1.tmps.getD 0 undef)).tmps.getD t undef=if 28=t then (a1.tmps.getD 0 undef) else a1.tmps.getD t undef:=fun t=>pgD d1.size (by omega);generalize a1.put (some 28) (a1.tmps.getD 0 undef)=a2 at d2 g2;have v28:a2.tmps.getD 28 undef=D.V D.m':=by rw [g2];exact v0
 have v27:a2.tmps.getD 27 undef=D.V D.m':=by rw [g2];exact v27
 refine Q10 fun w₃ r₃=>ho.q2.len ht v28 ?_;have d3:=(d2.rly r₃).putB (d:=29) (v:=.int .i64 D.m') (by omega) (lk 29 (by omega));have g3:∀ t,(a2.put (some 29) (.int .i64 D.m')).tmps.getD t undef=if 29=t then .int .i64 D.m' else a2.tmps.getD t undef:=fun t=>pgD d2.size (by omega);generalize a2.put (some 29) (.int .i64 D.m')=a3 at d3 g3;have v29:a3.tmps.getD 29 undef = .int .i64 D.m':=by rw [g3];rfl
 have v27:a3.tmps.getD 27 undef=D.V D.m':=by rw [g3];exact v27
 have v7:a3.tmps.getD 7 undef = .int .i64 D.m:=Q8h (s:=D.Cc) d3 rfl;refine Q10 fun w₄ r₄=>ho.q3.move ?_;have d4:=(d3.rly r₄).putB (d:=30) (v:=a3.tmps.getD 7 undef) (by omega) (lk 30 (by omega));have g4:∀ t,(a3.put (some 30) (a3.tmps.getD 7 undef)).tmps.getD t undef=if 30=t then (a3.tmps.getD 7 undef) else a3.tmps.getD t undef:=fun t=>pgD d3.size (by omega);generalize a3.put (some 30) (a3.tmps.getD 7 undef)=a4 at d4 g4;have v30:a4.tmps.getD 30 undef = .int .i64 D.m:=by rw [g4];exact v7
 have v29:a4.tmps.getD 29 undef = .int .i64 D.m':=by rw [g4];exact v29
 have v27:a4.tmps.getD 27 undef=D.V D.m':=by rw [g4];exact v27
 refine Q10 fun w₅ r₅=>ho.q4.slice ht hty v27 (boundsLH v29 v30 (by omega) (by omega)) ?_;rw [if_neg (by omega)];simp only [qU,Q1e,Nat.zero_add];have d5:=(d4.rly r₅).putB (d:=31) (v:=.slice (some ⟨D.b,D.m' * ty.sz,none⟩) (D.m - D.m') (D.c - D.m')) (by omega) (lk 31 (by omega));have g5:∀ t,(a4.put (some 31) (.slice (some ⟨D.b,D.m' * ty.sz,none⟩) (D.m - D.m') (D.c - D.m'))).tmps.getD t undef=if 31=t then .slice (some ⟨D.b,D.m' * ty.sz,none⟩) (D.m - D.m') (D.c - D.m') else a4.tmps.getD t undef:=fun t=>pgD d4.size (by omega);generalize a4.put (some 31) (.slice (some ⟨D.b,D.m' * ty.sz,none⟩) (D.m - D.m') (D.c - D.m'))=a5 at d5 g5;have v31:a5.tmps.getD 31 undef = .slice (some ⟨D.b,D.m' * ty.sz,none⟩) (D.m - D.m') (D.c - D.m'):=by rw [g5];rfl
 refine Q10 fun w₆ r₆=>?_;have d6:=d5.rly r₆;obtain ⟨cur,el,hb,hcs,hc⟩:=d6.cells;refine ho.q5.clear ht hty v31 hb ?_ fun cur' c1 c2=>?_
 ·rw [hsz,← qP];exact qN (qI _ (by omega)) hcs
 refine Q5g (hQ _ _ ?_);show D.Dr D.Cc D.es' a5 _;refine d6.setRow hb c1 d6.len.1 d6.rows fun i k hi hk=>?_;obtain ⟨u,u1,u2,u3⟩:=hc i k hi hk;refine ⟨u,?_,u2,u3⟩;rw [D.es'_len hD] at hi;rw [c2 _ (by rw [hsz];exact mul_lt hi hk)];exact u1
theorem w_delete {F:Fx} {AQ:Exit→St→Prop} {ops5 ops6:Array Oper} {id5 id6:Nat} {t et:TypeId} {ty:Tyi} {rest:Code} {p n i j m sz:Nat} {es:List (List AV)} {s:List (Nat × AV)} (ho:DelOps ops5 ops6 t) (ht:elm P t=some et) (hty:tyi P et=some ty) (hsz:ty.sz=sz) (hsp:0<sz)
  (hm:P.follows .mixedOrders=true) (hN:32≤F.N) (hme:m=es.length) (hv:∀ r∈es,∀ c∈r,isVal c=true) (hij:i<j) (hjm:j≤m)
  (hs:s=[(0,.own p 0 m),(1,.val (.int .i64 i)),(2,.val (.int .i64 j)),(7,.val (.int .i64 m))])
  (h:Wp P F rest AQ ⟨[(0,.own p 0 (i+(m - j))),(1,.val (.int .i64 i)),(2,.val (.int .i64 j)),(7,.val (.int .i64 m))],[(p,.row sz (es.take i++es.drop j))],n⟩) :
  Wp P F (.seq (.region id5 ops5 true) (.seq (.region id6 ops6 false) rest)) AQ ⟨s,[(p,.row sz es)],n⟩:=by
 intro a w ⟨R',hX,hr⟩;subst hme hs;obtain ⟨o,ρ,b,cap,c,hdr,hv0,hmc,hcc⟩:=DR.of hr hv (m:=es.length) rfl (by omega) (qE _)
 let D:DC:=⟨F.C,R',F.N,p,n,sz,b,cap,o,ρ,es,i,j,c⟩
 have hD:D.ok:=⟨hij,hjm,hmc,hcc,hN,hsp⟩;refine wp_seq (del5 (D:=D) hD ho ht hty hsz hm hdr hv0 fun a' w' h1 h2=>?_);refine wp_seq (del6 (D:=D) hD ho ht hty hsz h1 h2 fun a'' w'' h3=>?_);exact h a'' w'' ⟨R',hX,DR.rel h3⟩
end
end
section
attribute [local simp] Qd QD Qq
structure Sl3Ops (ops:Array Oper) (t:TypeId):Prop where
 n:ops.size=6
 p0:IsOp ops 0 (.move (.tmp 0)) (some 8)
 p1:IsOp ops 1 (.move (.tmp 1)) (some 9)
 p2:IsOp ops 2 (.move (.tmp 2)) (some 10)
 p3:IsOp ops 3 (.move (.tmp 0)) (some 11)
 p4:IsOp ops 4 (.call ⟨.builtin .len,#[.tmp 11],#[t]⟩) (some 12)
 p5:IsOp ops 5 (.slice t (.tmp 8) (some (.tmp 9)) (some (.tmp 10)) (some (.tmp 12))) (some 13)
section
variable {P:Program}
theorem IsOp.slice3 {ops:Array Oper} {i x:Nat} {d:Option Nat} {t et:TypeId} {lo hi mx:Option Operand} (h:IsOp ops i (.slice t (.tmp x) lo hi mx) d) {K:Act→World→Prop} {a:Act} {w:World} (ht:elm P t=some et) {ty:Tyi} (hty:tyi P et=some ty)
  {ad:Option Addr} {m c l r q:Nat} (hx:a.tmps.getD x undef = .slice ad m c) (hb:(Instr.sliceBounds true m c (lo.map a.eval) (hi.map a.eval) (mx.map a.eval)).run P w = .ok (l,r,q) w)
  (hk:∀ v,K (a.put d v) w):Go.Vc.wpOp P ops i K a w:=by
 have hu:=Q1i ht;obtain ⟨inf,d0,z,h1,h2,h3,h4,_⟩:=Q18 hty;have hv:a.eval (.tmp x) = .slice ad m c:=hx;refine h.val (x:=.slice (if q=l then ad else ad.map (·.add (l * inf.size))) (r - l) (q - l)) (fun o ho=>?_) (hk _);simp [execOp,ho,hv,Instr.sliceAt,run_underlying hu,Instr.slice,hb,sizeOf,typeInfo,h1]
theorem bounds3 {a:Act} {w:World} {x y z m c l r q:Nat} (hx:a.tmps.getD x undef = .int .i64 l) (hy:a.tmps.getD y undef = .int .i64 r) (hz:a.tmps.getD z undef = .int .i64 q) (hl:l≤r) (hr:r≤q) (hq:q≤c) :
  (Instr.sliceBounds true m c ((some (.tmp x):Option Operand).map a.eval) ((some (.tmp y):Option Operand).map a.eval) ((some (.tmp z):Option Operand).map a.eval)).run P w = .ok (l,r,q) w:=by
 have hv:a.eval (.tmp x) = .int .i64 l:=hx;have hv2:a.eval (.tmp y) = .int .i64 r:=hy;have hv3:a.eval (.tmp z) = .int .i64 q:=hz;simp [Instr.sliceBounds,Q1f hv3 (show (0:Int)≤q by omega) (show (q:Int)≤(c:Nat) by omega),Q1f hv2 (show (0:Int)≤r by omega) (show (r:Int)≤(q:Nat) by omega),Q1f hv (show (0:Int)≤l by omega) (show (l:Int)≤(r:Nat) by omega)]
theorem w_sl3 {F:Fx} {AQ:Exit→St→Prop} {ops:Array Oper} {id:Nat} {t et:TypeId} {ty:Tyi} {p n i j m sz:Nat} {es:List (List AV)} {s:List (Nat × AV)} (ho:Sl3Ops ops t) (ht:elm P t=some et) (hty:tyi P et=some ty)
  (hN:32≤F.N) (hme:m=es.length) (hv:∀ r∈es,∀ c∈r,isVal c=true) (hij:i<j) (hjm:j≤m)
  (hs:s=[(0,.own p 0 m),(1,.val (.int .i64 i)),(2,.val (.int .i64 j))])
  (h:AQ .normal ⟨s,[(p,.row sz es)],n⟩):Wp P F (.region id ops false) AQ ⟨s,[(p,.row sz es)],n⟩:=by
 intro a w ⟨R',hX,hr⟩;subst hme;obtain ⟨o,ρ,b,cap,c,h0,v0,hmc,hcc⟩:=DR.of hr hv (m:=es.length) (by rw [hs];rfl) (by omega) (qE _);have lk:∀ d,8≤d→look d s=none:=fun d hd=>by
  rw [hs];simp only [look];rw [if_neg (by omega),if_neg (by omega),if_neg (by omega)]
 have v1:a.tmps.getD 1 undef = .int .i64 i:=by have:=h0.hx 1;rw [hs] at this;exact this.val_eq.1
 have v2:a.tmps.getD 2 undef = .int .i64 j:=by have:=h0.hx 2;rw [hs] at this;exact this.val_eq.1
 refine wp_region ?_;rw [ho.n];show OpsT P ops [0,1,2,3,4,5] _ a w;refine Q10 fun w₁ r₁=>ho.p0.move ?_;have d1:=(h0.rly r₁).putB (d:=8) (v:=a.tmps.getD 0 undef) (by omega) (lk 8 (by omega));have g1:∀ t,(a.put (some 8) (a.tmps.getD 0 undef)).tmps.getD t undef=if 8=t then (a.tmps.getD 0 undef) else a.tmps.getD t undef:=fun t=>pgD h0.size (by omega);generalize a.put (some 8) (a.tmps.getD 0 undef)=a1 at d1 g1;have x8:a1.tmps.getD 8 undef = .slice (some ⟨b,0,none⟩) es.length c:=by rw [g1];exact v0
 have v0:a1.tmps.getD 0 undef = .slice (some ⟨b,0,none⟩) es.length c:=by rw [g1];exact v0
 have v1:a1.tmps.getD 1 undef = .int .i64 i:=by rw [g1];exact v1
 have v2:a1.tmps.getD 2 undef = .int .i64 j:=by rw [g1];exact v2
 refine Q10 fun w₂ r₂=>ho.p1.move ?_;have d2:=(d1.rly r₂).putB (d:=9) (v:=a1.tmps.getD 1 undef) (by omega) (lk 9 (by omega));have g2:∀ t,(a1.put (some 9) (a1.tmps.getD 1 undef)).tmps.getD t undef=if 9=t then (a1.tmps.getD 1 undef) else a1.tmps.getD t undef:=fun t=>pgD d1.size (by omega);generalize a1.put (some 9) (a1.tmps.getD 1 undef)=a2 at d2 g2;have x9:a2.tmps.getD 9 undef = .int .i64 i:=by rw [g2];exact v1
 have x8:a2.tmps.getD 8 undef = .slice (some ⟨b,0,none⟩) es.length c:=by rw [g2];exact x8
 have v0:a2.tmps.getD 0 undef = .slice (some ⟨b,0,none⟩) es.length c:=by rw [g2];exact v0
 have v2:a2.tmps.getD 2 undef = .int .i64 j:=by rw [g2];exact v2
 refine Q10 fun w₃ r₃=>ho.p2.move ?_;have d3:=(d2.rly r₃).putB (d:=10) (v:=a2.tmps.getD 2 undef) (by omega) (lk 10 (by omega));have g3:∀ t,(a2.put (some 10) (a2.tmps.getD 2 undef)).tmps.getD t undef=if 10=t then (a2.tmps.getD 2 undef) else a2.tmps.getD t undef:=fun t=>pgD d2.size (by omega);generalize a2.put (some 10) (a2.tmps.getD 2 undef)=a3 at d3 g3;have x10:a3.tmps.getD 10 undef = .int .i64 j:=by rw [g3];exact v2
 have x9:a3.tmps.getD 9 undef = .int .i64 i:=by rw [g3];exact x9
 have x8:a3.tmps.getD 8 undef = .slice (some ⟨b,0,none⟩) es.length c:=by rw [g3];exact x8
 have v0:a3.tmps.getD 0 undef = .slice (some ⟨b,0,none⟩) es.length c:=by rw [g3];exact v0
 refine Q10 fun w₄ r₄=>ho.p3.move ?_;have d4:=(d3.rly r₄).putB (d:=11) (v:=a3.tmps.getD 0 undef) (by omega) (lk 11 (by omega));have g4:∀ t,(a3.put (some 11) (a3.tmps.getD 0 undef)).tmps.getD t undef=if 11=t then (a3.tmps.getD 0 undef) else a3.tmps.getD t undef:=fun t=>pgD d3.size (by omega);generalize a3.put (some 11) (a3.tmps.getD 0 undef)=a4 at d4 g4;have x11:a4.tmps.getD 11 undef = .slice (some ⟨b,0,none⟩) es.length c:=by rw [g4];exact v0
 have x10:a4.tmps.getD 10 undef = .int .i64 j:=by rw [g4];exact x10
 have x9:a4.tmps.getD 9 undef = .int .i64 i:=by rw [g4];exact x9
 have x8:a4.tmps.getD 8 undef = .slice (some ⟨b,0,none⟩) es.length c:=by rw [g4];exact x8
 refine Q10 fun w₅ r₅=>ho.p4.len ht x11 ?_;have d5:=(d4.rly r₅).putB (d:=12) (v:=.int .i64 es.length) (by omega) (lk 12 (by omega));have g5:∀ t,(a4.put (some 12) (.int .i64 es.length)).tmps.getD t undef=if 12=t then .int .i64 es.length else a4.tmps.getD t undef:=fun t=>pgD d4.size (by omega);generalize a4.put (some 12) (.int .i64 es.length)=a5 at d5 g5;have x12:a5.tmps.getD 12 undef = .int .i64 es.length:=by rw [g5];rfl
 have x10:a5.tmps.getD 10 undef = .int .i64 j:=by rw [g5];exact x10
 have x9:a5.tmps.getD 9 undef = .int .i64 i:=by rw [g5];exact x9
 have x8:a5.tmps.getD 8 undef = .slice (some ⟨b,0,none⟩) es.length c:=by rw [g5];exact x8
 refine Q10 fun w₆ r₆=>ho.p5.slice3 ht hty x8 (bounds3 x9 x10 x12 (by omega) (by omega) (by omega)) fun v=>?_;exact Q5g ⟨_,⟨R',hX,DR.rel ((d5.rly r₆).putB (d:=13) (by omega) (lk 13 (by omega)))⟩,h⟩
end
end
section
attribute [local simp] Qd QD Qq
theorem Contract.toF {P:Program} {f:Nat} {args az:List AV} (hc:Contract P f args (.agg az)):FContract P false f args (.agg az):=by
 refine ⟨hc.enters,fun w R vals hR hsz hx=>?_⟩;refine (hc.calls w R vals hR hsz hx).mono fun e w' ⟨v,o,he,hb,ho,hres⟩=>?_;refine ⟨v,fun b=>∃ L,o b=some L,he,hb,fun b ⟨L,hL⟩=>⟨(ho b L hL).2,.inr (ho b L hL).1⟩,?_⟩;obtain ⟨cs,rfl,hl⟩:∃ cs:Array Value,v = .agg cs∧cs.size=az.length:=hres.sh;have hk:∀ k,k<az.length→TRel w' (fun _=>False) o [k] (cs.getD k undef) (az.getD k .bot):=by
  intro k hk;have h:=hres.cell k (by simpa [flat,AV.cells] using hk);have e1:(Q1X (.agg cs)).getD k undef=cs.getD k undef:=by
   simp [Q1X,Value.cells,qB]
  have e2:(flat (.agg az)).getD k .bot=az.getD k .bot:=rfl;rw [e1,e2] at h;exact h
 exact .agg hl (fun k h=>(hk k h).one) fun k h=>.r ((hk k h).pure fun b hb=>hb.resolve_left id)
theorem Wk.frz {F:Fx} {st st':St} (hW:∀ b,¬ F.C.wrb b) (fz:List (Nat × List AV)) (m:List (Nat × Nat)) (hz:∀ q∈fz,look q.1 m=none∧look q.1 st.h=some (.mix q.2.length [q.2])∧∀ c∈q.2,c.ro=true)
  (h:(m.map Prod.fst).Nodup∧(m.map Prod.snd).Nodup∧(∀ id,id<F.pins→look id m=some id)∧(∀ p∈m,p.2<st'.n)∧(∀ p∈st'.h,p.1<st'.n)∧(∀ p∈st'.s,p.2=rl m (st.get p.1)∨p.2 = .bot∨∃ q∈fz,st.get p.1 = .adr q.1 0 0∧p.2 = .rptr q.2)∧∀ p∈st'.h,hhOk m st.h p.1 p.2):Wk F st st':=by
 obtain ⟨h1,h2,hpin,hn,hok,hs,hh⟩:=h;refine Wk.relabelZ fz (.inr hW) m (fun q hq=>⟨(hz q hq).1,(hz q hq).2.1,fun c hc {_ _ _ _} hx=>hx.toR ((hz q hq).2.2 c hc)⟩) h1 h2 (Q9F h1 h2 hpin hn).1 (Q9F h1 h2 hpin hn).2 hn hok hs fun p hp=>?_;have:=hh p hp;unfold hhOk at this;obtain ⟨e,he,hr⟩:=Option.bind_eq_some_iff.1 this;obtain ⟨i,hi,hl⟩:=Option.bind_eq_some_iff.1 he;exact ⟨i,e,Q2x h1 hi,hl,hr⟩
end
end Go.Vc
