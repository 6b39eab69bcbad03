/- A part of the proof. -/
import Derived.Test.YtllnbmfplpilcaaI6
import Derived.Test.YtllnbmfplpilcaaProg
set_option maxRecDepth 100000
set_option maxHeartbeats 4000000
set_option linter.unusedSimpArgs false
set_option linter.unusedVariables false
set_option linter.unusedSectionVars false
set_option linter.unnecessarySimpa false

open List renaming getD_eq_getElem?_getD→qB
open Option.some renaming inj→zC
open Option renaming bind_some→zF
open List renaming replicate→qW
open Nat renaming le_refl→qD
open List renaming length_append→qE
open List renaming range→zD
open Classical renaming byContradiction→zG
open List renaming length_cons→qG
open Option renaming getD_some→qY
open List renaming take_succ_eq_append_getElem→zH
open List renaming getElem_mem→zI
open Nat renaming lt_or_ge→qZ
open Int renaming toNat_natCast→zJ
open List renaming range_succ→zK
namespace Go.Vc.T
open Go Go.Vc Go.Proofs
section
attribute [local simp] Qh QF Qs
@[simp] theorem e22:elm Try.prog 22=some 2:=by kernel_rfl
@[simp] theorem y2:tyi Try.prog 2=some ⟨false,1,8,[.int .i64 0]⟩:=by kernel_rfl
theorem mo:Try.prog.follows .mixedOrders=true:=by kernel_rfl
def idQ : Nat → List (Nat × Nat)
  | 0 => []
  | n + 1 => idQ n ++ [(n, n)]
abbrev nS : AV := .val (.slice none 0 0)
abbrev iV (x : Int) : AV := .val (.int .i64 x)
abbrev lI (x : List Int) : AV := .lst true 1 (Is x)
abbrev rI (x : List Int) : Ent := .row 1 (Is x)
theorem gQ {p : Prop} (k : p := by first | (simp; done) | (simp at g; done) | simpa using g | (simp at g; exact g) | (simp at g; omega)) : p := k
theorem sdQ {a b : Prop} (h : b) (k : a := by first | assumption | omega | (simp; done) | (simp; omega) | simp_all) : a ∧ b := ⟨k, h⟩
theorem srQ {F : Fx} {AQ : Exit → St → Prop} {st : St} {id : Nat} {ops : Array Oper} {d : Bool} {y : Code} {n : Nat} (hN : F.N = n) (h : ∀ K : St → Prop, (∀ st', Wp Try.prog F y AQ st' → K st') → Q1k Try.prog false ops ops.toList st K) (hok : (okN n ops && (!d || (Q53 false ops && Q2z ops))) = true := by decide) : Wp Try.prog F (.seq (.region id ops d) y) AQ st := w_sr mo (by rw [hN]; exact hok) h
theorem runQ {F : Fx} {AQ : Exit → St → Prop} {st : St} {id : Nat} {ops : Array Oper} {d : Bool} {n : Nat} (hN : F.N = n) (h : ∀ K : St → Prop, (∀ st', AQ .normal st' → K st') → Q1k Try.prog false ops ops.toList st K) (hok : (okN n ops && (!d || (Q53 false ops && Q2z ops))) = true := by decide) : Wp Try.prog F (.region id ops d) AQ st := w_run mo (by rw [hN]; exact hok) h
theorem rbQ {F : Fx} {st st' : St} (hP : F.pins = 0) (m : List (Nat × Nat)) (h1 : (m.map Prod.fst).Nodup := by simp) (h2 : (m.map Prod.snd).Nodup := by simp) (hn : ∀ p ∈ m, p.2 < st'.n := by simp) (hok : ∀ p ∈ st'.h, p.1 < st'.n := by simp) (hs : ∀ p ∈ st'.s, p.2 = rl m (st.get p.1) ∨ p.2 = .bot := by simp) (hh : ∀ p ∈ st'.h, ∃ i e, look i m = some p.1 ∧ look i st.h = some e ∧ rlE m e = some p.2 := by simp) : Wk F st st' := Wk.relabel m h1 h2 (by rw [hP]; simp) hn hok hs hh
theorem whQ {h : HP} {id n u sz es} (hc : cont h depth id = some (sz, es) := by rfl) (hm : Qr (h id) = false := by rfl) (hn : n = es.length := by simp) : PurTo h (.own id 0 n) (.lst u sz es) := .whole hc hm hn
@[simp] theorem q2:eqT Try.prog 2=0:=by kernel_rfl
@[simp] theorem q3:eqT Try.prog 3=0:=by kernel_rfl
theorem set_take {xs ys:List Int} {i:Nat} (h1:i<xs.length) (h2:i<ys.length) (h:ys.take i=xs.take i):(ys.set i xs[i]).take (i+1)=xs.take (i+1):=by
 rw [zH h1,zH (by simpa using h2),List.take_set_of_le (qD _),h];simp
theorem take_eq {xs ys:List Int} {i:Nat} (h1:i<xs.length) (h2:i<ys.length) (h:xs.take i=ys.take i) (he:xs[i]=ys[i]):xs.take (i+1)=ys.take (i+1):=by
 rw [zH h1,zH h2,h,he]
theorem c29 (ux uy:Bool) (xs ys:List Int):Contract Try.prog 13 [.lst ux 1 (Is xs),.lst uy 1 (Is ys)] (.val (.bool (decide (xs=ys)))):=by
 refine Qj (rs:=[.val (.bool (decide (xs=ys)))]) Try.func13 rfl rfl rfl rfl (by simp [Try.f13]) fun F hN hP=>?_;refine Q5m 0 fun h0=>?_;simp at h0;obtain ⟨hl0,hb0⟩:=h0.is;refine srQ hN fun K hK=>?_;simp;refine hK _ ?_;clear hK K;refine Q1 (w_sr mo (by rw [hN];decide) fun K hK=>?_);simp;refine hK _ (Qa rfl (fun h=>?_) fun h=>?_)<;>clear hK K
 ·simp at h;refine srQ hN fun K hK=>?_;simp;refine hK _ (Ql (Qt rfl ?_));clear hK K;simp
  rintro rfl;exact h rfl
 simp at h;refine Qc ?_;simp only [Q56];refine Q1 (w_sr mo (by rw [hN];decide) fun K hK=>?_);simp;refine hK _ (Q7 ?_);clear hK K;refine Q1l (fun i:Nat=>⟨[(0,.lst ux 1 (Is xs)),(1,.lst uy 1 (Is ys)),(5,iV i)],[],0⟩) (fun i=>i≤xs.length∧xs.take i=ys.take i) (fun i=>xs.length - i) 0 (by simp) (Wk.cut (by simp) rfl rfl) ?_
 rintro i ⟨hi,hti⟩
 refine Q1 (w_sr mo (by rw [hN];decide) fun K hK=>?_);simp;refine hK _ (Qa rfl (fun h=>?_) fun h=>?_)<;>clear hK K
 ·simp at h;refine Qc ?_;simp only [Q56];refine Q1 (Q7 (w_sr mo (by rw [hN];decide) fun K hK=>?_));have h2:i<ys.length:=by omega
  simp [h,h2];refine hK _ (Qa rfl (fun h=>?_) fun h=>?_)<;>clear hK K
  ·simp at h;refine srQ hN fun K hK=>?_;simp;refine hK _ (Ql (Qt rfl ?_));clear hK K;simp
   rintro rfl;exact h rfl
  simp at h;refine Qc ?_;simp;refine runQ hN fun K hK=>?_;simp;refine hK _ ?_;clear hK K;refine ⟨i+1,⟨by omega,take_eq (by omega) h2 hti h⟩,by dsimp only;omega,Wk.cut ?_ rfl rfl⟩;rw [QC (n:=xs.length) (by omega) hl0];simp
 simp at h;refine Qp ?_;simp;refine srQ hN fun K hK=>?_;simp;refine hK _ (Ql (Qt rfl ?_));clear hK K;rw [List.take_of_length_le (by omega),List.take_of_length_le (by omega)] at hti;simp [hti]
theorem c19 (u:Bool) (xs:List Int) (hx:xs.length≤1048576):Contract Try.prog 32 [.lst u 1 (Is xs)] (lI xs):=by
 refine Qj (rs:=[lI xs]) Try.func32 rfl rfl rfl rfl (by simp [Try.f32]) fun F hN hP=>?_;refine srQ hN fun K hK=>?_;simp;refine hK _ ?_;clear hK K;refine srQ hN fun K hK=>?_;simp;refine ⟨?_,hK _ ?_⟩<;>clear hK K
 ·omega
 refine Q1 (w_sr mo (by rw [hN];decide) fun K hK=>?_);simp;refine hK _ (Q7 ?_);clear hK K;refine Q1l (fun p:Nat × List Int=>⟨[(0,.lst u 1 (Is xs)),(3,.own 0 0 xs.length),(4,iV p.1)],[(0,rI p.2)],1⟩) (fun p=>p.1≤xs.length∧p.2.length=xs.length∧p.2.take p.1=xs.take p.1) (fun p=>xs.length - p.1) (0,qW xs.length 0) (by simp) (Wk.cut (by simp) (by simp) rfl) ?_
 rintro ⟨i,ys⟩ ⟨hi,hy,ht⟩
 simp at hi hy ht;refine Q1 (w_sr mo (by rw [hN];decide) fun K hK=>?_);simp;refine hK _ (Qa rfl (fun h=>?_) fun h=>?_)<;>clear hK K
 ·simp at h;refine Qc ?_;simp only [Q56];refine Q1 (Q7 (w_run mo (by rw [hN];decide) fun K hK=>?_));have h2:i<ys.length:=by omega
  simp [h,hy];refine hK _ ?_;clear hK K;simp;refine runQ hN fun K hK=>?_;simp;refine hK _ ?_;clear hK K;rw [QC (n:=xs.length) (by omega) (by omega)];refine ⟨(i+1,ys.set i xs[i]),⟨by dsimp only;omega,by simp [hy],?_⟩,by dsimp only;omega,Wk.cut (by simp) (by simp) rfl⟩;exact set_take h h2 ht
 simp at h;refine Qp ?_;simp;refine srQ hN fun K hK=>?_;simp;refine hK _ (Ql (Q3X rfl rfl ?_ ?_))<;>clear hK K
 ·simp [hy]
 rw [List.take_of_length_le (by omega),List.take_of_length_le (by omega)] at ht;rw [ht]
def run (k:Int):Nat→List Int
 | 0=>[]
 | n+1=>k :: run (k+1) n
def Ls (xss:List (List Int)):List (List AV):=xss.map fun xs=>[lI xs]
@[simp] theorem Ls_length (xss:List (List Int)):(Ls xss).length=xss.length:=by simp [Ls]
theorem QT (xss:List (List Int)) (i:Nat) (h:i<xss.length):(Ls xss)[i]? = some [lI xss[i]]:=by simp [Ls,h]
attribute [local simp] QT
theorem QE (xss:List (List Int)) (i:Nat) (h:i<(Ls xss).length):(Ls xss)[i]=[lI (xss[i]'(by simpa using h))]:=by simp [Ls]
attribute [local simp] QE
@[simp] theorem Ls_set (xss:List (List Int)) (i:Nat) (x:List Int):(Ls xss).set i [lI x]=Ls (xss.set i x):=by simp [Ls,List.map_set]
@[simp] theorem e23:elm Try.prog 23=some 22:=by kernel_rfl
@[simp] theorem y22:tyi Try.prog 22=some ⟨false,1,24,[.slice none 0 0]⟩:=by kernel_rfl
def sumL (xss:List (List Int)):Nat:=(xss.map List.length).sum
theorem c46 (x a b:Int):Contract Try.prog 112 [iV x,iV a,iV b] (.val (.bool (decide (a≤x) && decide (x≤b)))):=by
 refine Qj (rs:=[.val (.bool (decide (a≤x) && decide (x≤b)))]) Try.func112 rfl rfl rfl rfl (by simp [Try.f112]) fun F hN hP=>?_;refine srQ hN fun K hK=>?_;simp;refine hK _ ?_;clear hK K;refine srQ hN fun K hK=>?_;simp;refine ⟨fun h=>hK _ (Ql (Qt rfl ?_)),fun h=>hK _ (Ql (Qt rfl ?_))⟩<;>clear hK K
 ·simp [h]
 simp;omega
def inR (n:Int) (x:Int):Bool:=decide (0≤x) && decide (x≤n - 1)
theorem Q9l {p:Int→Bool} {xs:List Int} {i:Nat} (h:i<xs.length) (h1:(xs.take i).all p=true) (h2:p xs[i]=true):(xs.take (i+1)).all p=true:=by
 rw [zH h,List.all_append,h1];simp [h2]
theorem Q8P {p:Int→Bool} {xs:List Int} {i:Nat} (h:i<xs.length) (h2:p xs[i]=false):xs.all p=false:=by
 rw [List.all_eq_false];exact ⟨xs[i],zI h,by simp [h2]⟩
theorem c22 (u:Bool) (xs:List Int) (n:Int) (hn:B64 (n - 1)):Contract Try.prog 106 [.lst u 1 (Is xs),iV n] (.val (.bool (xs.all (inR n)))):=by
 refine Qj (rs:=[.val (.bool (xs.all (inR n)))]) Try.func106 rfl rfl rfl rfl (by simp [Try.f106]) fun F hN hP=>?_;refine Q5m 0 fun h0=>?_;simp at h0;obtain ⟨hl0,hb0⟩:=h0.is;refine srQ hN fun K hK=>?_;simp;refine hK _ ?_;clear hK K;refine Q1 (srQ hN fun K hK=>?_);simp;refine hK _ (Q7 (Q1l (fun i:Nat=>⟨[(0,.lst u 1 (Is xs)),(1,iV n),(7,.lst u 1 (Is xs)),(8,iV xs.length),(9,iV i)],[],0⟩) (fun i=>i≤xs.length∧(xs.take i).all (inR n)=true) (fun i=>xs.length - i) 0 (by simp) (Wk.cut (by simp) rfl rfl) ?_));clear hK K
 rintro i ⟨hi,ht⟩
 refine srQ hN fun K hK=>?_;simp;refine hK _ ?_;clear hK K;refine Q1 (Qa rfl (fun h=>?_) fun h=>?_)
 ·simp at h;refine Qc (Q1 (Q7 (srQ hN fun K hK=>?_)));simp [h];refine hK _ ?_;clear hK K;refine srQ hN fun K hK=>?_;simp;refine Q3 (c46 xs[i] 0 (n - 1)) ?_ ?_
  ·rw [Qm hn];exact .cons .val (.cons .val (.cons .val .nil))
  simp [unk,unA,unE,flat];refine hK _ ?_;clear hK K;refine Qa rfl (fun h2=>?_) fun h2=>?_
  ·refine srQ hN fun K hK=>?_;simp;refine hK _ (Ql (Qt rfl ?_));clear hK K;simp at h2;rw [Q8P h (by simp [inR];omega)]
  refine Qc (runQ hN fun K hK=>?_);simp;refine hK _ ?_;clear hK K;rw [QC (n:=xs.length) (by omega) hl0];refine ⟨i+1,⟨by omega,Q9l h ht (by simpa [inR] using h2)⟩,by dsimp only;omega,rbQ hP []⟩
 simp at h;refine Qp ?_;simp;refine srQ hN fun K hK=>?_;simp;refine hK _ (Ql (Qt rfl ?_));clear hK K;rw [List.take_of_length_le (by omega)] at ht;rw [ht]
@[simp] theorem fld29_0:fld Try.prog 31 0=some (0,1,false):=by kernel_rfl
@[simp] theorem fld29_1:fld Try.prog 31 1=some (1,1,false):=by kernel_rfl
@[simp] theorem fld29_2:fld Try.prog 31 2=some (2,1,false):=by kernel_rfl
@[simp] theorem fld29_3:fld Try.prog 31 3=some (3,1,false):=by kernel_rfl
@[simp] theorem fld29_4:fld Try.prog 31 4=some (4,1,false):=by kernel_rfl
@[simp] theorem y23:tyi Try.prog 23=some ⟨false,1,24,[.slice none 0 0]⟩:=by kernel_rfl
structure Cat where
 n:Int
 fr:List Int
 to:List Int
 id:List Int
 cs:List (List Int)
def Cat.ok (c:Cat):Prop:=c.fr.length≤1048576∧c.to.length≤1048576∧c.id.length≤1048576∧c.cs.length≤1048576∧(∀ xs∈c.cs,xs.length≤1048576)∧sumL c.cs≤1099511627776
def Cat.size (c:Cat):Nat:=c.fr.length+c.to.length+c.id.length+sumL c.cs
def Part (done:List (List AV)) (n i:Nat) (z:List AV):List (List AV):=done++qW (n - i) z
theorem Part.at {done:List (List AV)} {n i:Nat} {z:List AV} (hi:i<n) (hd:done.length=i):(Part done n i z)[i]? = some z:=by
 rw [Part,List.getElem?_append_right (by omega),hd,Nat.sub_self,List.getElem?_replicate,if_pos (by omega)]
theorem Part.next {done:List (List AV)} {n i:Nat} {x z:List AV} (hi:i<n) (hd:done.length=i):(Part done n i z).set i x=Part (done++[x]) n (i+1) z:=by
 rw [Part,List.set_append_right _ _ (by omega),hd,Nat.sub_self,show n - i=(n - (i+1))+1 by omega,List.replicate_succ,List.set_cons_zero];simp [Part]
theorem Part.length {done:List (List AV)} {n i:Nat} {z:List AV} (hi:i≤n) (hd:done.length=i):(Part done n i z).length=n:=by simp [Part];omega
theorem Q8t {xss:List (List Int)} {i:Nat} (h:i<xss.length):Ls (xss.take i)++[[lI xss[i]]]=Ls (xss.take (i+1)):=by
 rw [zH h,Ls,Ls,List.map_append];rfl
theorem c20 (u:Bool) (xss:List (List Int)) (hx:xss.length≤1048576) (hx':∀ xs∈xss,xs.length≤1048576):Contract Try.prog 33 [.lst u 1 (Ls xss)] (.lst true 1 (Ls xss)):=by
 refine Qj (rs:=[.lst true 1 (Ls xss)]) Try.func33 rfl rfl rfl rfl (by simp [Try.f33]) fun F hN hP=>?_;refine srQ hN fun K hK=>?_;simp;refine hK _ ?_;clear hK K;refine srQ hN fun K hK=>?_;simp;refine ⟨by omega,hK _ ?_⟩;clear hK K;refine Q1 (srQ hN fun K hK=>?_);simp;refine hK _ (Q7 (Q1l (fun i:Nat=>⟨[(0,.lst u 1 (Ls xss)),(3,.own 0 0 xss.length),(4,iV i)],[(0,.row 1 (Part (Ls (xss.take i)) xss.length i [nS]))],1⟩) (fun i=>i≤xss.length) (fun i=>xss.length - i) 0 (by simp) (Wk.cut (by simp) (by simp [Part,Ls]) rfl) ?_));clear hK K;intro i hi;refine Q1 (srQ hN fun K hK=>?_);simp;refine hK _ ?_;clear hK K;refine Qa rfl (fun h=>?_) fun h=>?_
 ·simp at h;have hd:(Ls (xss.take i)).length=i:=by simp;omega
  have hat:=Part.at (z:=[nS]) h hd;have hlen:=Part.length (z:=[nS]) hi hd;refine Qc (Q1 (Q7 (runQ hN fun K hK=>?_)));simp [h];refine Q3 (c19 u xss[i] (hx' _ (zI h))) (.cons .lst .nil) ?_;simp [unk,unA,unE,flat,h];refine stoA_row [] y22 rfl (b:=.lst true 1 (Is xss[i])) (ds:=[1]) rfl (by simp) (by omega) (by simp) (by simp) (by simp) (by simp) ?_;simp [hat];refine hK _ ?_;clear hK K;refine runQ hN fun K hK=>?_;simp;refine hK _ ?_;clear hK K;rw [QC (n:=xss.length) (by omega) (by omega),Part.next h hd,Q8t h];refine ⟨i+1,by omega,by dsimp only;omega,rbQ hP [(0,0)]⟩
 simp at h;refine Qp ?_;simp;refine srQ hN fun K hK=>?_;simp;refine hK _ ?_;clear hK K;have hi':i=xss.length:=by omega
 subst hi';refine Ql (Q3X rfl rfl ?_ ?_)
 ·simp [Part]
 simp [Part]
@[simp] theorem fld25_0:fld Try.prog 25 0=some (0,1,false):=by kernel_rfl
@[simp] theorem fld25_1:fld Try.prog 25 1=some (1,1,false):=by kernel_rfl
@[simp] theorem fld25_2:fld Try.prog 25 2=some (2,1,false):=by kernel_rfl
@[simp] theorem fld25_3:fld Try.prog 25 3=some (3,1,false):=by kernel_rfl
@[simp] theorem fld25_4:fld Try.prog 25 4=some (4,1,false):=by kernel_rfl
@[simp] theorem y29:tyi Try.prog 31=some ⟨true,5,104,[.int .i64 0,.slice none 0 0,.slice none 0 0,.slice none 0 0,.slice none 0 0]⟩:=by kernel_rfl
def Cat.av (u:Bool) (c:Cat):AV:=.agg [iV c.n,.lst u 1 (Is c.fr),.lst u 1 (Is c.to),.lst u 1 (Is c.id),.lst u 1 (Ls c.cs)]
theorem c18 (c:Cat) (u:Bool) (hc:c.ok):Contract Try.prog 9 [c.av u] (c.av true):=by
 obtain ⟨hc1,hc2,hc3,hc4,hc5,hc6⟩:=hc;refine Q1D Try.func9 rfl rfl y29 rfl rfl (by simp [Try.f9]) fun F hN hP=>?_;refine srQ hN fun K hK=>?_;simp [Cat.av];refine hK _ ?_;clear hK K;refine srQ hN fun K hK=>?_;simp;refine hK _ ?_;clear hK K;refine srQ hN fun K hK=>?_;simp;refine hK _ ?_;clear hK K;refine srQ hN fun K hK=>?_;simp;refine Q3 (c19 u c.fr hc1) (.cons .lst .nil) ?_;simp [unk,unA,unE,flat];refine hK _ ?_;clear hK K;refine srQ hN fun K hK=>?_;simp;refine Q3 (c19 u c.to hc2) (.cons .lst .nil) ?_;simp [unk,unA,unE,flat];refine hK _ ?_;clear hK K;refine srQ hN fun K hK=>?_;simp;refine Q3 (c19 u c.id hc3) (.cons .lst .nil) ?_;simp [unk,unA,unE,flat];refine hK _ ?_;clear hK K;refine srQ hN fun K hK=>?_;simp;refine Q3 (c20 u c.cs hc4 hc5) (.cons .lst .nil) ?_;simp [unk,unA,unE,flat];refine hK _ ?_;clear hK K;refine srQ hN fun K hK=>?_;simp;refine hK _ (Ql ⟨_,_,_,_,_,rfl,rfl,by simp,by simp,?_⟩);clear hK K;exact ⟨.agg rfl .nil,[iV c.n,lI c.fr,lI c.to,lI c.id,.lst true 1 (Ls c.cs)],[3,4,5,6],by simp,by simp,UpL.refl _⟩
def less (left:Int) (n:Nat):Int:=if left - n<0 then -1 else left - n
theorem c14 (u:Bool) (xs:List Int) (l:Int) (h1:0≤l) (h2:l≤1048576):Contract Try.prog 27 [.lst u 1 (Is xs),iV l] (iV (less l xs.length)):=by
 refine Qj (rs:=[iV (less l xs.length)]) Try.func27 rfl rfl rfl rfl (by simp [Try.f27]) fun F hN hP=>?_;refine Q5m 0 fun h0=>?_;simp at h0;obtain ⟨hl0,hb0⟩:=h0.is;refine srQ hN fun K hK=>?_;simp;refine hK _ ?_;clear hK K;refine srQ hN fun K hK=>?_;simp;rw [Qm ⟨by omega,by omega⟩];refine hK _ ?_;clear hK K;refine Q1 (srQ hN fun K hK=>?_);simp;refine hK _ ?_;clear hK K;refine Qa rfl (fun h=>?_) fun h=>?_
 ·simp at h;refine srQ hN fun K hK=>?_;simp;refine hK _ (Ql (Qt rfl ?_));clear hK K;rw [less,if_pos (by omega)]
 simp at h;refine Qc (srQ hN fun K hK=>?_);simp;refine hK _ (Ql (Qt rfl ?_));clear hK K;rw [less,if_neg (by omega)]
def Q5r (l:Int):List (List Int)→Int
 | []=>l
 | xs :: r=>if less l xs.length<0 then -1 else Q5r (less l xs.length) r
def Q3J (l:Int) (xss:List (List Int)):Int:=if l - xss.length<0 then -1 else Q5r (l - xss.length) xss
theorem Q9F {u:Bool} {sz:Nat} {es:List (List AV)} (h:Good (.lst u sz es)):es.length≤9223372036854775807:=by
 cases h with
 | lst h1=>exact Nat.le_trans h1 (by decide)
 | other h=>exact h.elim
theorem c15 (u:Bool) (xss:List (List Int)) (l:Int) (h1:0≤l) (h2:l≤1048576):Contract Try.prog 28 [.lst u 1 (Ls xss),iV l] (iV (Q3J l xss)):=by
 refine Qj (rs:=[iV (Q3J l xss)]) Try.func28 rfl rfl rfl rfl (by simp [Try.f28]) fun F hN hP=>?_;refine Q5m 0 fun h0=>?_;simp at h0;have hl0:=Q9F h0;simp at hl0;refine srQ hN fun K hK=>?_;simp;refine hK _ ?_;clear hK K;refine srQ hN fun K hK=>?_;simp;rw [Qm ⟨by omega,by omega⟩];refine hK _ ?_;clear hK K;refine Q1 (srQ hN fun K hK=>?_);simp;refine hK _ ?_;clear hK K;refine Qa rfl (fun h=>?_) fun h=>?_
 ·simp at h;refine srQ hN fun K hK=>?_;simp;refine hK _ (Ql (Qt rfl ?_));clear hK K;rw [Q3J,if_pos (by omega)]
 simp at h;refine Qc (Q1 (srQ hN fun K hK=>?_));simp;refine hK _ (Q7 (Q1l (fun p:Nat × Int=>⟨[(0,.lst u 1 (Ls xss)),(1,iV p.2),(5,iV p.1)],[],0⟩) (fun p=>p.1≤xss.length∧0≤p.2∧p.2≤1048576∧Q5r p.2 (xss.drop p.1)=Q3J l xss) (fun p=>xss.length - p.1) (0,l - xss.length) ⟨by simp,by dsimp only;omega,by dsimp only;omega,by rw [Q3J,if_neg (by omega)];rfl⟩ (Wk.cut (by simp) (by simp) rfl) ?_));clear hK K
 rintro ⟨i,q⟩ ⟨hi,hq1,hq2,hq3⟩
 simp only at hi hq1 hq2 hq3;refine Q1 (srQ hN fun K hK=>?_);simp;refine hK _ ?_;clear hK K;refine Qa rfl (fun h=>?_) fun h=>?_
 ·simp at h;rw [List.drop_eq_getElem_cons h,Q5r] at hq3;refine Qc (Q1 (Q7 (srQ hN fun K hK=>?_)));simp [h];refine Q3 (c14 u xss[i] q hq1 hq2) (.cons .lst (.cons .val .nil)) ?_;simp [unk,unA,unE,flat];refine hK _ ?_;clear hK K;refine srQ hN fun K hK=>?_;simp;refine hK _ ?_;clear hK K;refine Qa rfl (fun h3=>?_) fun h3=>?_
  ·simp at h3;refine srQ hN fun K hK=>?_;simp;refine hK _ (Ql (Qt rfl ?_));clear hK K;rw [if_pos h3] at hq3;rw [hq3]
  simp at h3;rw [if_neg (by omega)] at hq3;refine Qc (runQ hN fun K hK=>?_);simp;refine hK _ ?_;clear hK K;rw [QC (n:=xss.length) (by omega) (by omega)];have hle:less q xss[i].length≤1048576:=by unfold less;split<;>omega
  refine ⟨(i+1,less q xss[i].length),⟨by dsimp only;omega,h3,hle,hq3⟩,by dsimp only;omega,rbQ hP []⟩
 simp at h;refine Qp ?_;simp;refine srQ hN fun K hK=>?_;simp;refine hK _ ?_;clear hK K;rw [List.drop_eq_nil_of_le (by omega),Q5r] at hq3;refine Ql (Qt rfl ?_);rw [hq3]
def nn (a:Int) (f:Int→Int):Int:=if a<0 then -1 else f a
def Q3D (l:Int) (c:Cat):Int:=nn (less l c.fr.length) fun a=>nn (less a c.to.length) fun b=>nn (less b c.id.length) fun d=>nn (Q3J d c.cs) fun e=>e
theorem Q1g {l:Int} {n:Nat} (h:l≤1048576):less l n≤1048576:=by unfold less;split<;>omega
theorem c13 (u:Bool) (c:Cat) (l:Int) (h1:0≤l) (h2:l≤1048576):Contract Try.prog 6 [c.av u,iV l] (iV (Q3D l c)):=by
 refine Qj (rs:=[iV (Q3D l c)]) Try.func6 rfl rfl rfl rfl (by simp [Try.f6]) fun F hN hP=>?_;simp only [Cat.av];refine srQ hN fun K hK=>?_;simp;refine hK _ ?_;clear hK K;refine srQ hN fun K hK=>?_;simp;refine Q3 (c14 u c.fr l h1 h2) (.cons .lst (.cons .val .nil)) ?_;simp [unk,unA,unE,flat];refine hK _ ?_;clear hK K;refine Q1 (srQ hN fun K hK=>?_);simp;refine hK _ ?_;clear hK K;refine Qa rfl (fun g1=>?_) fun g1=>?_
 ·simp at g1;refine srQ hN fun K hK=>?_;simp;refine hK _ (Ql (Qt rfl ?_));clear hK K;simp only [Q3D,nn];rw [if_pos g1]
 simp at g1;have h3:0≤less l c.fr.length:=g1;have hb1:less l c.fr.length≤1048576:=Q1g (by omega);refine Qc (srQ hN fun K hK=>?_);simp;refine Q3 (c14 u c.to _ h3 hb1) (.cons .lst (.cons .val .nil)) ?_;simp [unk,unA,unE,flat];refine hK _ ?_;clear hK K;refine Q1 (srQ hN fun K hK=>?_);simp;refine hK _ ?_;clear hK K;refine Qa rfl (fun g2=>?_) fun g2=>?_
 ·simp at g2;refine srQ hN fun K hK=>?_;simp;refine hK _ (Ql (Qt rfl ?_));clear hK K;simp only [Q3D,nn];rw [if_neg (Int.not_lt.2 h3),if_pos g2]
 simp at g2;have h4:0≤less (less l c.fr.length) c.to.length:=g2;have hb2:less (less l c.fr.length) c.to.length≤1048576:=Q1g (by omega);refine Qc (srQ hN fun K hK=>?_);simp;refine Q3 (c14 u c.id _ h4 hb2) (.cons .lst (.cons .val .nil)) ?_;simp [unk,unA,unE,flat];refine hK _ ?_;clear hK K;refine Q1 (srQ hN fun K hK=>?_);simp;refine hK _ ?_;clear hK K;refine Qa rfl (fun g3=>?_) fun g3=>?_
 ·simp at g3;refine srQ hN fun K hK=>?_;simp;refine hK _ (Ql (Qt rfl ?_));clear hK K;simp only [Q3D,nn];rw [if_neg (Int.not_lt.2 h3),if_neg (Int.not_lt.2 h4),if_pos g3]
 simp at g3;have h5:0≤less (less (less l c.fr.length) c.to.length) c.id.length:=g3;have hb3:less (less (less l c.fr.length) c.to.length) c.id.length≤1048576:=Q1g (by omega);refine Qc (srQ hN fun K hK=>?_);simp;refine Q3 (c15 u c.cs _ h5 hb3) (.cons .lst (.cons .val .nil)) ?_;simp [unk,unA,unE,flat];refine hK _ ?_;clear hK K;refine Q1 (srQ hN fun K hK=>?_);simp;refine hK _ ?_;clear hK K;refine Qa rfl (fun g4=>?_) fun g4=>?_
 ·simp at g4;refine srQ hN fun K hK=>?_;simp;refine hK _ (Ql (Qt rfl ?_));clear hK K;simp only [Q3D,nn];rw [if_neg (Int.not_lt.2 h3),if_neg (Int.not_lt.2 h4),if_neg (Int.not_lt.2 h5),if_pos g4]
 simp at g4;have h6:0≤Q3J (less (less (less l c.fr.length) c.to.length) c.id.length) c.cs:=g4;refine Qc (srQ hN fun K hK=>?_);simp;refine hK _ (Ql (Qt rfl ?_));clear hK K;simp only [Q3D,nn];rw [if_neg (Int.not_lt.2 h3),if_neg (Int.not_lt.2 h4),if_neg (Int.not_lt.2 h5),if_neg (Int.not_lt.2 h6)]
end
section
attribute [local simp] Qh QF Qs QT QE
@[simp] theorem y37:tyi Try.prog 33=some ⟨true,7,152,[.int .i64 0,.slice none 0 0,.slice none 0 0,.slice none 0 0,.slice none 0 0,.slice none 0 0,.slice none 0 0]⟩:=by kernel_rfl
@[simp] theorem y25:tyi Try.prog 25=some ⟨true,5,104,[.int .i64 0,.slice none 0 0,.slice none 0 0,.slice none 0 0,.slice none 0 0]⟩:=by kernel_rfl
@[simp] theorem fld37_0:fld Try.prog 33 0=some (0,5,true):=by kernel_rfl
@[simp] theorem fld37_1:fld Try.prog 33 1=some (5,1,false):=by kernel_rfl
@[simp] theorem fld37_2:fld Try.prog 33 2=some (6,1,false):=by kernel_rfl
def Cat.cells (u:Bool) (c:Cat):List AV:=[iV c.n,.lst u 1 (Is c.fr),.lst u 1 (Is c.to),.lst u 1 (Is c.id),.lst u 1 (Ls c.cs)]
theorem Cat.pur {h:HP} {u v:Bool} {c:Cat}:PurL h (c.cells u) (c.cells v):=.cons .val (.cons .lst (.cons .lst (.cons .lst (.cons .lst .nil))))
structure Fn where
 s:Cat
 t:Cat
 ob:List Int
 ar:List Int
def Fn.cells (u:Bool) (f:Fn):List AV:=[iV f.s.n,.lst u 1 (Is f.s.fr),.lst u 1 (Is f.s.to),.lst u 1 (Is f.s.id),.lst u 1 (Ls f.s.cs),iV f.t.n,.lst u 1 (Is f.t.fr),.lst u 1 (Is f.t.to),.lst u 1 (Is f.t.id),.lst u 1 (Ls f.t.cs),.lst u 1 (Is f.ob),.lst u 1 (Is f.ar)]
structure SF where
 s:Cat
 sz:List Int
 ac:List (List Int)
def SF.cells (u:Bool) (f:SF):List AV:=[iV f.s.n,.lst u 1 (Is f.s.fr),.lst u 1 (Is f.s.to),.lst u 1 (Is f.s.id),.lst u 1 (Ls f.s.cs),.lst u 1 (Is f.sz),.lst u 1 (Ls f.ac)]
def Cs (cs:List Cat):List (List AV):=cs.map (Cat.cells true)
def Fs (fs:List Fn):List (List AV):=fs.map (Fn.cells true)
structure Fam where
 b:Cat
 fb:List Cat
 ch:List Fn
def Fam.cells (u:Bool) (f:Fam):List AV:=[iV f.b.n,.lst u 1 (Is f.b.fr),.lst u 1 (Is f.b.to),.lst u 1 (Is f.b.id),.lst u 1 (Ls f.b.cs),.lst u 5 (Cs f.fb),.lst u 12 (Fs f.ch)]
theorem c30 (u v:Bool) (xs:List (List Int)):Contract Try.prog 38 [.lst u 1 (Ls xs),.lst v 1 (Ls xs)] (.val (.bool true)):=by
 refine Qj (rs:=[.val (.bool true)]) Try.func38 rfl rfl rfl rfl (by simp [Try.f38]) fun F hN hP=>?_;refine Q5m 0 fun h0=>?_;have hl0:xs.length≤9223372036854775807:=by simpa using Q9F h0
 refine srQ hN fun K hK=>?_;simp;refine hK _ ?_;clear hK K;refine Q1 (srQ hN fun K hK=>?_);simp;refine hK _ (Qa rfl (fun h=>by simp at h) fun _=>?_);clear hK K;refine Qc (Q1 (srQ hN fun K hK=>?_));simp;refine hK _ (Q7 (Q1l (fun i:Nat=>⟨[(0,.lst u 1 (Ls xs)),(1,.lst v 1 (Ls xs)),(5,iV i)],[],0⟩) (fun i=>i≤xs.length) (fun i=>xs.length - i) 0 (by simp) (Wk.cut (by simp) (by simp) rfl) ?_));clear hK K;intro i hi;refine Q1 (srQ hN fun K hK=>?_);simp;refine hK _ ?_;clear hK K;refine Qa rfl (fun h=>?_) fun h=>?_
 ·simp at h;refine Qc (Q1 (Q7 (srQ hN fun K hK=>?_)));simp [h];refine Q3 (c29 true true xs[i] xs[i]) (.cons .lst (.cons .lst .nil)) ?_;simp [unk,unA,unE,flat];refine hK _ (Qa rfl (fun h=>by simp at h) fun _=>?_);clear hK K;refine Qc (runQ hN fun K hK=>?_);simp;refine hK _ ?_;clear hK K;rw [QC (n:=xs.length) (by omega) (by omega)];refine ⟨i+1,by omega,by dsimp only;omega,rbQ hP []⟩
 simp at h;refine Qp ?_;simp;refine srQ hN fun K hK=>?_;simp;refine hK _ ?_;clear hK K;refine Ql (Qt rfl rfl)
theorem c26 (u v:Bool) (c:Cat):Contract Try.prog 14 [.agg (c.cells u),.agg (c.cells v)] (.val (.bool true)):=by
 refine Qj (rs:=[.val (.bool true)]) Try.func14 rfl rfl rfl rfl (by simp [Try.f14]) fun F hN hP=>?_;refine srQ hN fun K hK=>?_;simp [Cat.cells];refine hK _ ?_;clear hK K;refine Q1 (srQ hN fun K hK=>?_);simp;refine hK _ (Qa rfl (fun h=>by simp at h) fun _=>?_);clear hK K;refine Qc (Q1 (srQ hN fun K hK=>?_));simp;refine Q3 (c29 u v c.fr c.fr) (.cons .lst (.cons .lst .nil)) ?_;simp [unk,unA,unE,flat];refine hK _ (Qa rfl (fun h=>by simp at h) fun _=>?_);clear hK K;refine Qc (Q1 (srQ hN fun K hK=>?_));simp;refine Q3 (c29 u v c.to c.to) (.cons .lst (.cons .lst .nil)) ?_;simp [unk,unA,unE,flat];refine hK _ (Qa rfl (fun h=>by simp at h) fun _=>?_);clear hK K;refine Qc (Q1 (srQ hN fun K hK=>?_));simp;refine Q3 (c29 u v c.id c.id) (.cons .lst (.cons .lst .nil)) ?_;simp [unk,unA,unE,flat];refine hK _ (Qa rfl (fun h=>by simp at h) fun _=>?_);clear hK K;refine Qc (Q1 (srQ hN fun K hK=>?_));simp;refine Q3 (c30 u v c.cs) (.cons .lst (.cons .lst .nil)) ?_;simp [unk,unA,unE,flat];refine hK _ (Qa rfl (fun h=>by simp at h) fun _=>?_);clear hK K;refine Qc (srQ hN fun K hK=>?_);simp;refine hK _ ?_;clear hK K;refine Ql (Qt rfl rfl)
section
variable {α:Type} (f:Int→α→α) (sz:α→Nat)
end
theorem Q83 {a b:Int} {f:Int→Int} (hf:∀ x,a=x→0≤x→f x≤b) (hb : -1≤b):nn a f≤b:=by
 unfold nn;split
 ·exact hb
 exact hf a rfl (by omega)
theorem lessS_le (xs:List (List Int)):∀ l:Int,l≤1048576→Q5r l xs≤1048576:=by
 induction xs with
 | nil=>intro l h;simpa [Q5r] using h
 | cons x r ih=>intro l h;simp only [Q5r];split<;>first|omega|(exact ih _ (Q1g h))
theorem lessSS_le {l:Int} {xs:List (List Int)} (h:l≤1048576):Q3J l xs≤1048576:=by
 unfold Q3J;split
 ·omega
 exact lessS_le _ _ (by omega)
theorem szCat_le {l:Int} {c:Cat} (h:l≤1048576):Q3D l c≤1048576 :=
 Q83 (fun x hx _=>Q83 (fun y hy _=>Q83 (fun z hz _=>Q83 (fun w hw _=>by rw [← hw];exact lessSS_le (by rw [← hz];exact Q1g (by rw [← hy];exact Q1g (by rw [← hx];exact Q1g h)))) (by decide)) (by decide)) (by decide)) (by decide)
theorem c56 (x a b:Int):Contract Try.prog 85 [iV x,iV a,iV b] (.val (.bool (decide (a≤x) && decide (x≤b)))):=by
 refine Qj (rs:=[.val (.bool (decide (a≤x) && decide (x≤b)))]) Try.func85 rfl rfl rfl rfl (by simp [Try.f85]) fun F hN hP=>?_;refine srQ hN fun K hK=>?_;simp;refine hK _ ?_;clear hK K;refine srQ hN fun K hK=>?_;simp;refine ⟨fun h=>hK _ (Ql (Qt rfl ?_)),fun h=>hK _ (Ql (Qt rfl ?_))⟩<;>clear hK K
 ·simp [h]
 simp;omega
theorem c57 (u:Bool) (xs:List Int) (n:Int):Contract Try.prog 60 [iV n,.lst u 1 (Is xs)] (.val (.bool (xs.all (inR n)))):=by
 refine Qj (rs:=[.val (.bool (xs.all (inR n)))]) Try.func60 rfl rfl rfl rfl (by simp [Try.f60]) fun F hN hP=>?_;refine Q5m 1 fun h0=>?_;simp at h0;obtain ⟨hl0,hb0⟩:=h0.is;refine srQ hN fun K hK=>?_;simp;refine hK _ ?_;clear hK K;refine Q1 (srQ hN fun K hK=>?_);simp;refine hK _ (Q7 (Q1l (fun i:Nat=>⟨[(0,iV n),(1,.lst u 1 (Is xs)),(5,iV i)],[],0⟩) (fun i=>i≤xs.length∧(xs.take i).all (inR n)=true) (fun i=>xs.length - i) 0 (by simp) (Wk.cut (by simp) (by simp) rfl) ?_));clear hK K
 rintro i ⟨hi,ht⟩
 refine Q1 (srQ hN fun K hK=>?_);simp;refine hK _ ?_;clear hK K;refine Qa rfl (fun h=>?_) fun h=>?_
 ·simp at h;refine Qc (Q1 (Q7 (srQ hN fun K hK=>?_)));simp [h];refine ⟨fun h1=>hK _ ?_,fun h1=>hK _ ?_⟩<;>clear hK K
  ·refine Qa rfl (fun h2=>?_) fun h2=>?_
   ·simp at h2;refine srQ hN fun K hK=>?_;simp;refine hK _ (Ql (Qt rfl ?_));clear hK K;rw [Q8P h];simp [inR];omega
   simp at h2;refine Qc (runQ hN fun K hK=>?_);simp;refine hK _ ?_;clear hK K;rw [QC (n:=xs.length) (by omega) (by omega)];refine ⟨i+1,⟨by omega,Q9l h ht (by simp [inR];omega)⟩,by dsimp only;omega,Wk.cut (by simp) (by simp) rfl⟩
  refine Qa rfl (fun _=>?_) fun h=>by simp at h
  refine srQ hN fun K hK=>?_;simp;refine hK _ (Ql (Qt rfl ?_));clear hK K;rw [Q8P h];simp [inR];omega
 simp at h;refine Qp ?_;simp;have hi':i=xs.length:=by omega
 subst hi';rw [List.take_length] at ht;refine srQ hN fun K hK=>?_;simp;refine hK _ (Ql (Qt rfl ?_));clear hK K;rw [ht]
theorem c58 (u:Bool) (xs:List Int) (hx:xs.length≤1048576):Contract Try.prog 44 [.lst u 1 (Is xs)] (lI xs):=by
 refine Qj (rs:=[lI xs]) Try.func44 rfl rfl rfl rfl (by simp [Try.f44]) fun F hN hP=>?_;refine srQ hN fun K hK=>?_;simp;refine hK _ ?_;clear hK K;refine srQ hN fun K hK=>?_;simp;refine ⟨⟨?_,by omega,by omega⟩,hK _ ?_⟩
 ·intro e he c hc;obtain ⟨x,_,rfl⟩:=List.mem_map.1 he;simp at hc;subst hc;rfl
 clear hK K;refine Ql (Q3X rfl rfl (by simp) (by simp))
theorem c47 (u:Bool) (xs:List Int) (hx:xs.length≤1048576):Contract Try.prog 83 [.lst u 1 (Is xs)] (lI xs):=by
 refine Qj (rs:=[lI xs]) Try.func83 rfl rfl rfl rfl (by simp [Try.f83]) fun F hN hP=>?_;refine srQ hN fun K hK=>?_;simp;refine hK _ ?_;clear hK K;refine srQ hN fun K hK=>?_;simp;refine ⟨⟨?_,by omega,by omega⟩,hK _ ?_⟩
 ·intro e he c hc;obtain ⟨x,_,rfl⟩:=List.mem_map.1 he;simp at hc;subst hc;rfl
 clear hK K;refine Ql (Q3X rfl rfl (by simp) (by simp))
theorem c59 (u:Bool) (xs:List (List Int)) (hx:xs.length≤1048576) (hx':∀ x∈xs,x.length≤1048576):Contract Try.prog 115 [.lst u 1 (Ls xs)] (.lst true 1 (Ls xs)):=by
 refine Qj (rs:=[.lst true 1 (Ls xs)]) Try.func115 rfl rfl rfl rfl (by simp [Try.f115]) fun F hN hP=>?_;refine srQ hN fun K hK=>?_;simp;refine hK _ ?_;clear hK K;refine srQ hN fun K hK=>?_;simp;refine hK _ ?_;clear hK K;refine Q1 (srQ hN fun K hK=>?_);simp;refine hK _ (Q7 (Q1l (fun i:Nat=>⟨[(0,.lst u 1 (Ls xs)),(3,.own 0 0 i),(4,iV i)],[(0,.row 1 (Ls (xs.take i)))],1⟩) (fun i=>i≤xs.length) (fun i=>xs.length - i) 0 (by simp) (Wk.nils [] (by simp) (by simp) (by simp [nlA]) (by simp [entN,Ls]) (by simp)) ?_));clear hK K;intro i hi;refine Q1 (srQ hN fun K hK=>?_);simp;refine hK _ ?_;clear hK K;refine Qa rfl (fun h=>?_) fun h=>?_
 ·simp at h;refine Qc (Q1 (Q7 (runQ hN fun K hK=>?_)));simp [h];refine Q3 (c58 true xs[i] (hx' _ (zI h))) (.cons .lst .nil) ?_;simp [unk,unA,unE,flat];refine ⟨by omega,hK _ ?_⟩;clear hK K;refine runQ hN fun K hK=>?_;simp;refine hK _ ?_;clear hK K;rw [QC (n:=xs.length) (by omega) (by omega)];rw [Nat.min_eq_left hi,List.take_of_length_le (l:=Ls (List.take i xs)) (by simp;omega),Q8t h];refine ⟨i+1,by omega,by dsimp only;omega,rbQ hP [(3,0)]⟩
 simp at h;refine Qp ?_;simp;refine srQ hN fun K hK=>?_;simp;refine hK _ ?_;clear hK K;have hi':i=xs.length:=by omega
 subst hi';refine Ql (Q3X rfl rfl (by simp) (by simp))
theorem c48 (u:Bool) (xs:List (List Int)) (hx:xs.length≤1048576) (hx':∀ x∈xs,x.length≤1048576):Contract Try.prog 109 [.lst u 1 (Ls xs)] (.lst true 1 (Ls xs)):=by
 refine Qj (rs:=[.lst true 1 (Ls xs)]) Try.func109 rfl rfl rfl rfl (by simp [Try.f109]) fun F hN hP=>?_;refine srQ hN fun K hK=>?_;simp;refine hK _ ?_;clear hK K;refine srQ hN fun K hK=>?_;simp;refine ⟨by omega,hK _ ?_⟩;clear hK K;refine Q1 (srQ hN fun K hK=>?_);simp;refine hK _ (Q7 (Q1l (fun i:Nat=>⟨[(0,.lst u 1 (Ls xs)),(3,.own 0 0 i),(9,.lst u 1 (Ls xs)),(10,iV xs.length),(11,iV i)],[(0,.row 1 (Ls (xs.take i)))],1⟩) (fun i=>i≤xs.length) (fun i=>xs.length - i) 0 (by simp) (Wk.cut (by simp) (by simp [Ls]) rfl) ?_));clear hK K;intro i hi;refine srQ hN fun K hK=>?_;simp;refine hK _ ?_;clear hK K;refine Q1 (Qa rfl (fun h=>?_) fun h=>?_)
 ·simp at h;refine Qc (Q1 (Q7 (srQ hN fun K hK=>?_)));simp [h];refine hK _ ?_;clear hK K;refine runQ hN fun K hK=>?_;simp;refine Q3 (c47 true xs[i] (hx' _ (zI h))) (.cons .lst .nil) ?_;simp [unk,unA,unE,flat];refine ⟨by omega,hK _ ?_⟩;clear hK K;refine runQ hN fun K hK=>?_;simp;refine hK _ ?_;clear hK K;rw [QC (n:=xs.length) (by omega) (by omega)];rw [Nat.min_eq_left hi,List.take_of_length_le (l:=Ls (List.take i xs)) (by simp;omega),Q8t h];refine ⟨i+1,by omega,by dsimp only;omega,rbQ hP [(3,0)]⟩
 simp at h;refine Qp ?_;simp;refine srQ hN fun K hK=>?_;simp;refine hK _ ?_;clear hK K;have hi':i=xs.length:=by omega
 subst hi';refine Ql (Q3X rfl rfl (by simp) (by simp))
@[simp] theorem pl29:Q3V Try.prog 31=some [(0,1),(1,1),(2,1),(3,1),(4,1)]:=by kernel_rfl
@[simp] theorem pl86:Q3V Try.prog 152=some [(0,1),(1,1)]:=by kernel_rfl
@[simp] theorem y86:tyi Try.prog 152=some ⟨true,2,16,[.int .i64 0,.int .i64 0]⟩:=by kernel_rfl
@[simp] theorem q86:eqT Try.prog 152=4:=by kernel_rfl
def iota (n:Nat):List Int:=(zD n).map fun i:Nat=>(i:Int)
@[simp] theorem iota_length (n:Nat):(iota n).length=n:=by simp [iota]
theorem iota_succ (n:Nat):iota (n+1)=iota n++[(n:Int)]:=by simp [iota,zK]
def fill (xs:List Int) (n:Nat) (z:Int):List Int:=xs++qW (n - xs.length) z
theorem Q8z (xs:List Int) (n:Nat) (z:Int) (h:xs.length≤n):(fill xs n z).length=n:=by simp [fill];omega
theorem fill_set (xs:List Int) (n:Nat) (z x:Int) (h:xs.length<n):(fill xs n z).set xs.length x=fill (xs++[x]) n z:=by
 rw [fill,List.set_append_right _ _ (qD _),Nat.sub_self,show n - xs.length=(n - (xs.length+1))+1 by omega,List.replicate_succ,List.set_cons_zero];simp [fill]
theorem c61 (u:Bool) (c:Cat) (tl:List AV):Contract Try.prog 116 [.rptr (c.cells u++tl)] (iV c.fr.length):=by
 refine Qj (rs:=[iV c.fr.length]) Try.func116 rfl rfl rfl rfl (by simp [Try.f116]) fun F hN hP=>?_;refine srQ hN fun K hK=>?_;simp [Cat.cells];refine hK _ ?_;clear hK K;refine srQ hN fun K hK=>?_;simp [Cat.cells];refine hK _ ?_;clear hK K;refine Ql (Qt rfl rfl)
theorem c67 (u:Bool) (xs:List Int) (m n:Int):Contract Try.prog 114 [.lst u 1 (Is xs),iV m,iV n] (.val (.bool (decide ((xs.length:Int)=m) && xs.all (inR n)))):=by
 refine Qj (rs:=[.val (.bool (decide ((xs.length:Int)=m) && xs.all (inR n)))]) Try.func114 rfl rfl rfl rfl (by simp [Try.f114]) fun F hN hP=>?_;refine srQ hN fun K hK=>?_;simp;refine hK _ ?_;clear hK K;refine srQ hN fun K hK=>?_;simp;refine ⟨fun h=>?_,fun h=>hK _ (Ql (Qt rfl ?_))⟩
 ·refine Q3 (c57 u xs n) (.cons .val (.cons .lst .nil)) ?_;simp [unk,unA,unE,flat];refine hK _ (Ql (Qt rfl ?_));simp [h]
 simp [h]
theorem c41 (u:Bool) (c:Cat) (hc:c.ok):Contract Try.prog 100 [.agg (c.cells u)] (.agg (c.cells true)):=by
 obtain ⟨hc1,hc2,hc3,hc4,hc5,hc6⟩:=hc;refine Q1D Try.func100 rfl rfl y29 rfl rfl (by simp [Try.f100]) fun F hN hP=>?_;refine srQ hN fun K hK=>?_;simp [Cat.cells];refine hK _ ?_;clear hK K;refine srQ hN fun K hK=>?_;simp;refine Q3 (c58 u c.fr hc1) (.cons .lst .nil) ?_;simp [unk,unA,unE,unC,flat];refine Q3 (c58 u c.to hc2) (.cons .lst .nil) ?_;simp [unk,unA,unE,unC,flat];refine Q3 (c58 u c.id hc3) (.cons .lst .nil) ?_;simp [unk,unA,unE,unC,flat];refine Q3 (c59 u c.cs hc4 hc5) (.cons .lst .nil) ?_;simp [unk,unA,unE,unC,flat];refine hK _ (Ql ⟨_,_,_,_,_,rfl,rfl,by simp,by simp,?_⟩);clear hK K;exact ⟨.agg rfl .nil,[iV c.n,lI c.fr,lI c.to,lI c.id,.lst true 1 (Ls c.cs)],[2,3,4,5],by simp,by simp,UpL.refl _⟩
theorem c23 (u:Bool) (c:Cat) (tl:List AV) (hc:c.ok):Contract Try.prog 77 [.rptr (c.cells u++tl)] (.agg (c.cells true)):=by
 obtain ⟨hc1,hc2,hc3,hc4,hc5,hc6⟩:=hc;refine Q1D Try.func77 rfl rfl y29 rfl rfl (by simp [Try.f77]) fun F hN hP=>?_;refine srQ hN fun K hK=>?_;simp [Cat.cells];refine hK _ ?_;clear hK K;refine srQ hN fun K hK=>?_;simp;refine Q3 (c47 u c.fr hc1) (.cons .lst .nil) ?_;simp [unk,unA,unE,unC,flat];refine Q3 (c47 u c.to hc2) (.cons .lst .nil) ?_;simp [unk,unA,unE,unC,flat];refine Q3 (c47 u c.id hc3) (.cons .lst .nil) ?_;simp [unk,unA,unE,unC,flat];refine Q3 (c48 u c.cs hc4 hc5) (.cons .lst .nil) ?_;simp [unk,unA,unE,unC,flat];refine hK _ (Ql ⟨_,_,_,_,_,rfl,rfl,by simp,by simp,?_⟩);clear hK K;exact ⟨.agg rfl .nil,[iV c.n,lI c.fr,lI c.to,lI c.id,.lst true 1 (Ls c.cs)],[1,2,3,4],by simp,by simp,UpL.refl _⟩
end
section
attribute [local simp] Qh QF Qs QT QE
def ix (xs:List Int) (j:Int):Int:=xs.getD j.toNat 0
def rx (xss:List (List Int)) (j:Int):List Int:=xss.getD j.toNat []
theorem Q1d (xs:List Int) (i:Nat) (h:i<xs.length):xs[i]=ix xs i:=by simp [ix,qB,h]
theorem Q29 (xs:List (List Int)) (i:Nat) (h:i<xs.length):xs[i]=rx xs i:=by simp [rx,qB,h]
theorem Q1O (xs:List Int) (j:Int):ix xs (max j 0)=ix xs j:=by simp only [ix];congr 1;omega
theorem Q1X (xs:List (List Int)) (j:Int):rx xs (max j 0)=rx xs j:=by simp only [rx];congr 1;omega
theorem Q6z {xs:List Int} {n j:Int} (h:∀ x∈xs,inR n x=true) (h0:0≤j) (h1:j<xs.length):0≤ix xs j∧ix xs j<n:=by
 have hj:j.toNat<xs.length:=by omega
 have:=h _ (zI hj);simp only [inR,Bool.and_eq_true,decide_eq_true_eq] at this;simp only [ix,qB,List.getElem?_eq_getElem hj,qY];omega
def Cat.cell (c:Cat) (f g:Nat):Prop:=(ix c.to f ≠ ix c.fr g→ix (rx c.cs f) g = -1) ∧
 (ix c.to f=ix c.fr g→0≤ix (rx c.cs f) g∧ix (rx c.cs f) g<c.fr.length∧ix c.fr (ix (rx c.cs f) g)=ix c.fr f∧ix c.to (ix (rx c.cs f) g)=ix c.to g)
structure Cat.Sh (c:Cat):Prop where
 n0:0≤c.n
 n8:c.n≤8
 m40:c.fr.length≤40
 lt:c.to.length=c.fr.length
 fr:(∀ x∈c.fr,inR c.n x=true)
 to:(∀ x∈c.to,inR c.n x=true)
 lc:c.cs.length=c.fr.length
 li:(c.id.length:Int)=c.n
 id:(∀ x∈c.id,inR c.fr.length x=true)
 ids:∀ x:Nat,x<c.id.length→ix c.fr (ix c.id x)=x∧ix c.to (ix c.id x)=x
 rows:∀ f:Nat,f<c.fr.length→(rx c.cs f).length=c.fr.length∧∀ g:Nat,g<c.fr.length→c.cell f g
open Classical in
noncomputable def bo (p:Prop):Bool:=decide p
theorem bo_t {p:Prop} (h:p):Value.bool true=Value.bool (bo p):=by simp [bo,h]
theorem bo_f {p:Prop} (h:¬ p):Value.bool false=Value.bool (bo p):=by simp [bo,h]
theorem c69 (u:Bool) (c:Cat) (tl:List AV) (f g:Int) (h1:0≤f) (h2:f<c.cs.length) (h3:0≤g) (h4:g<(rx c.cs f).length):Contract Try.prog 76 [.rptr (c.cells u++tl),iV f,iV g] (iV (ix (rx c.cs f) g)):=by
 refine Qj (rs:=[iV (ix (rx c.cs f) g)]) Try.func76 rfl rfl rfl rfl (by simp [Try.f76]) fun F hN hP=>?_;refine srQ hN fun K hK=>?_;simp;refine hK _ ?_;clear hK K;refine srQ hN fun K hK=>?_;simp [Cat.cells,Q1d,Q29,Q1O,Q1X,h1,h2,h3,h4];refine hK _ ?_;clear hK K;refine Ql (Qt rfl rfl)
theorem c68 (u:Bool) (c:Cat) (tl:List AV) (f:Int) (h1:0≤f) (h2:f<c.fr.length) (h3:f<c.to.length):Contract Try.prog 117 [.rptr (c.cells u++tl),iV f] (.agg [iV (ix c.fr f),iV (ix c.to f)]):=by
 refine Q1D Try.func117 rfl rfl y86 rfl rfl (by simp [Try.f117]) fun F hN hP=>?_;refine srQ hN fun K hK=>?_;simp;refine hK _ ?_;clear hK K;refine srQ hN fun K hK=>?_;simp [Cat.cells,Q1d,Q1O,h1,h2,h3];refine hK _ (Ql ⟨_,_,_,_,_,rfl,rfl,by simp,by simp,?_⟩);clear hK K;exact ⟨.agg rfl .nil,[iV (ix c.fr f),iV (ix c.to f)],[],by simp,by simp,UpL.refl _⟩
theorem yes {C:Prop} (h:C):(true=true↔C):=⟨fun _=>h,fun _=>rfl⟩
def Cat.P1 (c:Cat):Prop:=0≤c.n∧c.n≤8∧c.fr.length≤40∧c.to.length=c.fr.length∧(∀ x∈c.fr,inR c.n x=true)∧(∀ x∈c.to,inR c.n x=true)∧c.cs.length=c.fr.length
def Cat.P2 (c:Cat):Prop:=(c.id.length:Int)=c.n∧(∀ x∈c.id,inR c.fr.length x=true)
def Cat.row (c:Cat) (f:Nat):Prop:=(rx c.cs f).length=c.fr.length∧∀ g:Nat,g<c.fr.length→c.cell f g
theorem Q1b {P:Nat→Prop} {x:Nat} (h:∀ y,y<x→P y) (hx:P x):∀ y,y<x+1→P y:=by
 intro y hy;rcases qZ y x with h1|h1
 ·exact h y h1
 have:y=x:=by omega
 subst this;exact hx
theorem Cat.Sh.P1 {c:Cat} (h:c.Sh):c.P1:=⟨h.n0,h.n8,h.m40,h.lt,h.fr,h.to,h.lc⟩
theorem Cat.Sh.P2 {c:Cat} (h:c.Sh):c.P2:=⟨h.li,h.id⟩
@[simp] abbrev Yg (a:Cat) (b:Bool) (c:List (Nat × Ent)):List (Nat × Ent):=(0,.mix 5 [[iV a.n,.lst b 1 (Is a.fr),.lst b 1 (Is a.to),.lst b 1 (Is a.id),.lst b 1 (Ls a.cs)]])::c
@[simp] abbrev YY (a:Cat) (b:List (Nat × AV)):List (Nat × AV):=(1,.adr 0 0 0)::(3,iV a.fr.length)::b
theorem c63 (u:Bool) (c:Cat):Contract Try.prog 97 [.agg (c.cells u)] (.val (.bool (bo c.Sh))):=by
 refine Qj (rs:=[.val (.bool (bo c.Sh))]) Try.func97 rfl rfl rfl rfl (by simp [Try.f97]) fun F hN hP=>?_;refine srQ hN fun K hK=>?_;simp [Cat.cells];refine hK _ ?_;clear hK K;refine srQ hN fun K hK=>?_;simp;refine hK _ ?_;clear hK K;refine Q1 (srQ hN fun K hK=>?_);refine join hK (fun b=>⟨YY c [(43,.val (.bool b))],Yg c u [],1⟩) (¬ c.P1) (fun hJ=>?_) fun b hb=>?_
 ·simp;refine Q3 (c56 c.n 0 8) (.cons .val (.cons .val (.cons .val .nil))) ?_;simp [unk,unA,unE,flat];refine ⟨fun a1 a2=>⟨fun a3=>?_,fun a3=>?_⟩,fun a1=>?_⟩
  ·refine Q3 (c67 u c.fr c.fr.length c.n) (.cons .lst (.cons .val (.cons .val .nil))) ?_;simp [unk,unA,unE,flat];refine ⟨fun a4=>?_,fun a4=>?_⟩
   ·refine Q3 (c67 u c.to c.fr.length c.n) (.cons .lst (.cons .val (.cons .val .nil))) ?_;simp [unk,unA,unE,flat];refine ⟨fun a5 a6=>?_,fun a5=>?_⟩
    ·exact hJ ((c.cs.length:Int) != c.fr.length) (by simp [Cat.P1];grind) _ (rbQ hP [(0,0)])
    intros;exact hJ (true) (yes fun hp=>by simp [Cat.P1] at hp;grind) _ (rbQ hP [(0,0)])
   intros;exact hJ (true) (yes fun hp=>by simp [Cat.P1] at hp;grind) _ (rbQ hP [(0,0)])
  ·exact hJ (true) (yes fun hp=>by have:=hp.2.2.1;omega) _ (rbQ hP [(0,0)])
  exact hJ (true) (yes fun hp=>by have:=hp.1;have:=hp.2.1;omega) _ (rbQ hP [(0,0)])
 clear hK K;refine Qa rfl (fun h=>?_) fun h=>?_
 ·refine srQ hN fun K hK=>?_;simp;refine hK _ (Ql (Qt rfl (bo_f fun hs=>?_)));clear hK K;exact hb.1 h hs.P1
 have p1:c.P1:=zG fun hn=>by rw [hb.2 hn] at h;cases h
 refine Qc (Q1 (srQ hN fun K hK=>?_));refine join hK (fun b=>⟨YY c [(56,.val (.bool b))],Yg c u [],1⟩) (¬ c.P2) (fun hJ=>?_) fun b hb=>?_
 ·simp;refine ⟨fun a1=>?_,fun a1=>?_⟩
  ·refine Q3 (c57 u c.id c.fr.length) (.cons .val (.cons .lst .nil)) ?_;simp [unk,unA,unE,flat];exact hJ (!c.id.all (inR c.fr.length)) (by simp [Cat.P2,a1]) _ (rbQ hP [(0,0)])
  exact hJ (true) (yes fun hp=>a1 hp.1) _ (rbQ hP [(0,0)])
 clear hK K;refine Qa rfl (fun h=>?_) fun h=>?_
 ·refine srQ hN fun K hK=>?_;simp;refine hK _ (Ql (Qt rfl (bo_f fun hs=>?_)));clear hK K;exact hb.1 h hs.P2
 have p2:c.P2:=zG fun hn=>by rw [hb.2 hn] at h;cases h
 have hl1:c.to.length=c.fr.length:=p1.2.2.2.1;have hl2:c.cs.length=c.fr.length:=p1.2.2.2.2.2.2;have hl3:(c.id.length:Int)=c.n:=p2.1;have hn8:c.n≤8:=p1.2.1;have hm40:c.fr.length≤40:=p1.2.2.1;refine Qc (Q1 (srQ hN fun K hK=>?_));simp;refine hK _ (Q7 (Q1l (fun x:Nat=>⟨YY c [(4,iV x)],Yg c u [],1⟩) (fun x=>x≤c.id.length∧∀ y:Nat,y<x→ix c.fr (ix c.id y)=y∧ix c.to (ix c.id y)=y) (fun x=>c.id.length - x) 0 (by simp) (rbQ hP [(0,0)]) ?_));clear hK K
 rintro x ⟨hx,hi0⟩
 refine Q1 (srQ hN fun K hK=>?_);simp;refine hK _ ?_;clear hK K;refine Qa rfl (fun h=>?_) fun h=>?_
 ·simp at h;have hx1:x<c.id.length:=by omega
  have b1:=Q6z p2.2 (j:=x) (by omega) (by omega);have b2:ix c.id x<c.to.length:=by omega
  refine Qc (Q1 (Q7 (srQ hN fun K hK=>?_)));refine join hK (fun b=>⟨YY c [(4,iV x),(86,.val (.bool b))],Yg c u [],1⟩) (¬ (ix c.fr (ix c.id x)=x∧ix c.to (ix c.id x)=x)) (fun hJ=>?_) fun b hb=>?_
  ·simp [Q1d,Q29,Q1O,Q1X,hx1,b1.1,b1.2,b2];refine ⟨fun a1=>?_,fun a1=>?_⟩
   ·exact hJ (ix c.to (ix c.id x) != x) (by simp [a1]) _ (rbQ hP [(0,0)])
   exact hJ (true) (yes fun hp=>a1 hp.1) _ (rbQ hP [(0,0)])
  clear hK K;refine Qa rfl (fun h=>?_) fun h=>?_
  ·refine srQ hN fun K hK=>?_;simp;refine hK _ (Ql (Qt rfl (bo_f fun hs=>?_)));clear hK K;exact hb.1 h (hs.ids x hx1)
  have hc:ix c.fr (ix c.id x)=x∧ix c.to (ix c.id x)=x:=zG fun hn=>by rw [hb.2 hn] at h;cases h
  refine Qc (runQ hN fun K hK=>?_);simp;refine hK _ ?_;clear hK K;rw [QC (n:=c.id.length) (by omega) (by omega)];refine ⟨x+1,⟨by omega,Q1b hi0 hc⟩,by dsimp only;omega,(rbQ hP [(0,0)])⟩
 simp at h;have hx2:c.id.length≤x:=by omega
 clear h;refine Qp ?_;simp;refine Q1 (srQ hN fun K hK=>?_);simp;refine hK _ (Q7 ?_);clear hK K;have hi1:∀ y:Nat,y<c.id.length→ix c.fr (ix c.id y)=y∧ix c.to (ix c.id y)=y:=fun y hy=>hi0 y (by omega);refine Q1l (fun f:Nat=>⟨YY c [(5,iV f)],Yg c u [],1⟩) (fun f=>f≤c.fr.length∧∀ y:Nat,y<f→c.row y) (fun f=>c.fr.length - f) 0 (by simp) (rbQ hP [(0,0)]) ?_
 rintro f ⟨hf,hi2⟩
 refine Q1 (srQ hN fun K hK=>?_);simp;refine hK _ ?_;clear hK K;refine Qa rfl (fun h=>?_) fun h=>?_
 ·simp at h;have hf1:f<c.fr.length:=h;clear h;refine Qc (Q1 (Q7 (Q1 (srQ hN fun K hK=>?_))));simp [Q1d,Q29,Q1O,Q1X,hl2,hf1];refine hK _ ?_;clear hK K;refine Qa rfl (fun h=>?_) fun h=>?_
  ·simp at h;refine srQ hN fun K hK=>?_;simp;refine hK _ (Ql (Qt rfl (bo_f fun hs=>?_)));clear hK K;exact absurd (hs.rows f hf1).1 (by omega)
  simp at h;have hr:(rx c.cs f).length=c.fr.length:=by omega
  clear h;refine Qc (srQ hN fun K hK=>?_);simp;refine hK _ (Q7 (Q1l (fun g:Nat=>⟨YY c [(5,iV f),(6,iV g)],Yg c u [],1⟩) (fun g=>g≤c.fr.length∧∀ y:Nat,y<g→c.cell f y) (fun g=>c.fr.length - g) 0 (by simp) (rbQ hP [(0,0)]) ?_));clear hK K
  rintro g ⟨hg,hi3⟩
  refine Q1 (srQ hN fun K hK=>?_);simp;refine hK _ ?_;clear hK K;refine Qa rfl (fun h=>?_) fun h=>?_
  ·simp at h;have hg1:g<c.fr.length:=h;clear h;refine Qc (Q1 (Q7 (srQ hN fun K hK=>?_)));simp [Q1d,Q29,Q1O,Q1X,hl2,hf1,hr,hg1];refine hK _ ?_;clear hK K;refine Q1 (srQ hN fun K hK=>?_);simp [Q1d,Q29,Q1O,Q1X,hl1,hf1,hg1];refine hK _ ?_;clear hK K;refine Qa rfl (fun h1=>?_) fun h1=>?_
   ·simp at h1;refine Q1 (srQ hN fun K hK=>?_);simp;refine hK _ ?_;clear hK K;refine Qa rfl (fun h2=>?_) fun h2=>?_
    ·simp at h2;refine srQ hN fun K hK=>?_;simp;refine hK _ (Ql (Qt rfl (bo_f fun hs=>?_)));clear hK K;exact h2 (((hs.rows f hf1).2 g hg1).1 h1)
    simp at h2;have hc:c.cell f g:=⟨fun _=>h2,fun e=>absurd e h1⟩;refine Qc (Qp ?_);simp;refine runQ hN fun K hK=>?_;simp;refine hK _ ?_;clear hK K;rw [QC (n:=c.fr.length) (by omega) (by omega)];refine ⟨g+1,⟨by omega,Q1b hi3 hc⟩,by dsimp only;omega,(rbQ hP [(0,0)])⟩
   simp at h1;refine Qc (srQ hN fun K hK=>?_);refine join hK (fun b=>⟨YY c [(5,iV f),(6,iV g),(158,.val (.bool b))],Yg c u [],1⟩) (¬ c.cell f g) (fun hJ=>?_) fun b hb=>?_
   ·simp +contextual [Q1d,Q29,Q1O,Q1X,hl1,hf1,hg1];have hcell:c.cell f g↔0≤ix (rx c.cs f) g∧ix (rx c.cs f) g<c.fr.length∧ix c.fr (ix (rx c.cs f) g)=ix c.fr f∧ix c.to (ix (rx c.cs f) g)=ix c.to g:=⟨fun q=>q.2 h1,fun q=>⟨fun e=>absurd h1 e,fun _=>q⟩⟩;rw [hcell] at hJ;refine ⟨fun a1=>⟨fun a2=>⟨fun a3=>?_,fun a3=>?_⟩,fun a2=>?_⟩,fun a1=>?_⟩
    ·exact hJ (ix c.to (ix (rx c.cs f) g) != ix c.to g) (by simp [a1,a2,a3]) _ (rbQ hP [(0,0)])
    ·exact hJ (true) (yes fun hp=>a3 hp.2.2.1) _ (rbQ hP [(0,0)])
    ·exact hJ (true) (yes fun hp=>by omega) _ (rbQ hP [(0,0)])
    exact hJ (true) (yes fun hp=>by omega) _ (rbQ hP [(0,0)])
   clear hK K;refine Qa rfl (fun h=>?_) fun h=>?_
   ·refine srQ hN fun K hK=>?_;simp;refine hK _ (Ql (Qt rfl (bo_f fun hs=>?_)));clear hK K;exact hb.1 h ((hs.rows f hf1).2 g hg1)
   have hc:c.cell f g:=zG fun hn=>by rw [hb.2 hn] at h;cases h
   refine Qc (runQ hN fun K hK=>?_);simp;refine hK _ ?_;clear hK K;rw [QC (n:=c.fr.length) (by omega) (by omega)];refine ⟨g+1,⟨by omega,Q1b hi3 hc⟩,by dsimp only;omega,(rbQ hP [(0,0)])⟩
  simp at h;have hg2:c.fr.length≤g:=by omega
  clear h;refine Qp ?_;simp;refine runQ hN fun K hK=>?_;simp;refine hK _ ?_;clear hK K;rw [QC (n:=c.fr.length) (by omega) (by omega)];refine ⟨f+1,⟨by omega,Q1b hi2 ⟨hr,fun y hy=>hi3 y (by omega)⟩⟩,by dsimp only;omega,(rbQ hP [(0,0)])⟩
 simp at h;have hf2:c.fr.length≤f:=by omega
 clear h;refine Qp ?_;simp;refine srQ hN fun K hK=>?_;simp;refine hK _ (Ql (Qt rfl (bo_t ?_)));clear hK K;exact ⟨p1.1,p1.2.1,p1.2.2.1,hl1,p1.2.2.2.2.1,p1.2.2.2.2.2.1,hl2,hl3,p2.2,hi1,fun y hy=>hi2 y (by omega)⟩
def Cat.Q1 (c:Cat):Prop:=0≤c.n∧c.n≤8∧c.fr.length≤40∧c.to.length=c.fr.length∧(∀ x∈c.fr,inR c.n x=true)∧(∀ x∈c.to,inR c.n x=true)
def Cat.Q2 (c:Cat):Prop:=(c.id.length:Int)=c.n∧(∀ x∈c.id,inR c.fr.length x=true)∧c.cs.length=c.fr.length
theorem Cat.Sh.Q1 {c:Cat} (h:c.Sh):c.Q1:=⟨h.n0,h.n8,h.m40,h.lt,h.fr,h.to⟩
theorem Cat.Sh.Q2 {c:Cat} (h:c.Sh):c.Q2:=⟨h.li,h.id,h.lc⟩
@[simp] abbrev Ye (a:Cat) (b:Bool) (c:List AV) (d:List (Nat × AV)):List (Nat × AV):=(0,.rptr (iV a.n :: .lst b 1 (Is a.fr) :: .lst b 1 (Is a.to) :: .lst b 1 (Is a.id) :: .lst b 1 (Ls a.cs) :: c))::d
theorem c65 (u:Bool) (c:Cat) (tl:List AV):Contract Try.prog 104 [.rptr (c.cells u++tl)] (.val (.bool (bo c.Sh))):=by
 refine Qj (rs:=[.val (.bool (bo c.Sh))]) Try.func104 rfl rfl rfl rfl (by simp [Try.f104]) fun F hN hP=>?_;simp only [Cat.cells,List.cons_append,List.nil_append];refine srQ hN fun K hK=>?_;simp [Cat.cells];refine hK _ ?_;clear hK K;refine srQ hN fun K hK=>?_;simp;refine Q3 (c61 u c tl) (.cons .rptr .nil) ?_;simp [unk,unA,unE,flat];refine hK _ ?_;clear hK K;refine Q1 (srQ hN fun K hK=>?_);refine join hK (fun b=>⟨Ye c u tl [(3,iV c.fr.length),(54,.val (.bool b))],[],0⟩) (¬ c.Q1) (fun hJ=>?_) fun b hb=>?_
 ·simp [Cat.cells];refine Q3 (c46 c.n 0 8) (.cons .val (.cons .val (.cons .val .nil))) ?_;simp [unk,unA,unE,flat];refine ⟨fun a1 a2=>⟨fun a3=>⟨fun a7=>?_,fun a7=>?_⟩,fun a3=>?_⟩,fun a1=>?_⟩
  ·refine Q3 (c22 u c.fr c.n ⟨by omega,by omega⟩) (.cons .lst (.cons .val .nil)) ?_;simp [unk,unA,unE,flat];refine ⟨fun a4=>?_,fun a4=>?_⟩
   ·refine Q3 (c22 u c.to c.n ⟨by omega,by omega⟩) (.cons .lst (.cons .val .nil)) ?_;simp [unk,unA,unE,flat];exact hJ (!c.to.all (inR c.n)) (by simp [Cat.Q1];grind) _ (rbQ hP [])
   intros;exact hJ (true) (yes fun hp=>by simp [Cat.Q1] at hp;grind) _ (rbQ hP [])
  ·exact hJ (true) (yes fun hp=>by have:=hp.2.2.2.1;omega) _ (rbQ hP [])
  ·exact hJ (true) (yes fun hp=>by have:=hp.2.2.1;omega) _ (rbQ hP [])
  exact hJ (true) (yes fun hp=>by have:=hp.1;have:=hp.2.1;omega) _ (rbQ hP [])
 clear hK K;refine Qa rfl (fun h=>?_) fun h=>?_
 ·refine srQ hN fun K hK=>?_;simp;refine hK _ (Ql (Qt rfl (bo_f fun hs=>?_)));clear hK K;exact hb.1 h hs.Q1
 have p1:c.Q1:=zG fun hn=>by rw [hb.2 hn] at h;cases h
 have hm40:c.fr.length≤40:=p1.2.2.1;refine Qc (Q1 (srQ hN fun K hK=>?_));refine join hK (fun b=>⟨Ye c u tl [(3,iV c.fr.length),(82,.val (.bool b))],[],0⟩) (¬ c.Q2) (fun hJ=>?_) fun b hb=>?_
 ·simp [Cat.cells];refine ⟨fun a1=>?_,fun a1=>?_⟩
  ·refine Q3 (c22 u c.id c.fr.length ⟨by omega,by omega⟩) (.cons .lst (.cons .val .nil)) ?_;simp [unk,unA,unE,flat];refine ⟨fun a2=>?_,fun a2=>?_⟩
   ·exact hJ ((c.cs.length:Int) != c.fr.length) (by simp [Cat.Q2];grind) _ (rbQ hP [])
   intros;exact hJ (true) (yes fun hp=>by simp [Cat.Q2] at hp;grind) _ (rbQ hP [])
  exact hJ (true) (yes fun hp=>a1 hp.1) _ (rbQ hP [])
 clear hK K;refine Qa rfl (fun h=>?_) fun h=>?_
 ·refine srQ hN fun K hK=>?_;simp;refine hK _ (Ql (Qt rfl (bo_f fun hs=>?_)));clear hK K;exact hb.1 h hs.Q2
 have p2:c.Q2:=zG fun hn=>by rw [hb.2 hn] at h;cases h
 have hl1:c.to.length=c.fr.length:=p1.2.2.2.1;have hl2:c.cs.length=c.fr.length:=p2.2.2;have hl3:(c.id.length:Int)=c.n:=p2.1;have hn8:c.n≤8:=p1.2.1;refine Qc (Q1 (srQ hN fun K hK=>?_));simp;refine hK _ (Q7 (Q1l (fun x:Nat=>⟨Ye c u tl [(3,iV c.fr.length),(86,.lst u 1 (Is c.id)),(87,iV c.id.length),(88,iV x)],[],0⟩) (fun x=>x≤c.id.length∧∀ y:Nat,y<x→ix c.fr (ix c.id y)=y∧ix c.to (ix c.id y)=y) (fun x=>c.id.length - x) 0 (by simp) (rbQ hP []) ?_));clear hK K
 rintro x ⟨hx,hi0⟩
 refine srQ hN fun K hK=>?_;simp;refine hK _ ?_;clear hK K;refine Q1 (Qa rfl (fun h=>?_) fun h=>?_)
 ·simp at h;have hx1:x<c.id.length:=h;clear h;have b1:=Q6z p2.2.1 (j:=x) (by omega) (by omega);refine Qc (Q1 (Q7 (srQ hN fun K hK=>?_)));simp [Q1d,Q29,Q1O,Q1X,hx1];refine hK _ ?_;clear hK K;refine srQ hN fun K hK=>?_;simp;refine Q3 (c68 u c tl (ix c.id x) b1.1 b1.2 (by omega)) (.cons .rptr (.cons .val .nil)) ?_;simp [unk,unA,unE,unC,flat,Qf];refine hK _ ?_;clear hK K;refine Qa rfl (fun h=>?_) fun h=>?_
  ·simp at h;refine srQ hN fun K hK=>?_;simp;refine hK _ (Ql (Qt rfl (bo_f fun hs=>?_)));clear hK K;have:=hs.ids x hx1;simp [this.1,this.2] at h
  simp at h;have hc:ix c.fr (ix c.id x)=x∧ix c.to (ix c.id x)=x:=h;refine Qc (runQ hN fun K hK=>?_);simp;refine hK _ ?_;clear hK K;rw [QC (n:=c.id.length) (by omega) (by omega)];refine ⟨x+1,⟨by omega,Q1b hi0 hc⟩,by dsimp only;omega,(rbQ hP [])⟩
 simp at h;have hx2:c.id.length≤x:=by omega
 clear h;refine Qp ?_;simp;refine Q1 (srQ hN fun K hK=>?_);simp [hl2];refine hK _ (Q7 ?_);clear hK K;have hi1:∀ y:Nat,y<c.id.length→ix c.fr (ix c.id y)=y∧ix c.to (ix c.id y)=y:=fun y hy=>hi0 y (by omega);refine Q1l (fun f:Nat=>⟨Ye c u tl [(3,iV c.fr.length),(104,.lst u 1 (Ls c.cs)),(105,iV c.fr.length),(106,iV f)],[],0⟩) (fun f=>f≤c.fr.length∧∀ y:Nat,y<f→c.row y) (fun f=>c.fr.length - f) 0 (by simp) (rbQ hP []) ?_
 rintro f ⟨hf,hi2⟩
 refine srQ hN fun K hK=>?_;simp;refine hK _ ?_;clear hK K;refine Q1 (Qa rfl (fun h=>?_) fun h=>?_)
 ·simp at h;have hf1:f<c.fr.length:=h;clear h;refine Qc (Q1 (Q7 (srQ hN fun K hK=>?_)));simp [Q1d,Q29,Q1O,Q1X,hl2,hf1];refine hK _ ?_;clear hK K;refine Q1 (srQ hN fun K hK=>?_);simp;refine hK _ ?_;clear hK K;refine Qa rfl (fun h=>?_) fun h=>?_
  ·simp at h;refine srQ hN fun K hK=>?_;simp;refine hK _ (Ql (Qt rfl (bo_f fun hs=>?_)));clear hK K;exact absurd (hs.rows f hf1).1 (by omega)
  simp at h;have hr:(rx c.cs f).length=c.fr.length:=by omega
  clear h;refine Qc (srQ hN fun K hK=>?_);simp [hr];refine hK _ (Q7 (Q1l (fun g:Nat=>⟨Ye c u tl [(3,iV c.fr.length),(6,iV f),(104,.lst u 1 (Ls c.cs)),(105,iV c.fr.length),(106,iV f),(115,lI (rx c.cs f)),(116,iV c.fr.length),(117,iV g)],[],0⟩) (fun g=>g≤c.fr.length∧∀ y:Nat,y<g→c.cell f y) (fun g=>c.fr.length - g) 0 (by simp) (rbQ hP []) ?_));clear hK K
  rintro g ⟨hg,hi3⟩
  refine srQ hN fun K hK=>?_;simp;refine hK _ ?_;clear hK K;refine Q1 (Qa rfl (fun h=>?_) fun h=>?_)
  ·simp at h;have hg1:g<c.fr.length:=h;clear h;refine Qc (Q1 (Q7 (srQ hN fun K hK=>?_)));simp [Q1d,Q29,Q1O,Q1X,hr,hg1];refine hK _ ?_;clear hK K;refine Q1 (srQ hN fun K hK=>?_);simp [Q1d,Q29,Q1O,Q1X,hl1,hf1,hg1];refine hK _ ?_;clear hK K;refine Qa rfl (fun h1=>?_) fun h1=>?_
   ·simp at h1;refine Q1 (srQ hN fun K hK=>?_);simp;refine hK _ ?_;clear hK K;refine Qa rfl (fun h2=>?_) fun h2=>?_
    ·simp at h2;refine srQ hN fun K hK=>?_;simp;refine hK _ (Ql (Qt rfl (bo_f fun hs=>?_)));clear hK K;exact h2 (((hs.rows f hf1).2 g hg1).1 h1)
    simp at h2;have hc:c.cell f g:=⟨fun _=>h2,fun e=>absurd e h1⟩;refine Qc (Qp ?_);simp;refine runQ hN fun K hK=>?_;simp;refine hK _ ?_;clear hK K;rw [QC (n:=c.fr.length) (by omega) (by omega)];refine ⟨g+1,⟨by omega,Q1b hi3 hc⟩,by dsimp only;omega,(rbQ hP [])⟩
   simp at h1;refine Qc (srQ hN fun K hK=>?_);refine join hK (fun b=>⟨Ye c u tl [(3,iV c.fr.length),(104,.lst u 1 (Ls c.cs)),(105,iV c.fr.length),(106,iV f),(115,lI (rx c.cs f)),(116,iV c.fr.length),(117,iV g),(6,iV f),(164,.val (.bool b))],[],0⟩) (¬ c.cell f g) (fun hJ=>?_) fun b hb=>?_
   ·simp;have hcell:c.cell f g↔0≤ix (rx c.cs f) g∧ix (rx c.cs f) g<c.fr.length∧ix c.fr (ix (rx c.cs f) g)=ix c.fr f∧ix c.to (ix (rx c.cs f) g)=ix c.to g:=⟨fun q=>q.2 h1,fun q=>⟨fun e=>absurd h1 e,fun _=>q⟩⟩;rw [hcell] at hJ;refine Q3 (c46 (ix (rx c.cs f) g) 0 (c.fr.length - 1)) (by rw [Qm ⟨by omega,by omega⟩];exact .cons .val (.cons .val (.cons .val .nil))) ?_;simp [unk,unA,unE,flat];refine ⟨fun a1 a2=>?_,fun a1=>?_⟩
    ·refine Q3 (c68 u c tl (ix (rx c.cs f) g) a1 (by omega) (by omega)) (.cons .rptr (.cons .val .nil)) ?_;simp [unk,unA,unE,unC,flat,Qf,Q1d,Q29,Q1O,Q1X,hl1,hf1,hg1];exact hJ (!(ix c.fr (ix (rx c.cs f) g) == ix c.fr f) || !(ix c.to (ix (rx c.cs f) g) == ix c.to g)) (by simp [a1];grind) _ (rbQ hP [])
    exact hJ (true) (yes fun hp=>by omega) _ (rbQ hP [])
   clear hK K;refine Qa rfl (fun h=>?_) fun h=>?_
   ·refine srQ hN fun K hK=>?_;simp;refine hK _ (Ql (Qt rfl (bo_f fun hs=>?_)));clear hK K;exact hb.1 h ((hs.rows f hf1).2 g hg1)
   have hc:c.cell f g:=zG fun hn=>by rw [hb.2 hn] at h;cases h
   refine Qc (runQ hN fun K hK=>?_);simp;refine hK _ ?_;clear hK K;rw [QC (n:=c.fr.length) (by omega) (by omega)];refine ⟨g+1,⟨by omega,Q1b hi3 hc⟩,by dsimp only;omega,(rbQ hP [])⟩
  simp at h;have hg2:c.fr.length≤g:=by omega
  clear h;refine Qp ?_;simp;refine runQ hN fun K hK=>?_;simp;refine hK _ ?_;clear hK K;rw [QC (n:=c.fr.length) (by omega) (by omega)];refine ⟨f+1,⟨by omega,Q1b hi2 ⟨hr,fun y hy=>hi3 y (by omega)⟩⟩,by dsimp only;omega,(rbQ hP [])⟩
 simp at h;have hf2:c.fr.length≤f:=by omega
 clear h;refine Qp ?_;simp;refine srQ hN fun K hK=>?_;simp;refine hK _ (Ql (Qt rfl (bo_t ?_)));clear hK K;exact ⟨p1.1,p1.2.1,p1.2.2.1,hl1,p1.2.2.2.2.1,p1.2.2.2.2.2,hl2,hl3,p2.2.1,hi1,fun y hy=>hi2 y (by omega)⟩
end
section
attribute [local simp] Qh QF Qs QT QE
def first {α:Type} (p:Nat→Option α):Nat→Option α
 | 0=>none
 | n+1=>match first p n with
  | some a=>some a
  | none=>p n
theorem Q1A {α:Type} {p:Nat→Option α}:∀ {n:Nat},(∀ j,j<n→p j=none)→first p n=none:=by
 intro n
 induction n with
 | zero=>intro _;rfl
 | succ n ih=>intro h;simp only [first];rw [ih fun j hj=>h j (by omega)];exact h n (by omega)
theorem Q41 {α:Type} {p:Nat→Option α} {i:Nat} {a:α} (h1:∀ j,j<i→p j=none) (h2:p i=some a):∀ {n:Nat},i<n→first p n=some a:=by
 intro n
 induction n with
 | zero=>intro h;omega
 | succ n ih =>
  intro h;simp only [first];rcases qZ i n with hlt|hge
  ·rw [ih hlt]
  have:i=n:=by omega
  subst this;rw [Q1A h1];exact h2
theorem Q4A {α:Type} {p:Nat→Option α}:∀ {n:Nat},first p n=none→∀ j,j<n→p j=none:=by
 intro n
 induction n with
 | zero=>intro _ j hj;omega
 | succ n ih =>
  intro h j hj;simp only [first] at h;split at h
  ·cases h
  rename_i h0;rcases qZ j n with hlt|hge
  ·exact ih h0 j hlt
  have:j=n:=by omega
  subst this;exact h
def Cat.un (c:Cat) (f:Nat):Prop:=ix (rx c.cs (ix c.id (ix c.fr f))) f=f∧ix (rx c.cs f) (ix c.id (ix c.to f))=f
def Cat.as (c:Cat) (f g h:Nat):Prop:=ix c.to f=ix c.fr g→ix c.to g=ix c.fr h→ix (rx c.cs (ix (rx c.cs f) g)) h=ix (rx c.cs f) (ix (rx c.cs g) h)
open Classical in
noncomputable def Cat.f1 (c:Cat) (f:Nat):Option (Int × Int × Int × Int):=if c.un f then none else some (1,f,0,0)
open Classical in
noncomputable def Cat.f2 (c:Cat) (f g h:Nat):Option (Int × Int × Int × Int):=if c.as f g h then none else some (2,f,g,h)
noncomputable def Cat.fault (c:Cat):Option (Int × Int × Int × Int):=match first c.f1 c.fr.length with
 | some x=>some x
 | none=>first (fun f=>first (fun g=>first (fun h=>c.f2 f g h) c.fr.length) c.fr.length) c.fr.length
def Cat.Law (c:Cat):Prop:=(∀ f,f<c.fr.length→c.un f)∧∀ f,f<c.fr.length→∀ g,g<c.fr.length→∀ h,h<c.fr.length→c.as f g h
section
variable {c:Cat}
theorem Q7G {f:Nat} (hf:f<c.fr.length) (h1:∀ y,y<f→c.un y) (h2:¬ c.un f):c.fault=some (1,(f:Int),0,0):=by
 unfold Cat.fault;rw [Q41 (i:=f) (a:=(1,(f:Int),0,0)) (fun j hj=>by simp [Cat.f1,h1 j hj]) (by simp [Cat.f1,h2]) hf]
theorem Q7H {f g h:Nat} (hf:f<c.fr.length) (hg:g<c.fr.length) (hh:h<c.fr.length) (h0:∀ y,y<c.fr.length→c.un y) (h1:∀ y,y<f→∀ g,g<c.fr.length→∀ h,h<c.fr.length→c.as y g h)
  (h2:∀ y,y<g→∀ h,h<c.fr.length→c.as f y h) (h3:∀ y,y<h→c.as f g y) (h4:¬ c.as f g h):c.fault=some (2,(f:Int),(g:Int),(h:Int)):=by
 unfold Cat.fault;rw [Q1A fun j hj=>by simp [Cat.f1,h0 j hj]];simp only;refine Q41 (i:=f) (fun j hj=>Q1A fun g hg=>Q1A fun h hh=>by simp [Cat.f2,h1 j hj g hg h hh]) ?_ hf;refine Q41 (i:=g) (fun j hj=>Q1A fun h hh=>by simp [Cat.f2,h2 j hj h hh]) ?_ hg;refine Q41 (i:=h) (fun j hj=>by simp [Cat.f2,h3 j hj]) ?_ hh;simp [Cat.f2,h4]
theorem Q4X (h0:∀ y,y<c.fr.length→c.un y) (h1:∀ y,y<c.fr.length→∀ g,g<c.fr.length→∀ h,h<c.fr.length→c.as y g h):c.fault=none:=by
 unfold Cat.fault;rw [Q1A fun j hj=>by simp [Cat.f1,h0 j hj]];exact Q1A fun f hf=>Q1A fun g hg=>Q1A fun h hh=>by simp [Cat.f2,h1 f hf g hg h hh]
theorem Cat.Sh.fr' (hs:c.Sh) {j:Int} (h0:0≤j) (h1:j<c.fr.length):0≤ix c.fr j∧ix c.fr j<c.id.length:=by
 have:=Q6z hs.fr h0 h1;have:=hs.li;omega
theorem Cat.Sh.to' (hs:c.Sh) {j:Int} (h0:0≤j) (h1:j<c.fr.length):0≤ix c.to j∧ix c.to j<c.id.length:=by
 have:=Q6z hs.to h0 (by rw [hs.lt];exact h1);have:=hs.li;omega
theorem Cat.Sh.id' (hs:c.Sh) {j:Int} (h0:0≤j) (h1:j<c.id.length):0≤ix c.id j∧ix c.id j<c.fr.length:=Q6z hs.id h0 h1
theorem Cat.Sh.row' (hs:c.Sh) {j:Int} (h0:0≤j) (h1:j<c.fr.length):(rx c.cs j).length=c.fr.length:=by
 have:=(hs.rows j.toNat (by omega)).1
 rwa [Int.toNat_of_nonneg h0] at this
theorem Cat.Sh.cell' (hs:c.Sh) {f g:Int} (h0:0≤f) (h1:f<c.fr.length) (h2:0≤g) (h3:g<c.fr.length):(ix c.to f ≠ ix c.fr g→ix (rx c.cs f) g = -1) ∧
  (ix c.to f=ix c.fr g→0≤ix (rx c.cs f) g∧ix (rx c.cs f) g<c.fr.length∧ix c.fr (ix (rx c.cs f) g)=ix c.fr f∧ix c.to (ix (rx c.cs f) g)=ix c.to g):=by
 have:=(hs.rows f.toNat (by omega)).2 g.toNat (by omega);simpa only [Cat.cell,Int.toNat_of_nonneg h0,Int.toNat_of_nonneg h2] using this
end
theorem nope {C:Prop} (h:¬ C):(false=true↔C):=⟨fun h1=>Bool.noConfusion h1,fun h2=>absurd h2 h⟩
def four (k:Option (Int × Int × Int × Int)):List AV :=
 [.val (.int .i64 (k.getD (0,0,0,0)).1),.val (.int .i64 (k.getD (0,0,0,0)).2.1),.val (.int .i64 (k.getD (0,0,0,0)).2.2.1),.val (.int .i64 (k.getD (0,0,0,0)).2.2.2)]
theorem fault_zero {c:Cat}:(c.fault.getD (0,0,0,0)).1=0↔c.Law:=by
 by_cases h1:∀ y,y<c.fr.length→c.un y
 ·by_cases h2:∀ y,y<c.fr.length→∀ g,g<c.fr.length→∀ h,h<c.fr.length→c.as y g h
  ·rw [Q4X h1 h2];exact ⟨fun _=>⟨h1,h2⟩,fun _=>rfl⟩
  have:c.fault ≠ none:=by
   intro h0;apply h2;unfold Cat.fault at h0;split at h0
   ·cases h0
   intro f hf g hg h hh;have:=Q4A (Q4A (Q4A h0 f hf) g hg) h hh;simpa [Cat.f2] using this
  refine ⟨fun h=>?_,fun h=>absurd h.2 h2⟩;exfalso;unfold Cat.fault at this h;rw [Q1A fun j hj=>by simp [Cat.f1,h1 j hj]] at this h;simp only at this h;have key:∀ {α:Type} (p:Nat→Option α) (Q:α→Prop),(∀ i a,p i=some a→Q a)→∀ n a,first p n=some a→Q a:=by
   intro α p Q hp n
   induction n with
   | zero=>intro a h;cases h
   | succ n ih =>
    intro a h;simp only [first] at h;split at h
    ·rename_i x hx;cases h;exact ih _ hx
    exact hp _ _ h
  obtain ⟨x,hx⟩:=Option.ne_none_iff_exists'.1 this;have:x.1=2:=key _ (fun x=>x.1=2) (fun f a ha=>key _ (fun x=>x.1=2) (fun g a ha=>key _ (fun x=>x.1=2) (fun h a ha=>by
   simp only [Cat.f2] at ha;split at ha
   ·cases ha
   cases ha;rfl) _ _ ha) _ _ ha) _ _ hx
  rw [hx] at h;simp [this] at h
 refine ⟨fun h=>?_,fun h=>absurd h.1 h1⟩;exfalso;unfold Cat.fault at h;cases hq:first c.f1 c.fr.length with
 | none =>
  apply h1;intro y hy;have:=Q4A hq y hy;simpa [Cat.f1] using this
 | some x =>
  rw [hq] at h;have key:∀ n a,first c.f1 n=some a→a.1=1:=by
   intro n
   induction n with
   | zero=>intro a h;cases h
   | succ n ih =>
    intro a h;simp only [first] at h;split at h
    ·rename_i x hx;cases h;exact ih _ hx
    simp only [Cat.f1] at h;split at h
    ·cases h
    cases h;rfl
  have:=key _ _ hq;simp [this] at h
@[simp] abbrev Y06 (a:Cat) (b:List (Nat × AV)):List (Nat × AV):=(1,.adr 0 0 0)::(6,iV a.fr.length)::b
theorem c64 (u:Bool) (c:Cat) (hs:c.Sh):Contract Try.prog 98 [.agg (c.cells u)] (.tup (four c.fault)):=by
 refine Qj (rs:=four c.fault) Try.func98 rfl rfl rfl rfl (by simp [Try.f98]) fun F hN hP=>?_;have hl1:=hs.lt;have hl2:=hs.lc;have hm40:=hs.m40;refine srQ hN fun K hK=>?_;simp [Cat.cells];refine hK _ ?_;clear hK K;refine srQ hN fun K hK=>?_;simp [Cat.cells];refine hK _ ?_;clear hK K;refine Q1 (srQ hN fun K hK=>?_);simp;refine hK _ (Q7 (Q1l (fun f:Nat=>⟨Y06 c [(7,iV f)],Yg c u [],1⟩) (fun f=>f≤c.fr.length∧∀ y:Nat,y<f→c.un y) (fun f=>c.fr.length - f) 0 (by simp) (rbQ hP [(0,0)]) ?_));clear hK K
 rintro f ⟨hf0,hi0⟩
 refine Q1 (srQ hN fun K hK=>?_);simp;refine hK _ ?_;clear hK K;refine Qa rfl (fun h=>?_) fun h=>?_
 ·simp at h;have hf:f<c.fr.length:=by omega
  clear h;have a1:=hs.fr' (j:=f) (by omega) (by omega);have a2:=hs.id' a1.1 a1.2;have a3:=hs.row' a2.1 a2.2;have a4:=hs.row' (j:=f) (by omega) (by omega);have a5:=hs.to' (j:=f) (by omega) (by omega);have a6:=hs.id' a5.1 a5.2;refine Qc (Q1 (Q7 (srQ hN fun K hK=>?_)));refine join hK (fun b=>⟨Y06 c [(7,iV f),(56,.val (.bool b))],Yg c u [],1⟩) (¬ c.un f) (fun hJ=>?_) fun b hb=>?_
  ·simp [Q1d,Q29,Q1O,Q1X,hl1,hl2,hf,a1.1,a1.2,a2.1,a2.2,a3,a4,a5.1,a5.2,a6.1,a6.2];refine ⟨fun b1=>?_,fun b1=>?_⟩
   ·exact hJ (ix (rx c.cs f) (ix c.id (ix c.to f)) != f) (by simp [Cat.un,b1]) _ (rbQ hP [(0,0)])
   exact hJ (true) (yes fun hp=>b1 hp.1) _ (rbQ hP [(0,0)])
  clear hK K;refine Qa rfl (fun h=>?_) fun h=>?_
  ·refine srQ hN fun K hK=>?_;simp;refine hK _ (Ql ?_);clear hK K;rw [Q7G hf hi0 (hb.1 h)];refine ⟨.one rfl rfl (.one rfl rfl (.one rfl rfl (.one rfl rfl .nil))),_,[],rfl,by simp,UpL.refl _⟩
  have hc:c.un f:=zG fun hn=>by rw [hb.2 hn] at h;cases h
  refine Qc (runQ hN fun K hK=>?_);simp;refine hK _ ?_;clear hK K;rw [QC (n:=c.fr.length) (by omega) (by omega)];refine ⟨f+1,⟨by omega,Q1b hi0 hc⟩,by dsimp only;omega,(rbQ hP [(0,0)])⟩
 simp at h;have hf2:c.fr.length≤f:=by omega
 clear h;have hi1:∀ y:Nat,y<c.fr.length→c.un y:=fun y hy=>hi0 y (by omega);refine Qp ?_;simp;refine Q1 (srQ hN fun K hK=>?_);simp;refine hK _ (Q7 (Q1l (fun f:Nat=>⟨Y06 c [(8,iV f)],Yg c u [],1⟩) (fun f=>f≤c.fr.length∧∀ y:Nat,y<f→∀ g:Nat,g<c.fr.length→∀ h:Nat,h<c.fr.length→c.as y g h) (fun f=>c.fr.length - f) 0 (by simp) (rbQ hP [(0,0)]) ?_));clear hK K;clear hi0 hf2 hf0 f
 rintro f ⟨hf0,hi2⟩
 refine Q1 (srQ hN fun K hK=>?_);simp;refine hK _ ?_;clear hK K;refine Qa rfl (fun h=>?_) fun h=>?_
 ·simp at h;have hf:f<c.fr.length:=by omega
  clear h;have rf:=hs.row' (j:=f) (by omega) (by omega);refine Qc (Q1 (Q7 (srQ hN fun K hK=>?_)));simp;refine hK _ (Q7 (Q1l (fun g:Nat=>⟨Y06 c [(8,iV f),(9,iV g)],Yg c u [],1⟩) (fun g=>g≤c.fr.length∧∀ y:Nat,y<g→∀ h:Nat,h<c.fr.length→c.as f y h) (fun g=>c.fr.length - g) 0 (by simp) (rbQ hP [(0,0)]) ?_));clear hK K
  rintro g ⟨hg0,hi3⟩
  refine Q1 (srQ hN fun K hK=>?_);simp;refine hK _ ?_;clear hK K;refine Qa rfl (fun h=>?_) fun h=>?_
  ·simp at h;have hg:g<c.fr.length:=(by omega);clear h;have rg:=hs.row' (j:=g) (by omega) (by omega);refine Qc (Q1 (Q7 (Q1 (srQ hN fun K hK=>?_))));simp [Q1d,Q29,Q1O,Q1X,hl1,hf,hg];refine hK _ ?_;clear hK K;refine Qa rfl (fun e1=>?_) fun e1=>?_
   ·simp at e1;have hc:∀ h:Nat,h<c.fr.length→c.as f g h:=fun h _ q=>absurd q e1;refine Qp ?_;simp;refine runQ hN fun K hK=>?_;simp;refine hK _ ?_;clear hK K;rw [QC (n:=c.fr.length) (by omega) (by omega)];refine ⟨g+1,⟨by omega,Q1b hi3 hc⟩,by dsimp only;omega,(rbQ hP [(0,0)])⟩
   simp at e1;have d0:=(hs.cell' (f:=f) (g:=g) (by omega) (by omega) (by omega) (by omega)).2 e1;have r0:=hs.row' d0.1 d0.2.1;refine Qc (srQ hN fun K hK=>?_);simp;refine hK _ (Q7 (Q1l (fun h:Nat=>⟨Y06 c [(8,iV f),(9,iV g),(10,iV h)],Yg c u [],1⟩) (fun h=>h≤c.fr.length∧∀ y:Nat,y<h→c.as f g y) (fun h=>c.fr.length - h) 0 (by simp) (rbQ hP [(0,0)]) ?_));clear hK K
   rintro h ⟨hh0,hi4⟩
   refine Q1 (srQ hN fun K hK=>?_);simp;refine hK _ ?_;clear hK K;refine Qa rfl (fun g0=>?_) fun g0=>?_
   ·simp at g0;have hh:h<c.fr.length:=(by omega);clear g0;refine Qc (Q1 (Q7 (srQ hN fun K hK=>?_)));refine join hK (fun b=>⟨Y06 c [(8,iV f),(9,iV g),(10,iV h),(127,.val (.bool b))],Yg c u [],1⟩) (¬ c.as f g h) (fun hJ=>?_) fun b hb=>?_
    ·by_cases e2:ix c.to g=ix c.fr h
     ·have d1:=(hs.cell' (f:=g) (g:=h) (by omega) (by omega) (by omega) (by omega)).2 e2;simp [Q1d,Q29,Q1O,Q1X,e2,hl1,hl2,hf,hg,hh,rg,rf,d0.1,d0.2.1,r0,d1.1,d1.2.1];exact hJ (ix (rx c.cs (ix (rx c.cs f) g)) h != ix (rx c.cs f) (ix (rx c.cs g) h)) (by simp [Cat.as,e1,e2]) _ (rbQ hP [(0,0)])
     simp [Q1d,Q29,Q1O,Q1X,e2,hl1,hg,hh];exact hJ (false) (nope fun hp=>hp fun _ q=>absurd q e2) _ (rbQ hP [(0,0)])
    clear hK K;refine Qa rfl (fun g0=>?_) fun g0=>?_
    ·refine srQ hN fun K hK=>?_;simp;refine hK _ (Ql ?_);clear hK K;rw [Q7H hf hg hh hi1 hi2 hi3 hi4 (hb.1 g0)];refine ⟨.one rfl rfl (.one rfl rfl (.one rfl rfl (.one rfl rfl .nil))),_,[],rfl,by simp,UpL.refl _⟩
    have hc:c.as f g h:=zG fun hn=>by rw [hb.2 hn] at g0;cases g0
    refine Qc (runQ hN fun K hK=>?_);simp;refine hK _ ?_;clear hK K;rw [QC (n:=c.fr.length) (by omega) (by omega)];refine ⟨h+1,⟨by omega,Q1b hi4 hc⟩,by dsimp only;omega,(rbQ hP [(0,0)])⟩
   simp at g0;have hh2:c.fr.length≤h:=(by omega);clear g0;have hc:∀ h:Nat,h<c.fr.length→c.as f g h:=fun y hy=>hi4 y (by omega);refine Qp ?_;simp;refine runQ hN fun K hK=>?_;simp;refine hK _ ?_;clear hK K;rw [QC (n:=c.fr.length) (by omega) (by omega)];refine ⟨g+1,⟨by omega,Q1b hi3 hc⟩,by dsimp only;omega,(rbQ hP [(0,0)])⟩
  simp at h;have hg2:c.fr.length≤g:=by omega
  clear h;refine Qp ?_;simp;refine runQ hN fun K hK=>?_;simp;refine hK _ ?_;clear hK K;rw [QC (n:=c.fr.length) (by omega) (by omega)];refine ⟨f+1,⟨by omega,Q1b hi2 fun g hg h hh=>hi3 g (by omega) h hh⟩,by dsimp only;omega,(rbQ hP [(0,0)])⟩
 simp at h;have hf2:c.fr.length≤f:=by omega
 clear h;refine Qp ?_;simp;refine srQ hN fun K hK=>?_;simp;refine hK _ (Ql ?_);clear hK K;rw [Q4X hi1 fun y hy=>hi2 y (by omega)];refine ⟨.one rfl rfl (.one rfl rfl (.one rfl rfl (.one rfl rfl .nil))),_,[],rfl,by simp,UpL.refl _⟩
theorem c66 (u:Bool) (c:Cat) (tl:List AV) (hs:c.Sh):Contract Try.prog 105 [.rptr (c.cells u++tl)] (.tup (four c.fault)):=by
 refine Qj (rs:=four c.fault) Try.func105 rfl rfl rfl rfl (by simp [Try.f105]) fun F hN hP=>?_;have hl1:=hs.lt;have hl2:=hs.lc;have hm40:=hs.m40;simp only [Cat.cells,List.cons_append,List.nil_append];refine srQ hN fun K hK=>?_;simp;refine hK _ ?_;clear hK K;refine srQ hN fun K hK=>?_;simp;refine Q3 (c61 u c tl) (.cons .rptr .nil) ?_;simp [unk,unA,unE,flat];refine hK _ ?_;clear hK K;refine Q1 (srQ hN fun K hK=>?_);simp;refine hK _ (Q7 (Q1l (fun f:Nat=>⟨Ye c u tl [(6,iV c.fr.length),(7,iV f)],[],0⟩) (fun f=>f≤c.fr.length∧∀ y:Nat,y<f→c.un y) (fun f=>c.fr.length - f) 0 (by simp) (rbQ hP []) ?_));clear hK K
 rintro f ⟨hf0,hi0⟩
 refine Q1 (srQ hN fun K hK=>?_);simp;refine hK _ ?_;clear hK K;refine Qa rfl (fun h=>?_) fun h=>?_
 ·simp at h;have hf:f<c.fr.length:=by omega
  clear h;have a1:=hs.fr' (j:=f) (by omega) (by omega);have a2:=hs.id' a1.1 a1.2;have a3:=hs.row' a2.1 a2.2;have a4:=hs.row' (j:=f) (by omega) (by omega);have a5:=hs.to' (j:=f) (by omega) (by omega);have a6:=hs.id' a5.1 a5.2;refine Qc (Q1 (Q7 (srQ hN fun K hK=>?_)));refine join hK (fun b=>⟨Ye c u tl [(6,iV c.fr.length),(7,iV f),(55,.val (.bool b))],[],0⟩) (¬ c.un f) (fun hJ=>?_) fun b hb=>?_
  ·simp [Q1d,Q29,Q1O,Q1X,hl1,hf,a1.1,a1.2,a2.1,a2.2];refine Q3 (c69 u c tl (ix c.id (ix c.fr f)) (f) (a2.1) (by omega) (by omega) (by omega)) (.cons .rptr (.cons .val (.cons .val .nil))) ?_;simp [unk,unA,unE,flat,Q1d,Q29,Q1O,Q1X,hl1,hf,a5.1,a5.2];refine ⟨fun b1=>?_,fun b1=>?_⟩
   ·refine Q3 (c69 u c tl (f) (ix c.id (ix c.to f)) (by omega) (by omega) (a6.1) (by omega)) (.cons .rptr (.cons .val (.cons .val .nil))) ?_;simp [unk,unA,unE,flat];exact hJ (ix (rx c.cs f) (ix c.id (ix c.to f)) != f) (by simp [Cat.un,b1]) _ (rbQ hP [])
   exact hJ (true) (yes fun hp=>b1 hp.1) _ (rbQ hP [])
  clear hK K;refine Qa rfl (fun h=>?_) fun h=>?_
  ·refine srQ hN fun K hK=>?_;simp;refine hK _ (Ql ?_);clear hK K;rw [Q7G hf hi0 (hb.1 h)];refine ⟨.one rfl rfl (.one rfl rfl (.one rfl rfl (.one rfl rfl .nil))),_,[],rfl,by simp,UpL.refl _⟩
  have hc:c.un f:=zG fun hn=>by rw [hb.2 hn] at h;cases h
  refine Qc (runQ hN fun K hK=>?_);simp;refine hK _ ?_;clear hK K;rw [QC (n:=c.fr.length) (by omega) (by omega)];refine ⟨f+1,⟨by omega,Q1b hi0 hc⟩,by dsimp only;omega,(rbQ hP [])⟩
 simp at h;have hf2:c.fr.length≤f:=by omega
 clear h;have hi1:∀ y:Nat,y<c.fr.length→c.un y:=fun y hy=>hi0 y (by omega);refine Qp ?_;simp;refine Q1 (srQ hN fun K hK=>?_);simp;refine hK _ (Q7 (Q1l (fun f:Nat=>⟨Ye c u tl [(6,iV c.fr.length),(8,iV f)],[],0⟩) (fun f=>f≤c.fr.length∧∀ y:Nat,y<f→∀ g:Nat,g<c.fr.length→∀ h:Nat,h<c.fr.length→c.as y g h) (fun f=>c.fr.length - f) 0 (by simp) (rbQ hP []) ?_));clear hK K;clear hi0 hf2 hf0 f
 rintro f ⟨hf0,hi2⟩
 refine Q1 (srQ hN fun K hK=>?_);simp;refine hK _ ?_;clear hK K;refine Qa rfl (fun h=>?_) fun h=>?_
 ·simp at h;have hf:f<c.fr.length:=by omega
  clear h;have rf:=hs.row' (j:=f) (by omega) (by omega);refine Qc (Q1 (Q7 (srQ hN fun K hK=>?_)));simp;refine hK _ (Q7 (Q1l (fun g:Nat=>⟨Ye c u tl [(6,iV c.fr.length),(8,iV f),(9,iV g)],[],0⟩) (fun g=>g≤c.fr.length∧∀ y:Nat,y<g→∀ h:Nat,h<c.fr.length→c.as f y h) (fun g=>c.fr.length - g) 0 (by simp) (rbQ hP []) ?_));clear hK K
  rintro g ⟨hg0,hi3⟩
  refine Q1 (srQ hN fun K hK=>?_);simp;refine hK _ ?_;clear hK K;refine Qa rfl (fun h=>?_) fun h=>?_
  ·simp at h;have hg:g<c.fr.length:=(by omega);clear h;have rg:=hs.row' (j:=g) (by omega) (by omega);refine Qc (Q1 (Q7 (Q1 (srQ hN fun K hK=>?_))));simp;refine Q3 (c69 u c tl (f) (g) (by omega) (by omega) (by omega) (by omega)) (.cons .rptr (.cons .val (.cons .val .nil))) ?_;simp [unk,unA,unE,flat];refine hK _ ?_;clear hK K;refine Qa rfl (fun e0=>?_) fun e0=>?_
   ·simp at e0;have e1:¬ ix c.to f=ix c.fr g:=fun q=>by have:=((hs.cell' (f:=f) (g:=g) (by omega) (by omega) (by omega) (by omega)).2 q).1;omega
    have hc:∀ h:Nat,h<c.fr.length→c.as f g h:=fun h _ q=>absurd q e1;refine Qp ?_;simp;refine runQ hN fun K hK=>?_;simp;refine hK _ ?_;clear hK K;rw [QC (n:=c.fr.length) (by omega) (by omega)];refine ⟨g+1,⟨by omega,Q1b hi3 hc⟩,by dsimp only;omega,(rbQ hP [])⟩
   simp at e0;have e1:ix c.to f=ix c.fr g:=zG fun q=>by have:=(hs.cell' (f:=f) (g:=g) (by omega) (by omega) (by omega) (by omega)).1 q;omega
   have d0:=(hs.cell' (f:=f) (g:=g) (by omega) (by omega) (by omega) (by omega)).2 e1;have r0:=hs.row' d0.1 d0.2.1;refine Qc (srQ hN fun K hK=>?_);simp;refine hK _ (Q7 (Q1l (fun h:Nat=>⟨Ye c u tl [(6,iV c.fr.length),(8,iV f),(9,iV g),(10,iV h)],[],0⟩) (fun h=>h≤c.fr.length∧∀ y:Nat,y<h→c.as f g y) (fun h=>c.fr.length - h) 0 (by simp) (rbQ hP []) ?_));clear hK K
   rintro h ⟨hh0,hi4⟩
   refine Q1 (srQ hN fun K hK=>?_);simp;refine hK _ ?_;clear hK K;refine Qa rfl (fun g0=>?_) fun g0=>?_
   ·simp at g0;have hh:h<c.fr.length:=(by omega);clear g0;refine Qc (Q1 (Q7 (srQ hN fun K hK=>?_)));refine join hK (fun b=>⟨Ye c u tl [(6,iV c.fr.length),(8,iV f),(9,iV g),(10,iV h),(98,.val (.bool b))],[],0⟩) (¬ c.as f g h) (fun hJ=>?_) fun b hb=>?_
    ·simp;refine Q3 (c69 u c tl (g) (h) (by omega) (by omega) (by omega) (by omega)) (.cons .rptr (.cons .val (.cons .val .nil))) ?_;simp [unk,unA,unE,flat]
     by_cases e2:ix c.to g=ix c.fr h
     ·have d1:=(hs.cell' (f:=g) (g:=h) (by omega) (by omega) (by omega) (by omega)).2 e2;simp [d1.1,Int.not_lt.2 d1.1];refine Q3 (c69 u c tl (f) (g) (by omega) (by omega) (by omega) (by omega)) (.cons .rptr (.cons .val (.cons .val .nil))) ?_;simp [unk,unA,unE,flat];refine Q3 (c69 u c tl (ix (rx c.cs f) g) (h) (d0.1) (by omega) (by omega) (by omega)) (.cons .rptr (.cons .val (.cons .val .nil))) ?_;simp [unk,unA,unE,flat];refine Q3 (c69 u c tl (g) (h) (by omega) (by omega) (by omega) (by omega)) (.cons .rptr (.cons .val (.cons .val .nil))) ?_;simp [unk,unA,unE,flat];refine Q3 (c69 u c tl (f) (ix (rx c.cs g) h) (by omega) (by omega) (d1.1) (by omega)) (.cons .rptr (.cons .val (.cons .val .nil))) ?_;simp [unk,unA,unE,flat];exact hJ (ix (rx c.cs (ix (rx c.cs f) g)) h != ix (rx c.cs f) (ix (rx c.cs g) h)) (by simp [Cat.as,e1,e2]) _ (rbQ hP [])
     have d1:=(hs.cell' (f:=g) (g:=h) (by omega) (by omega) (by omega) (by omega)).1 e2;simp [d1];exact hJ (false) (nope fun hp=>hp fun _ q=>absurd q e2) _ (rbQ hP [])
    clear hK K;refine Qa rfl (fun g0=>?_) fun g0=>?_
    ·refine srQ hN fun K hK=>?_;simp;refine hK _ (Ql ?_);clear hK K;rw [Q7H hf hg hh hi1 hi2 hi3 hi4 (hb.1 g0)];refine ⟨.one rfl rfl (.one rfl rfl (.one rfl rfl (.one rfl rfl .nil))),_,[],rfl,by simp,UpL.refl _⟩
    have hc:c.as f g h:=zG fun hn=>by rw [hb.2 hn] at g0;cases g0
    refine Qc (runQ hN fun K hK=>?_);simp;refine hK _ ?_;clear hK K;rw [QC (n:=c.fr.length) (by omega) (by omega)];refine ⟨h+1,⟨by omega,Q1b hi4 hc⟩,by dsimp only;omega,(rbQ hP [])⟩
   simp at g0;have hh2:c.fr.length≤h:=(by omega);clear g0;have hc:∀ h:Nat,h<c.fr.length→c.as f g h:=fun y hy=>hi4 y (by omega);refine Qp ?_;simp;refine runQ hN fun K hK=>?_;simp;refine hK _ ?_;clear hK K;rw [QC (n:=c.fr.length) (by omega) (by omega)];refine ⟨g+1,⟨by omega,Q1b hi3 hc⟩,by dsimp only;omega,(rbQ hP [])⟩
  simp at h;have hg2:c.fr.length≤g:=by omega
  clear h;refine Qp ?_;simp;refine runQ hN fun K hK=>?_;simp;refine hK _ ?_;clear hK K;rw [QC (n:=c.fr.length) (by omega) (by omega)];refine ⟨f+1,⟨by omega,Q1b hi2 fun g hg h hh=>hi3 g (by omega) h hh⟩,by dsimp only;omega,(rbQ hP [])⟩
 simp at h;have hf2:c.fr.length≤f:=by omega
 clear h;refine Qp ?_;simp;refine srQ hN fun K hK=>?_;simp;refine hK _ (Ql ?_);clear hK K;rw [Q4X hi1 fun y hy=>hi2 y (by omega)];refine ⟨.one rfl rfl (.one rfl rfl (.one rfl rfl (.one rfl rfl .nil))),_,[],rfl,by simp,UpL.refl _⟩
end
section
attribute [local simp] Qh QF Qs QT QE
def Cat.Is (c:Cat):Prop:=c.Sh∧c.Law
theorem beq_bo {a:Int} {p:Prop} (h:a=0↔p):Value.bool (a == 0)=Value.bool (bo p):=by
 by_cases hp:p
 ·simp [bo,hp,h.2 hp]
 have:a ≠ 0:=fun q=>hp (h.1 q);simp [bo,hp,this]
theorem bo_not {p:Prop} (h:(!bo p)=true):¬ p:=by simpa [bo] using h
theorem bo_yes {p:Prop} (h:(!bo p)=false):p:=by simpa [bo] using h
theorem c55 (u:Bool) (c:Cat):Contract Try.prog 59 [.agg (c.cells u)] (.val (.bool (bo c.Is))):=by
 refine Qj (rs:=[.val (.bool (bo c.Is))]) Try.func59 rfl rfl rfl rfl (by simp [Try.f59]) fun F hN hP=>?_;refine srQ hN fun K hK=>?_;simp [Cat.cells];refine hK _ ?_;clear hK K;refine Q1 (srQ hN fun K hK=>?_);simp;refine Q3 (c63 u c) (.cons (.aggL Cat.pur) .nil) ?_;simp [unk,unA,unE,flat];refine hK _ ?_;clear hK K;refine Qa rfl (fun h=>?_) fun h=>?_
 ·refine srQ hN fun K hK=>?_;simp;refine hK _ (Ql (Qt rfl (bo_f fun hs=>?_)));clear hK K;exact bo_not h hs.1
 have hs:c.Sh:=bo_yes h;refine Qc (srQ hN fun K hK=>?_);simp;refine Q3 (c64 u c hs) (.cons (.aggL Cat.pur) .nil) ?_;simp [unk,unA,unE,unT,flat,four];refine hK _ ?_;clear hK K;refine srQ hN fun K hK=>?_;simp;refine hK _ (Ql (Qt rfl (beq_bo ?_)));clear hK K;exact ⟨fun q=>⟨hs,fault_zero.1 q⟩,fun q=>fault_zero.2 q.2⟩
theorem c60 (u:Bool) (c:Cat) (tl:List AV):Contract Try.prog 70 [.rptr (c.cells u++tl)] (.val (.bool (bo c.Is))):=by
 refine Qj (rs:=[.val (.bool (bo c.Is))]) Try.func70 rfl rfl rfl rfl (by simp [Try.f70]) fun F hN hP=>?_;refine srQ hN fun K hK=>?_;simp;refine hK _ ?_;clear hK K;refine Q1 (srQ hN fun K hK=>?_);simp;refine Q3 (c65 u c tl) (.cons .rptr .nil) ?_;simp [unk,unA,unE,flat];refine hK _ ?_;clear hK K;refine Qa rfl (fun h=>?_) fun h=>?_
 ·refine srQ hN fun K hK=>?_;simp;refine hK _ (Ql (Qt rfl (bo_f fun hs=>?_)));clear hK K;exact bo_not h hs.1
 have hs:c.Sh:=bo_yes h;refine Qc (srQ hN fun K hK=>?_);simp;refine Q3 (c66 u c tl hs) (.cons .rptr .nil) ?_;simp [unk,unA,unE,unT,flat,four];refine hK _ ?_;clear hK K;refine srQ hN fun K hK=>?_;simp;refine hK _ (Ql (Qt rfl (beq_bo ?_)));clear hK K;exact ⟨fun q=>⟨hs,fault_zero.1 q⟩,fun q=>fault_zero.2 q.2⟩
def SF.actOk (f:SF) (a:Nat):Prop:=((rx f.ac a).length:Int)=ix f.sz (ix f.s.fr a)∧∀ x∈rx f.ac a,inR (ix f.sz (ix f.s.to a)) x=true
structure SF.Sh (f:SF):Prop where
 cat:f.s.Is
 ls:(f.sz.length:Int)=f.s.n
 la:f.ac.length=f.s.fr.length
 sz:∀ x∈f.sz,inR 17 x=true
 act:∀ a:Nat,a<f.ac.length→f.actOk a
def SF.un (f:SF) (x e:Nat):Prop:=ix (rx f.ac (ix f.s.id x)) e=e
def SF.as (f:SF) (a b e:Nat):Prop:=ix f.s.to a=ix f.s.fr b→ix (rx f.ac (ix (rx f.s.cs a) b)) e=ix (rx f.ac b) (ix (rx f.ac a) e)
def SF.lu (f:SF) (x:Nat):Nat:=(rx f.ac (ix f.s.id x)).length
def SF.la (f:SF) (a:Nat):Nat:=(rx f.ac a).length
def SF.Law (f:SF):Prop:=(∀ x,x<f.s.id.length→∀ e,e<f.lu x→f.un x e)∧∀ a,a<f.s.fr.length→∀ b,b<f.s.fr.length→∀ e,e<f.la a→f.as a b e
section
variable {f:SF}
end
def SF.Is (f:SF):Prop:=f.Sh∧f.Law
theorem Is_snoc (xs:List Int) (x:Int):Is xs++[[iV x]]=Is (xs++[x]):=by simp [Is]
end
section
attribute [local simp] Qh QF Qs QT QE
@[simp] theorem zp33:Q3V Try.prog 33=some [(0,5),(5,1),(6,1)]:=by kernel_rfl
@[simp] theorem z55:tyi Try.prog 90=some ⟨false,1,8,[.pointer none]⟩:=by kernel_rfl
theorem Q3T {l:Int} {n:Nat} (h:0≤less l n):(n:Int)≤l∧less l n=l - n:=by
 unfold less at h ⊢;split at h
 ·omega
 rename_i h1;rw [if_neg h1];omega
theorem Q84 {a:Int} {f:Int→Int} (h:0≤nn a f):0≤a∧0≤f a∧nn a f=f a:=by
 unfold nn at h ⊢;split at h
 ·omega
 rename_i h1;rw [if_neg h1];exact ⟨by omega,h,rfl⟩
theorem lessS_ok (xs:List (List Int)):∀ l:Int,0≤Q5r l xs→(sumL xs:Int)≤l∧(∀ x∈xs,(x.length:Int)≤l)∧Q5r l xs=l - sumL xs:=by
 induction xs with
 | nil=>intro l h;simp only [Q5r] at h ⊢;simp [sumL];exact h
 | cons x r ih =>
  intro l h;simp only [Q5r] at h ⊢;split at h
  ·omega
  rename_i h1;rw [if_neg h1];obtain ⟨a1,a2⟩:=Q3T (l:=l) (n:=x.length) (by omega);rw [a2] at h ⊢;obtain ⟨b1,b2,b3⟩:=ih _ h;have hs:sumL (x :: r)=x.length+sumL r:=by simp [sumL]
  refine ⟨by rw [hs];push_cast;omega,fun y hy=>?_,by rw [b3,hs];push_cast;omega⟩;rcases List.mem_cons.1 hy with rfl|hy
  ·exact a1
  have:=b2 y hy;omega
theorem lessSS_ok {l:Int} {xs:List (List Int)} (h:0≤Q3J l xs):(xs.length:Int)≤l∧(sumL xs:Int)≤l∧(∀ x∈xs,(x.length:Int)≤l)∧Q3J l xs≤l:=by
 unfold Q3J at h ⊢;split at h
 ·omega
 rename_i h1;rw [if_neg h1];obtain ⟨b1,b2,b3⟩:=lessS_ok xs _ h;exact ⟨by omega,by omega,fun x hx=>by have:=b2 x hx;omega,by omega⟩
theorem szCat_ok {l:Int} {c:Cat} (hl:l≤1048576) (h:0≤Q3D l c):c.ok:=by
 unfold Q3D at h;obtain ⟨a1,a2,_⟩:=Q84 h;obtain ⟨b1,b2,_⟩:=Q84 a2;obtain ⟨c1,c2,_⟩:=Q84 b2;obtain ⟨d1,d2,_⟩:=Q84 c2;obtain ⟨e1,e2⟩:=Q3T a1;obtain ⟨f1,f2⟩:=Q3T b1;obtain ⟨g1,g2⟩:=Q3T c1;obtain ⟨h1,h2,h3,_⟩:=lessSS_ok d1;exact ⟨by omega,by omega,by omega,by omega,fun x hx=>by have:=h3 x hx;omega,by omega⟩
theorem Cat.ok_size {f:Cat} (h:f.ok):f.size≤1099514773504:=by
 obtain ⟨hfr,hto,hid,hcs1,hcs2,hcs3⟩:=h;simp only [Cat.size];omega
structure SM where
 s:SF
 t:SF
 p:List (List Int)
def SM.cells (u:Bool) (f:SM):List AV:=[iV f.s.s.n,.lst u 1 (Is f.s.s.fr),.lst u 1 (Is f.s.s.to),.lst u 1 (Is f.s.s.id),.lst u 1 (Ls f.s.s.cs),.lst u 1 (Is f.s.sz),.lst u 1 (Ls f.s.ac),iV f.t.s.n,.lst u 1 (Is f.t.s.fr),.lst u 1 (Is f.t.s.to),.lst u 1 (Is f.t.s.id),.lst u 1 (Ls f.t.s.cs),.lst u 1 (Is f.t.sz),.lst u 1 (Ls f.t.ac),.lst u 1 (Ls f.p)]
end
section
attribute [local simp] Qh QF Qs QT QE
def cmpL:List Int→List Int→Int
 | [],[]=>0
 | [],_ :: _=>-1
 | _ :: _,[]=>1
 | a :: x,b :: y=>if a=b then cmpL x y else if a<b then -1 else 1
theorem cmpL_zero:∀ {x y:List Int},cmpL x y=0↔x=y:=by
 intro x
 induction x with
 | nil=>intro y;cases y<;>simp [cmpL]
 | cons a x ih =>
  intro y;cases y with
  | nil=>simp [cmpL]
  | cons b y =>
   simp only [cmpL]
   by_cases h:a=b
   ·rw [if_pos h,ih];simp [h]
   rw [if_neg h];split<;>simp [h]
theorem Q7C {x y:List Int} {i:Nat} (h1:i≤x.length) (h2:i≤y.length) (h:x.take i=y.take i):cmpL x y=cmpL (x.drop i) (y.drop i):=by
 induction i generalizing x y with
 | zero=>simp
 | succ i ih =>
  cases x with
  | nil=>simp at h1
  | cons a x =>
   cases y with
   | nil=>simp at h2
   | cons b y =>
    simp only [List.take_succ_cons,List.cons.injEq] at h;simp only [List.drop_succ_cons,cmpL];rw [if_pos h.1];exact ih (by simpa using h1) (by simpa using h2) h.2
theorem bo_iff {p q:Prop} (h:p↔q):bo p=bo q:=by rw [propext h]
theorem bo_dec {p:Prop} [Decidable p]:bo p=decide p:=by by_cases h:p<;>simp [bo,h]
def SF.part (f g:SF) (p:List (List Int)) (x:Nat):Prop:=((rx p x).length:Int)=ix f.sz x∧∀ y∈rx p x,inR (ix g.sz x) y=true
structure SM.Sh (m:SM):Prop where
 hs:m.s.Is
 ht:m.t.Is
 eq:m.s.s=m.t.s
 lp:m.p.length=m.s.sz.length
 pt:∀ x:Nat,x<m.p.length→m.s.part m.t m.p x
def SM.nat (m:SM) (a e:Nat):Prop:=ix (rx m.p (ix m.s.s.to a)) (ix (rx m.s.ac a) e)=ix (rx m.t.ac a) (ix (rx m.p (ix m.s.s.fr a)) e)
def SM.Law (m:SM):Prop:=∀ a,a<m.s.s.fr.length→∀ e,e<m.s.la a→m.nat a e
def SM.Is (m:SM):Prop:=m.Sh∧m.Law
section
variable {m:SM}
end
def QG (f g:List Int):List Int:=f.map (ix g)
@[simp] theorem QS (f g:List Int):(QG f g).length=f.length:=by simp [QG]
theorem Q6V (f g:List Int) (i:Nat) (h:i<f.length):QG (f.take (i+1)) g=QG (f.take i) g++[ix g (ix f i)]:=by
 rw [QG,QG,zH h,List.map_append,Q1d _ _ h];rfl
@[simp] theorem bo_true {p:Prop}:bo p=true↔p:=by simp [bo]
@[simp] theorem bo_false {p:Prop}:bo p=false↔¬ p:=by simp [bo]
theorem n54 (ux uy:Bool) (xs ys:List Int):Contract Try.prog 51 [.lst ux 1 (Is xs),.lst uy 1 (Is ys)] (.val (.bool (decide (xs=ys)))):=by
 refine Qj (rs:=[.val (.bool (decide (xs=ys)))]) Try.func51 rfl rfl rfl rfl (by simp [Try.f51]) fun F hN hP=>?_;refine Q5m 0 fun h0=>?_;simp at h0;obtain ⟨hl0,hb0⟩:=h0.is;refine srQ hN fun K hK=>?_;simp;refine hK _ ?_;clear hK K;refine Q1 (w_sr mo (by rw [hN];decide) fun K hK=>?_);simp;refine hK _ (Qa rfl (fun h=>?_) fun h=>?_)<;>clear hK K
 ·simp at h;refine srQ hN fun K hK=>?_;simp;refine hK _ (Ql (Qt rfl ?_));clear hK K;simp
  rintro rfl;exact h rfl
 simp at h;refine Qc ?_;simp only [Q56];refine Q1 (w_sr mo (by rw [hN];decide) fun K hK=>?_);simp;refine hK _ (Q7 ?_);clear hK K;refine Q1l (fun i:Nat=>⟨[(0,.lst ux 1 (Is xs)),(1,.lst uy 1 (Is ys)),(5,iV i)],[],0⟩) (fun i=>i≤xs.length∧xs.take i=ys.take i) (fun i=>xs.length - i) 0 (by simp) (Wk.cut (by simp) rfl rfl) ?_
 rintro i ⟨hi,hti⟩
 refine Q1 (w_sr mo (by rw [hN];decide) fun K hK=>?_);simp;refine hK _ (Qa rfl (fun h=>?_) fun h=>?_)<;>clear hK K
 ·simp at h;refine Qc ?_;simp only [Q56];refine Q1 (Q7 (w_sr mo (by rw [hN];decide) fun K hK=>?_));have h2:i<ys.length:=by omega
  simp [h,h2];refine hK _ (Qa rfl (fun h=>?_) fun h=>?_)<;>clear hK K
  ·simp at h;refine srQ hN fun K hK=>?_;simp;refine hK _ (Ql (Qt rfl ?_));clear hK K;simp
   rintro rfl;exact h rfl
  simp at h;refine Qc ?_;simp;refine runQ hN fun K hK=>?_;simp;refine hK _ ?_;clear hK K;refine ⟨i+1,⟨by omega,take_eq (by omega) h2 hti h⟩,by dsimp only;omega,Wk.cut ?_ rfl rfl⟩;rw [QC (n:=xs.length) (by omega) hl0];simp
 simp at h;refine Qp ?_;simp;refine srQ hN fun K hK=>?_;simp;refine hK _ (Ql (Qt rfl ?_));clear hK K;rw [List.take_of_length_le (by omega),List.take_of_length_le (by omega)] at hti;simp [hti]
end
section
attribute [local simp] Qh QF Qs QT QE
theorem SM.fit {m:SM} (h:m.s.Is∧m.t.Is∧m.s.s=m.t.s):m.s.sz.length=m.t.sz.length∧m.s.sz.length≤1048576:=by
 have h1:=h.1.1.ls;have h2:=h.2.1.1.ls;have h3:=h.1.1.cat.1.n8;rw [← h.2.2] at h2;exact ⟨by omega,by omega⟩
theorem ix_in {f:List Int} {n:Nat} (hg:∀ y∈f,0≤y∧y<(n:Int)) {i:Nat} (h:i<f.length):0≤ix f i∧ix f i<n:=by rw [← Q1d _ _ h];exact hg _ (zI h)
theorem n58 (u v:Bool) (f g:List Int) (hx:f.length≤1048576) (hg:∀ y∈f,0≤y∧y<(g.length:Int)):Contract Try.prog 52 [.lst u 1 (Is f),.lst v 1 (Is g)] (lI (QG f g)):=by
 refine Qj (rs:=[lI (QG f g)]) Try.func52 rfl rfl rfl rfl (by simp [Try.f52]) fun F hN hP=>?_;refine srQ hN fun K hK=>?_;simp;refine hK _ ?_;clear hK K;refine srQ hN fun K hK=>?_;simp;refine hK _ ?_;clear hK K;refine Q1 (srQ hN fun K hK=>?_);simp;refine hK _ (Q7 (Q1l (fun i:Nat=>⟨[(0,.lst u 1 (Is f)),(1,.lst v 1 (Is g)),(5,.own 0 0 i),(6,iV i)],[(0,rI (QG (f.take i) g))],1⟩) (fun i=>i≤f.length) (fun i=>f.length - i) 0 (by simp) (Wk.nils [] (by simp) (by simp) (by simp [nlA]) (by simp [entN,QG]) (by simp)) ?_));clear hK K;intro i hi;refine Q1 (srQ hN fun K hK=>?_);simp;refine hK _ ?_;clear hK K;refine Qa rfl (fun h=>?_) fun h=>?_
 ·simp at h;have h1:=ix_in hg h;refine Qc (Q1 (Q7 (runQ hN fun K hK=>?_)));simp [Q1d,Q29,Q1O,Q1X,h,h1.1,h1.2];refine ⟨by omega,hK _ ?_⟩;clear hK K;refine runQ hN fun K hK=>?_;simp;refine hK _ ?_;clear hK K;rw [QC (n:=f.length) (by omega) (by omega)];rw [Nat.min_eq_left hi,List.take_of_length_le (l:=Is (QG (List.take i f) g)) (by simp;omega),Is_snoc,← Q6V f g i h];refine ⟨i+1,by omega,by dsimp only;omega,rbQ hP [(2,0)]⟩
 simp at h;have hi2:i=f.length:=by omega
 refine Qp ?_;simp;refine srQ hN fun K hK=>?_;simp;refine hK _ ?_;clear hK K;rw [hi2,List.take_length];refine Ql (Q3X rfl rfl (by simp) rfl)
theorem n65 (u v:Bool) (f g:List Int) (hx:f.length≤1048576) (hg:∀ y∈f,0≤y∧y<(g.length:Int)):Contract Try.prog 57 [.lst u 1 (Is f),.lst v 1 (Is g)] (lI (QG f g)):=by
 refine Qj (rs:=[lI (QG f g)]) Try.func57 rfl rfl rfl rfl (by simp [Try.f57]) fun F hN hP=>?_;refine srQ hN fun K hK=>?_;simp;refine hK _ ?_;clear hK K;refine srQ hN fun K hK=>?_;simp;refine ⟨by omega,hK _ ?_⟩;clear hK K;refine Q1 (srQ hN fun K hK=>?_);simp;refine hK _ (Q7 (Q1l (fun i:Nat=>⟨[(1,.lst v 1 (Is g)),(5,.own 0 0 f.length),(11,.lst u 1 (Is f)),(12,iV f.length),(13,iV i)],[(0,rI (fill (QG (f.take i) g) f.length 0))],1⟩) (fun i=>i≤f.length) (fun i=>f.length - i) 0 (by simp) (Wk.cut (by simp) (by simp [fill,QG]) rfl) ?_));clear hK K;intro i hi;refine srQ hN fun K hK=>?_;simp;refine hK _ ?_;clear hK K;refine Q1 (Qa rfl (fun h=>?_) fun h=>?_)
 ·simp at h;have h1:=ix_in hg h;have hfl:=Q8z (QG (f.take i) g) f.length 0 (by simp;omega);refine Qc (Q1 (Q7 (srQ hN fun K hK=>?_)));simp [Q1d,Q29,Q1O,Q1X,h];refine hK _ ?_;clear hK K;refine runQ hN fun K hK=>?_;simp [Q1d,Q29,Q1O,Q1X,h,h1.1,h1.2,hfl];refine hK _ ?_;clear hK K;refine runQ hN fun K hK=>?_;simp;refine hK _ ?_;clear hK K;rw [QC (n:=f.length) (by omega) (by omega)];have hf:=fill_set (QG (f.take i) g) f.length 0 (ix g (ix f i)) (by simp;omega);rw [← Q6V f g i h] at hf;simp only [QS,List.length_take,Nat.min_eq_left hi] at hf;rw [hf];refine ⟨i+1,by omega,by dsimp only;omega,Wk.cut (by simp) (by simp) rfl⟩
 simp at h;have hi2:i=f.length:=by omega
 refine Qp ?_;simp;refine srQ hN fun K hK=>?_;simp;refine hK _ ?_;clear hK K;rw [hi2,List.take_length];refine Ql (Q3X rfl rfl (by simp [fill]) (by simp [fill]))
end
section
attribute [local simp] Qh QF Qs QT QE
theorem n83 (u v:Bool) (xs ys:List Int):Contract Try.prog 91 [.lst u 1 (Is xs),.lst v 1 (Is ys)] (iV (cmpL xs ys)):=by
 refine Qj (rs:=[iV (cmpL xs ys)]) Try.func91 rfl rfl rfl rfl (by simp [Try.f91]) fun F hN hP=>?_;refine Q5m 0 fun h0=>?_;simp at h0;obtain ⟨hl0,hb0⟩:=h0.is;refine srQ hN fun K hK=>?_;simp;refine hK _ ?_;clear hK K;refine Q1 (srQ hN fun K hK=>?_);simp;refine hK _ (Q7 (Q1l (fun i:Nat=>⟨[(0,.lst u 1 (Is xs)),(1,.lst v 1 (Is ys)),(7,iV xs.length),(8,iV i)],[],0⟩) (fun i=>i≤xs.length∧i≤ys.length∧xs.take i=ys.take i) (fun i=>xs.length - i) 0 (by simp) (Wk.cut (by simp) (by simp) rfl) ?_));clear hK K
 rintro i ⟨hi,hj,ht⟩
 refine srQ hN fun K hK=>?_;simp;refine hK _ ?_;clear hK K;refine Q1 (Qa rfl (fun h=>?_) fun h=>?_)
 ·simp at h;have hd:=Q7C hi hj ht;rw [List.drop_eq_getElem_cons h] at hd;refine Qc (Q1 (Q7 (srQ hN fun K hK=>?_)));simp;refine hK _ ?_;clear hK K;refine Q1 (srQ hN fun K hK=>?_);simp;refine hK _ ?_;clear hK K;refine Qa rfl (fun h2=>?_) fun h2=>?_
  ·simp at h2;have h2:i=ys.length:=(by omega);refine srQ hN fun K hK=>?_;simp;refine hK _ ?_;clear hK K;have hq:List.drop i ys=[]:=List.drop_eq_nil_of_le (by omega);refine Ql (Qt rfl ?_);rw [hd,hq];rfl
  simp at h2;have h3:i<ys.length:=by omega
  rw [List.drop_eq_getElem_cons h3] at hd;simp only [cmpL] at hd;refine Qc (srQ hN fun K hK=>?_);simp [h,h3];refine hK _ ?_;clear hK K;refine Qa rfl (fun h4=>?_) fun h4=>?_
  ·simp at h4;rw [if_neg h4] at hd;refine Q1 (srQ hN fun K hK=>?_);simp [h,h3];refine hK _ ?_;clear hK K;refine Qa rfl (fun h5=>?_) fun h5=>?_
   ·simp at h5;rw [if_pos h5] at hd;refine srQ hN fun K hK=>?_;simp;refine hK _ ?_;clear hK K;refine Ql (Qt rfl (by rw [hd]))
   simp at h5;rw [if_neg (by omega)] at hd;refine Qc (srQ hN fun K hK=>?_);simp;refine hK _ ?_;clear hK K;refine Ql (Qt rfl (by rw [hd]))
  simp at h4;refine Qc (runQ hN fun K hK=>?_);simp;refine hK _ ?_;clear hK K;rw [QC (n:=xs.length) (by omega) (by omega)];refine ⟨i+1,⟨by omega,by omega,?_⟩,by dsimp only;omega,Wk.cut (by simp) rfl rfl⟩;rw [zH h,zH h3,ht,h4]
 simp at h;have hi2:i=xs.length:=by omega
 subst hi2;rw [List.take_length] at ht;have hd:=Q7C (qD _) hj (by rw [List.take_length];exact ht);rw [List.drop_length] at hd;refine Qp ?_;simp;refine Q1 (srQ hN fun K hK=>?_);simp;refine hK _ ?_;clear hK K;refine Qa rfl (fun h6=>?_) fun h6=>?_
 ·simp at h6;have h7:ys.drop xs.length ≠ []:=by rw [Ne,List.drop_eq_nil_iff];omega
  refine srQ hN fun K hK=>?_;simp;refine hK _ (Ql (Qt rfl ?_));clear hK K;rw [hd];cases hq:ys.drop xs.length with
  | nil=>exact absurd hq h7
  | cons a r=>rfl
 simp at h6;have h7:ys.drop xs.length=[]:=List.drop_eq_nil_of_le (by omega);refine Qc (srQ hN fun K hK=>?_);simp;refine hK _ (Ql (Qt rfl ?_));clear hK K;rw [hd,h7];rfl
theorem n62 (u v:Bool) (xs ys:List Int):Contract Try.prog 56 [.lst u 1 (Is xs),.lst v 1 (Is ys)] (.val (.bool (decide (xs=ys)))):=by
 refine Qj (rs:=[.val (.bool (decide (xs=ys)))]) Try.func56 rfl rfl rfl rfl (by simp [Try.f56]) fun F hN hP=>?_;refine srQ hN fun K hK=>?_;simp;refine hK _ ?_;clear hK K;refine srQ hN fun K hK=>?_;simp;refine Q3 (n83 u v xs ys) (.cons .lst (.cons .lst .nil)) ?_;simp [unk,unA,unE,flat];refine hK _ (Ql (Qt rfl ?_));clear hK K;rw [← bo_dec,← bo_iff (cmpL_zero (x:=xs) (y:=ys)),bo_dec]
 by_cases h:cmpL xs ys=0<;>simp [h]
end
section
attribute [local simp] Qh QF Qs QT QE
theorem Cat.Sh.size2 {c:Cat} (hs:c.Sh):c.ok∧c.size≤2000:=by
 have h0:=hs.n8;have h1:=hs.li;have h2:=hs.m40;have hr:∀ xs∈c.cs,xs.length≤40:=by
  intro xs hx;obtain ⟨i,hi,rfl⟩:=List.getElem_of_mem hx;rw [Q29 _ _ hi,hs.row' (by omega) (by have:=hs.lc;omega)];exact h2
 have hb:∀ {l:List (List Int)},(∀ xs∈l,xs.length≤40)→sumL l≤l.length * 40:=by
  intro l
  induction l with
  | nil=>intro _;simp [sumL]
  | cons x r ih =>
   intro h;have h1:=ih fun xs hx=>h xs (List.mem_cons_of_mem _ hx);have h2:=h x (by simp);simp only [sumL,List.map_cons,List.sum_cons,qG] at h1 ⊢;rw [Nat.add_mul];omega
 have h3:=hb hr;have h4:=hs.lc;have h5:=hs.lt;have:c.cs.length * 40≤40 * 40:=Nat.mul_le_mul_right _ (by omega);refine ⟨⟨by omega,by omega,by omega,by omega,fun xs hx=>by have:=hr xs hx;omega,by omega⟩,?_⟩;simp only [Cat.size];omega
end
section
attribute [local simp] Qh QF Qs QT QE
@[simp] theorem ze93:elm Try.prog 126=some 4:=by kernel_rfl
@[simp] theorem z4:tyi Try.prog 4=some ⟨false,1,1,[.bool false]⟩:=by kernel_rfl
def bsF (f:List Int) (n:Nat):Nat→List Bool
 | 0=>qW n false
 | i+1=>(bsF f n i).set (ix f i).toNat true
@[simp] theorem Qag (f:List Int) (n:Nat):∀ i,(bsF f n i).length=n:=by
 intro i
 induction i with
 | zero=>simp [bsF]
 | succ i ih=>simp [bsF,ih]
def mkF (bs:List Bool) (i:Nat):List Int:=((zD i).filter fun k=>bs.getD k false).map fun k:Nat=>(k:Int)
def imgL (n:Nat) (f:List Int):List Int:=mkF (bsF f n f.length) n
theorem bsF_get (f:List Int) (n:Nat) (hf:∀ y,y<f.length→0≤ix f y∧ix f y<n):∀ i,i≤f.length→∀ k,k<n→((bsF f n i).getD k false=true↔∃ y,y<i∧ix f y=k):=by
 intro i
 induction i with
 | zero=>intro _ k hk;simp [bsF,qB,hk]
 | succ i ih =>
  intro hi k hk;obtain ⟨h1,h2⟩:=hf i (by omega);simp only [bsF,qB,List.getElem?_set]
  by_cases h:(ix f i).toNat=k
  ·rw [if_pos h,if_pos (by rw [Qag];omega)];simp only [qY,true_iff];exact ⟨i,by omega,by omega⟩
  rw [if_neg h,← qB,ih (by omega) k hk];constructor
  ·rintro ⟨y,hy,e⟩;exact ⟨y,by omega,e⟩
  rintro ⟨y,hy,e⟩
  refine ⟨y,?_,e⟩;rcases qZ y i with q|q
  ·exact q
  have:y=i:=by omega
  subst this;omega
theorem count_add (p q:Nat→Bool) (a:Nat) (h1:p a=false) (h2:∀ k,q k=(p k || decide (k=a))):∀ n,((zD n).filter q).length=((zD n).filter p).length+(if a<n then 1 else 0):=by
 intro n
 induction n with
 | zero=>simp
 | succ n ih =>
  simp only [zK,List.filter_append,qE,ih,List.filter_cons,List.filter_nil,h2 n]
  by_cases h:n=a
  ·subst h;simp [h1]
  have:(a<n+1)↔(a<n):=by omega
  simp only [h,decide_false,Bool.or_false,this];cases p n<;>simp<;>omega
def cnt (n:Nat) (f:List Int):Nat:=((zD n).filter fun k:Nat=>decide ((k:Int)∈f)).length
theorem Q9t {n:Nat} {a:Int} {f:List Int} (h0:0≤a) (h1:a<n):cnt n (a :: f)=cnt n f+(if a∈f then 0 else 1):=by
 by_cases h:a∈f
 ·simp only [cnt,if_pos h,Nat.add_zero]
  congr 1
  apply List.filter_congr;intro k _;simp only [List.mem_cons,decide_eq_decide];constructor
  ·rintro (rfl|q)
   ·exact h
   exact q
  exact .inr
 simp only [cnt,if_neg h];have:=count_add (fun k:Nat=>decide ((k:Int)∈f)) (fun k:Nat=>decide ((k:Int)∈a :: f)) a.toNat (by
  simp only [decide_eq_false_iff_not,Int.toNat_of_nonneg h0];exact h) (fun k=>by
  rw [Bool.eq_iff_iff];simp only [List.mem_cons,decide_eq_true_eq,Bool.or_eq_true];constructor
  ·rintro (q|q)
   ·exact .inr (by omega)
   exact .inl q
  rintro (q|q)
  ·exact .inr q
  exact .inl (by omega)) n
 rw [this,if_pos (by omega)]
theorem cnt_le {n:Nat}:∀ {f:List Int},(∀ y∈f,0≤y∧y<(n:Int))→cnt n f≤f.length:=by
 intro f
 induction f with
 | nil=>intro _;simp [cnt]
 | cons a f ih =>
  intro h;have h1:=h a (by simp);have h2:=ih fun y hy=>h y (List.mem_cons_of_mem _ hy);rw [Q9t h1.1 h1.2];simp only [qG];split<;>omega
theorem Q5Q {n:Nat}:∀ {f:List Int},(∀ y∈f,0≤y∧y<(n:Int))→(cnt n f=f.length↔f.Nodup):=by
 intro f
 induction f with
 | nil=>intro _;simp [cnt]
 | cons a f ih =>
  intro h;have h1:=h a (by simp);have h2:=ih fun y hy=>h y (List.mem_cons_of_mem _ hy);have h3:=cnt_le fun y hy=>h y (List.mem_cons_of_mem _ hy);rw [Q9t h1.1 h1.2,List.nodup_cons,← h2];simp only [qG]
  by_cases q:a∈f
  ·rw [if_pos q];constructor
   ·intro e;omega
   intro e;exact absurd q e.1
  rw [if_neg q];constructor
  ·intro e;exact ⟨q,by omega⟩
  intro e;omega
theorem Q7b {n:Nat} {f:List Int} (hf:∀ y∈f,0≤y∧y<(n:Int)):(imgL n f).length=cnt n f:=by
 simp only [imgL,mkF,cnt,List.length_map]
 congr 1
 apply List.filter_congr;intro k hk;have hk':k<n:=by simpa using hk
 have h1:=bsF_get f n (fun y hy=>by
  rw [← Q1d _ _ hy];exact hf _ (zI hy)) f.length (qD _) k hk'
 rw [Bool.eq_iff_iff,h1,decide_eq_true_eq];constructor
 ·rintro ⟨y,hy,e⟩
  rw [← e,← Q1d _ _ hy];exact zI hy
 intro q;obtain ⟨y,hy,e⟩:=List.getElem_of_mem q;exact ⟨y,hy,by rw [← Q1d _ _ hy];exact e⟩
def SM.Inv (m:SM):Prop:=∀ x:Nat,x<m.p.length→((rx m.p x).length:Int)=ix m.t.sz x∧(rx m.p x).Nodup
def SM.I1 (m:SM):Prop:=∀ x:Nat,x<m.p.length→(imgL (ix m.t.sz x).toNat (rx m.p x)).length=(rx m.p x).length
def SM.I2 (m:SM):Prop:=∀ x:Nat,x<m.p.length→((imgL (ix m.t.sz x).toNat (rx m.p x)).length:Int)=ix m.t.sz x
theorem SM.inv_iff {m:SM} (hm:m.Sh):m.Inv↔m.I1∧m.I2:=by
 have hv:∀ x:Nat,x<m.p.length→∀ y∈rx m.p x,0≤y∧y<((ix m.t.sz x).toNat:Int):=by
  intro x hx y hy;have:=(hm.pt x hx).2 y hy;simp only [inR,Bool.and_eq_true,decide_eq_true_eq] at this;omega
 constructor
 ·intro h;refine ⟨fun x hx=>?_,fun x hx=>?_⟩
  ·rw [Q7b (hv x hx)];exact (Q5Q (hv x hx)).2 (h x hx).2
  rw [Q7b (hv x hx),(Q5Q (hv x hx)).2 (h x hx).2];exact (h x hx).1
 rintro ⟨h1,h2⟩ x hx
 have a1:=h1 x hx;have a2:=h2 x hx;refine ⟨by omega,(Q5Q (hv x hx)).1 ?_⟩;rw [← Q7b (hv x hx)];exact a1
def Bs (bs:List Bool):List (List AV):=bs.map fun b=>[.val (.bool b)]
@[simp] theorem Bs_length (bs:List Bool):(Bs bs).length=bs.length:=by simp [Bs]
@[simp] theorem Bs_set (bs:List Bool) (i:Nat) (b:Bool):(Bs bs).set i [.val (.bool b)]=Bs (bs.set i b):=by simp [Bs,List.map_set]
@[simp] theorem Bs_rep (n:Nat) (b:Bool):qW n [.val (.bool b)]=Bs (qW n b):=by simp [Bs]
end
section
attribute [local simp] Qh QF Qs QT QE
def Es {α:Type} (c:α→List AV) (xs:List α):List (List AV):=xs.map c
def gx {α:Type} [Inhabited α] (xs:List α) (j:Int):α:=xs.getD j.toNat default
def eB (b:Bool):List AV:=[.val (.bool b)]
def eI (b:Int):List AV:=[iV b]
def eL (x:List (List Int)):List AV:=[.lst true 1 (Ls x)]
section
variable {α:Type} {c:α→List AV}
@[simp] theorem Es_length (xs:List α):(Es c xs).length=xs.length:=by simp [Es]
@[simp] theorem Es_nil:Es c []=[]:=rfl
theorem Es_append (xs ys:List α):Es c (xs++ys)=Es c xs++Es c ys:=by simp [Es]
theorem Q8s (xs:List α) (i:Nat) (x:α):Es c (xs.set i x)=(Es c xs).set i (c x):=by simp [Es,List.map_set]
theorem at_E [Inhabited α] {xs:List α} {j:Int} (h:0≤j∧j<(xs.length:Int)):(Es c xs)[j.toNat]? = some (c (gx xs j)):=by
 have h2:j.toNat<xs.length:=by omega
 simp [Es,gx,qB,h2]
end
@[simp] theorem RoV_val {v:Value}:RoV (.val v):=.val
@[simp] theorem RoV_rptr {cs:List AV}:RoV (.rptr cs)↔∀ c∈cs,RoV c:=⟨fun h=>by cases h;assumption,.rptr⟩
@[simp] theorem RoV_Is {u:Bool} {sz:Nat} {xs:List Int}:RoV (.lst u sz (Is xs)):=.lst fun r hr c hc=>by
 simp only [Is,List.mem_map] at hr;obtain ⟨x,_,rfl⟩:=hr;rw [List.mem_singleton.1 hc];exact .val
@[simp] theorem RoV_Ls {u:Bool} {sz:Nat} {xs:List (List Int)}:RoV (.lst u sz (Ls xs)):=.lst fun r hr c hc=>by
 simp only [Ls,List.mem_map] at hr;obtain ⟨x,_,rfl⟩:=hr;rw [List.mem_singleton.1 hc];exact RoV_Is
@[simp] theorem Cs_E (xs:List Cat):Cs xs=Es (Cat.cells true) xs:=rfl
@[simp] theorem Fs_E (xs:List Fn):Fs xs=Es (Fn.cells true) xs:=rfl
@[simp] theorem Ls_nil':Ls []=[]:=rfl
theorem Ls_append (xs ys:List (List Int)):Ls (xs++ys)=Ls xs++Ls ys:=by simp [Ls]
theorem at_I {xs:List Int} {j:Int} (h:0≤j∧j<(xs.length:Int)):(Is xs)[j.toNat]? = some [iV (ix xs j)]:=by
 have h2:j.toNat<xs.length:=by omega
 simp [Is,ix,qB,h2]
theorem at_L {xs:List (List Int)} {j:Int} (h:0≤j∧j<(xs.length:Int)):(Ls xs)[j.toNat]? = some [lI (rx xs j)]:=by
 have h2:j.toNat<xs.length:=by omega
 simp [Ls,rx,qB,h2]
@[simp] theorem Is_takeE (xs:List Int) (k:Nat):List.take k (Is xs)=Is (xs.take k):=by simp [Is,List.map_take]
@[simp] theorem Ls_takeA (xs:List (List Int)):List.take xs.length (Ls xs)=Ls xs:=List.take_of_length_le (by simp)
@[simp] theorem Es_takeE {α:Type} {f:α→List AV} (xs:List α) (k:Nat):List.take k (Es f xs)=Es f (xs.take k):=by simp [Es,List.map_take]
@[simp] theorem u8_min:IntKind.u8.min=0:=rfl
@[simp] theorem u8_max:IntKind.u8.max=255:=rfl
@[simp] theorem Bs_nil':Bs []=[]:=rfl
theorem Bs_append (xs ys:List Bool):Bs (xs++ys)=Bs xs++Bs ys:=by simp [Bs]
theorem at_B {xs:List Bool} {j:Int} (h:0≤j∧j<(xs.length:Int)):(Bs xs)[j.toNat]? = some [.val (.bool (gx xs j))]:=by
 have h2:j.toNat<xs.length:=by omega
 simp [Bs,gx,qB,h2]
theorem IA (xs ys:List Int):Is (xs++ys)=Is xs++Is ys:=Is_append xs ys
theorem I1 (x:Int) (xs:List Int):Is (x :: xs)=[iV x] :: Is xs:=rfl
theorem LA (xs ys:List (List Int)):Ls (xs++ys)=Ls xs++Ls ys:=Ls_append xs ys
theorem L1 (x:List Int) (xs:List (List Int)):Ls (x :: xs)=[lI x] :: Ls xs:=rfl
theorem BA (xs ys:List Bool):Bs (xs++ys)=Bs xs++Bs ys:=Bs_append xs ys
theorem B1 (x:Bool) (xs:List Bool):Bs (x :: xs)=[.val (.bool x)] :: Bs xs:=rfl
theorem EA {α:Type} {c:α→List AV} (xs ys:List α):Es c (xs++ys)=Es c xs++Es c ys:=Es_append xs ys
theorem E1 {α:Type} {c:α→List AV} (x:α) (xs:List α):Es c (x :: xs)=c x :: Es c xs:=rfl
theorem Es_stG {α:Type} {c:α→List AV} {xs:List α} {i:Nat} {x:α} {bs:List AV} (h:c x=bs):(Es c xs).set i bs=Es c (xs.set i x):=by rw [Q8s,h]
theorem E2 {α:Type} {c:α→List AV} (xs:List α) (i:Nat) (x:α):Es c (xs.set i x)=(Es c xs).set i (c x):=Q8s xs i x
theorem rlLL_c {α:Type} {m:List (Nat × Nat)} {c:α→List AV} (h:∀ x,rlL m (c x)=c x):∀ xs:List α,rlLL m (xs.map c)=xs.map c:=by
 intro xs
 induction xs with
 | nil=>rfl
 | cons a r ih=>simp only [List.map_cons,rlLL,h,ih]
@[simp] theorem Q5 {α:Type} (m:List (Nat × Nat)) (c:α→List AV) (xs:List α) (h:∀ x,rlL m (c x)=c x):rlLL m (Es c xs)=Es c xs:=rlLL_c h xs
@[simp] theorem rlLL_append (m:List (Nat × Nat)) (xs ys:List (List AV)):rlLL m (xs++ys)=rlLL m xs++rlLL m ys:=by
 induction xs with
 | nil=>rfl
 | cons a r ih=>simp only [List.cons_append,rlLL,ih]
@[simp] theorem Es_rep0 (n:Nat):Es eL (qW n [])=qW n [AV.lst true 1 []]:=by simp [Es,eL]
theorem Ls_st {xss:List (List Int)} {i:Nat} {x:List Int}:(Ls xss).set i (((Ls xss).getD i []).set 0 (lI x))=Ls (xss.set i x):=by
 by_cases h:i<xss.length
 ·rw [← Ls_set];congr 1;simp [Ls,qB,h]
 rw [List.set_eq_of_length_le (by simp;omega),List.set_eq_of_length_le (by omega)]
theorem Es_st {α:Type} {c:α→List AV} {xs:List α} {i:Nat} {x:α} {b:AV} (h1:∀ y,(c y).length=1) (h2:c x=[b]):(Es c xs).set i (((Es c xs).getD i []).set 0 b)=Es c (xs.set i x):=by
 by_cases h:i<xs.length
 ·rw [Q8s,h2];congr 1;have h3:=h1 xs[i];simp only [Es,qB,List.getElem?_map,List.getElem?_eq_getElem h,Option.map_some,qY]
  match c xs[i],h3 with
  | [a],_=>rfl
 rw [List.set_eq_of_length_le (by simp;omega),List.set_eq_of_length_le (by omega)]
end
section
attribute [local simp] Qh QF Qs QT QE
def Q28 (x:Cat):List AV:=[.rptr (x.cells true)]
def QZ (x:SF):List AV:=[.rptr (x.cells true)]
instance:Inhabited Cat:=⟨⟨0,[],[],[],[]⟩⟩
instance:Inhabited SF:=⟨⟨default,[],[]⟩⟩
structure Ends where
 a:Int
 b:Int
def Ends.cells (u:Bool) (f:Ends):List AV:=[iV f.a,iV f.b]
structure XTerm where
 variable_:Int
 arrow_:Int
def XTerm.cells (u:Bool) (f:XTerm):List AV:=[iV f.variable_,iV f.arrow_]
instance:Inhabited XTerm:=⟨⟨default,default⟩⟩
def Qe (x:XTerm):List AV:=[.rptr (x.cells true)]
structure XQuery where
 variables_:List Int
 left_:List XTerm
 right_:List XTerm
 output_:List Int
def XQuery.cells (u:Bool) (f:XQuery):List AV:=[.lst u 1 (Is f.variables_),.lst u 2 (Es (XTerm.cells true) f.left_),.lst u 2 (Es (XTerm.cells true) f.right_),.lst u 1 (Is f.output_)]
instance:Inhabited XQuery:=⟨⟨default,default,default,default⟩⟩
def Q6 (x:XQuery):List AV:=[.rptr (x.cells true)]
structure XPairint64 where
 first_:Int
 second_:Int
def XPairint64.cells (u:Bool) (f:XPairint64):List AV:=[iV f.first_,iV f.second_]
instance:Inhabited XPairint64:=⟨⟨default,default⟩⟩
def Qg (x:XPairint64):List AV:=[.rptr (x.cells true)]
instance XPairint64_deq:DecidableEq XPairint64:=fun x y=>decidable_of_iff (x.first_=y.first_∧x.second_=y.second_) ⟨fun h=>by cases x;cases y;simp_all,fun h=>by subst h;simp⟩
def XPairint64.kv (x:XPairint64):Value:=.agg #[.int .i64 x.first_,.int .i64 x.second_]
theorem XPairint64.kv_inj (x y:XPairint64) (h:XPairint64.kv x=XPairint64.kv y):x=y:=by cases x;cases y;simp [XPairint64.kv] at h;simp [h]
def Qi (xs:List (XPairint64 × Int)):List (Value × Value):=Em XPairint64.kv vI xs
@[simp] theorem Qaf:Qi []=[]:=rfl
@[simp] theorem Q8r (xs:List (XPairint64 × Int)):(Qi xs).length=xs.length:=by simp [Qi,Em]
@[simp] theorem Q9D (k0 k1:Int) (xs:List (XPairint64 × Int)):(Q1J (.agg #[.int .i64 k0,.int .i64 k1]) (Qi xs)).getD (.int .i64 0) = .int .i64 ((QV (⟨k0,k1⟩:XPairint64) xs).getD 0):=by
 have:=Q7h (ev:=vI) XPairint64.kv_inj (⟨k0,k1⟩:XPairint64) xs;show (Q1J (XPairint64.kv (⟨k0,k1⟩:XPairint64)) (Em XPairint64.kv vI xs)).getD (.int .i64 0)=_;rw [this];cases QV (⟨k0,k1⟩:XPairint64) xs<;>rfl
@[simp] theorem QaD (k0 k1:Int) (v:Int) (xs:List (XPairint64 × Int)):mset (.agg #[.int .i64 k0,.int .i64 k1]) (.int .i64 v) (Qi xs)=Qi (tset (⟨k0,k1⟩:XPairint64) v xs):=mset_Em (ev:=vI) XPairint64.kv_inj (⟨k0,k1⟩:XPairint64) v xs
@[simp] theorem Qa4 (k0 k1:Int) (v:Int):mset (.agg #[.int .i64 k0,.int .i64 k1]) (.int .i64 v) []=Qi [((⟨k0,k1⟩:XPairint64),v)]:=rfl
structure XCanonical where
 q_:XQuery
 sets_:SF
 class_:List (XPairint64 × Int)
def XCanonical.cells (u:Bool) (f:XCanonical):List AV:=[.rptr (XQuery.cells true f.q_),iV f.sets_.s.n,.lst u 1 (Is f.sets_.s.fr),.lst u 1 (Is f.sets_.s.to),.lst u 1 (Is f.sets_.s.id),.lst u 1 (Ls f.sets_.s.cs),.lst u 1 (Is f.sets_.sz),.lst u 1 (Ls f.sets_.ac),.cmap (.st 2) (Qi f.class_)]
instance:Inhabited XCanonical:=⟨⟨default,default,default⟩⟩
def QI (x:XCanonical):List AV:=[.rptr (x.cells true)]
def Qx (x:SF × XTerm × XTerm):List AV:=[.fn 110 [.rptr [.rptr (SF.cells true x.1)],.rptr (XTerm.cells true x.2.1),.rptr (XTerm.cells true x.2.2)]]
end
section
attribute [local simp] Qh QF Qs QT QE
@[simp] theorem ef_23:elm Try.prog 23=some 22:=by kernel_rfl
@[simp] theorem ef_26:elm Try.prog 26=some 102:=by kernel_rfl
@[simp] theorem ef_37:elm Try.prog 37=some 80:=by kernel_rfl
@[simp] theorem ef_103:elm Try.prog 103=some 65:=by kernel_rfl
@[simp] theorem ef_106:elm Try.prog 106=some 109:=by kernel_rfl
@[simp] theorem ef_111:elm Try.prog 111=some 2:=by kernel_rfl
@[simp] theorem ef_117:elm Try.prog 117=some 2:=by kernel_rfl
@[simp] theorem ef_130:elm Try.prog 130=some 135:=by kernel_rfl
@[simp] theorem ef_140:elm Try.prog 140=some 23:=by kernel_rfl
@[simp] theorem ff_25_0:fld Try.prog 25 0=some (0,1,false):=by kernel_rfl
@[simp] theorem ff_25_1:fld Try.prog 25 1=some (1,1,false):=by kernel_rfl
@[simp] theorem ff_25_2:fld Try.prog 25 2=some (2,1,false):=by kernel_rfl
@[simp] theorem ff_25_3:fld Try.prog 25 3=some (3,1,false):=by kernel_rfl
@[simp] theorem ff_25_4:fld Try.prog 25 4=some (4,1,false):=by kernel_rfl
@[simp] theorem ff_28_0:fld Try.prog 28 0=some (0,1,false):=by kernel_rfl
@[simp] theorem ff_28_1:fld Try.prog 28 1=some (1,1,false):=by kernel_rfl
@[simp] theorem ff_28_2:fld Try.prog 28 2=some (2,1,false):=by kernel_rfl
@[simp] theorem ff_28_3:fld Try.prog 28 3=some (3,1,false):=by kernel_rfl
@[simp] theorem ff_31_0:fld Try.prog 31 0=some (0,1,false):=by kernel_rfl
@[simp] theorem ff_31_1:fld Try.prog 31 1=some (1,1,false):=by kernel_rfl
@[simp] theorem ff_31_2:fld Try.prog 31 2=some (2,1,false):=by kernel_rfl
@[simp] theorem ff_31_3:fld Try.prog 31 3=some (3,1,false):=by kernel_rfl
@[simp] theorem ff_31_4:fld Try.prog 31 4=some (4,1,false):=by kernel_rfl
@[simp] theorem ff_33_0:fld Try.prog 33 0=some (0,5,true):=by kernel_rfl
@[simp] theorem ff_33_1:fld Try.prog 33 1=some (5,1,false):=by kernel_rfl
@[simp] theorem ff_33_2:fld Try.prog 33 2=some (6,1,false):=by kernel_rfl
@[simp] theorem ff_39_0:fld Try.prog 39 0=some (0,1,false):=by kernel_rfl
@[simp] theorem ff_39_1:fld Try.prog 39 1=some (1,1,false):=by kernel_rfl
@[simp] theorem ff_39_2:fld Try.prog 39 2=some (2,1,false):=by kernel_rfl
@[simp] theorem ff_39_3:fld Try.prog 39 3=some (3,1,false):=by kernel_rfl
@[simp] theorem ff_71_0:fld Try.prog 71 0=some (0,1,false):=by kernel_rfl
@[simp] theorem ff_71_1:fld Try.prog 71 1=some (1,7,true):=by kernel_rfl
@[simp] theorem ff_71_2:fld Try.prog 71 2=some (8,1,false):=by kernel_rfl
@[simp] theorem ff_80_0:fld Try.prog 80 0=some (0,1,false):=by kernel_rfl
@[simp] theorem ff_80_1:fld Try.prog 80 1=some (1,1,false):=by kernel_rfl
@[simp] theorem ff_102_0:fld Try.prog 102 0=some (0,1,false):=by kernel_rfl
@[simp] theorem ff_102_1:fld Try.prog 102 1=some (1,1,false):=by kernel_rfl
@[simp] theorem ff_109_0:fld Try.prog 109 0=some (0,1,false):=by kernel_rfl
@[simp] theorem ff_109_1:fld Try.prog 109 1=some (1,1,false):=by kernel_rfl
@[simp] theorem mf_69:mty Try.prog 69=some ((.st 2),.int .i64 0):=by kernel_rfl
@[simp] theorem mf_147:mty Try.prog 147=some ((.int .i64),.int .i64 0):=by kernel_rfl
@[simp] theorem pf_71:Q3V Try.prog 71=some [(0,1),(1,7),(8,1)]:=by kernel_rfl
@[simp] theorem pf_80:Q3V Try.prog 80=some [(0,1),(1,1)]:=by kernel_rfl
@[simp] theorem pf_109:Q3V Try.prog 109=some [(0,1),(1,1)]:=by kernel_rfl
@[simp] theorem rp_80 (n:Nat):qW n [iV 0,iV 0]=Es (XTerm.cells true) (qW n default):=by simp [Es];exact .inr rfl
@[simp] theorem tf_22:tyi Try.prog 22=some ⟨false,1,24,[.slice none 0 0]⟩:=by kernel_rfl
@[simp] theorem tf_23:tyi Try.prog 23=some ⟨false,1,24,[.slice none 0 0]⟩:=by kernel_rfl
@[simp] theorem tf_26:tyi Try.prog 26=some ⟨false,1,24,[.slice none 0 0]⟩:=by kernel_rfl
@[simp] theorem tf_33:tyi Try.prog 33=some ⟨true,7,152,[.int .i64 0,.slice none 0 0,.slice none 0 0,.slice none 0 0,.slice none 0 0,.slice none 0 0,.slice none 0 0]⟩:=by kernel_rfl
@[simp] theorem tf_37:tyi Try.prog 37=some ⟨false,1,24,[.slice none 0 0]⟩:=by kernel_rfl
@[simp] theorem tf_39:tyi Try.prog 39=some ⟨true,4,96,[.slice none 0 0,.slice none 0 0,.slice none 0 0,.slice none 0 0]⟩:=by kernel_rfl
@[simp] theorem tf_65:tyi Try.prog 65=some ⟨false,1,8,[.pointer none]⟩:=by kernel_rfl
@[simp] theorem tf_69:tyi Try.prog 69=some ⟨false,1,8,[.map none]⟩:=by kernel_rfl
@[simp] theorem tf_71:tyi Try.prog 71=some ⟨true,9,168,[.pointer none,.int .i64 0,.slice none 0 0,.slice none 0 0,.slice none 0 0,.slice none 0 0,.slice none 0 0,.slice none 0 0,.map none]⟩:=by kernel_rfl
@[simp] theorem tf_80:tyi Try.prog 80=some ⟨true,2,16,[.int .i64 0,.int .i64 0]⟩:=by kernel_rfl
@[simp] theorem tf_102:tyi Try.prog 102=some ⟨true,2,16,[.int .i64 0,.int .i64 0]⟩:=by kernel_rfl
@[simp] theorem tf_109:tyi Try.prog 109=some ⟨true,2,16,[.int .i64 0,.int .i64 0]⟩:=by kernel_rfl
@[simp] theorem tf_135:tyi Try.prog 135=some ⟨false,1,8,[.nilFunc]⟩:=by kernel_rfl
end
section
attribute [local simp] Qh QF Qs QT QE
noncomputable def Q1t (x:Int) (a:Int) (b:Int):Option (Bool) :=
 some ((decide (a≤x) && decide (x≤b)))
theorem Q3G (x:Int) (a:Int) (b:Int) (r:Bool) (h:Q1t x a b=some r):Contract Try.prog 112 [iV x,iV a,iV b] (.val (.bool r)):=by
 unfold Q1t at h;cases h;exact c46 x a b
noncomputable def Q2c (xs:List Int) (n:Int):Option (Bool) :=
 ass (B64 (n - 1)) <| some ((xs.all (inR n)))
theorem Q59 (xs:List Int) (n:Int) (r:Bool) (h:Q2c xs n=some r):Contract Try.prog 106 [lI xs,iV n] (.val (.bool r)):=by
 unfold Q2c at h;replace ⟨hn,h⟩:=Q0 h;cases h;exact c22 true xs n hn
noncomputable def Q3g (x:Int) (a:Int) (b:Int):Option (Bool) :=
 some ((decide (a≤x) && decide (x≤b)))
theorem Q8n (x:Int) (a:Int) (b:Int) (r:Bool) (h:Q3g x a b=some r):Contract Try.prog 85 [iV x,iV a,iV b] (.val (.bool r)):=by
 unfold Q3g at h;cases h;exact c56 x a b
noncomputable def Q3h (n:Int) (xs:List Int):Option (Bool) :=
 some ((xs.all (inR n)))
theorem Q6X (n:Int) (xs:List Int) (r:Bool) (h:Q3h n xs=some r):Contract Try.prog 60 [iV n,lI xs] (.val (.bool r)):=by
 unfold Q3h at h;cases h;exact c57 true xs n
noncomputable def Q1s (c:Cat):Option (Int) :=
 some (c.fr.length)
theorem Q4t (c:Cat) (r:Int) (h:Q1s c=some r):Contract Try.prog 116 [.rptr (c.cells true)] (iV r):=by
 unfold Q1s at h;cases h;have q:=c61 true c [];simp only [List.append_nil] at q;exact q
noncomputable def Q2G (c:Cat):Option (Cat) :=
 ass (c.ok) <| some (c)
theorem Q6Z (c:Cat) (r:Cat) (h:Q2G c=some r):Contract Try.prog 100 [.agg (c.cells true)] (.agg (r.cells true)):=by
 unfold Q2G at h;replace ⟨hc,h⟩:=Q0 h;cases h;exact c41 true c hc
noncomputable def Q1K (c:Cat):Option (Cat) :=
 ass (c.ok) <| some (c)
theorem Q58 (c:Cat) (r:Cat) (h:Q1K c=some r):Contract Try.prog 77 [.rptr (c.cells true)] (.agg (r.cells true)):=by
 unfold Q1K at h;replace ⟨hc,h⟩:=Q0 h;cases h;have q:=c23 true c [] hc;simp only [List.append_nil] at q;exact q
noncomputable def QQ (c:Cat) (f:Int) (g:Int):Option (Int) :=
 ass (0≤f) <| ass (f<c.cs.length) <| ass (0≤g) <| ass (g<(rx c.cs f).length) <| some ((ix (rx c.cs f) g))
theorem Q2i (c:Cat) (f:Int) (g:Int) (r:Int) (h:QQ c f g=some r):Contract Try.prog 76 [.rptr (c.cells true),iV f,iV g] (iV r):=by
 unfold QQ at h;replace ⟨h1,h⟩:=Q0 h;replace ⟨h2,h⟩:=Q0 h;replace ⟨h3,h⟩:=Q0 h;replace ⟨h4,h⟩:=Q0 h;cases h;have q:=c69 true c [] f g h1 h2 h3 h4;simp only [List.append_nil] at q;exact q
noncomputable def Q4N (c:Cat):Option (Bool) :=
 some ((bo c.Is))
theorem w_s_l02Is (c:Cat) (r:Bool) (h:Q4N c=some r):Contract Try.prog 59 [.agg (c.cells true)] (.val (.bool r)):=by
 unfold Q4N at h;cases h;exact c55 true c
noncomputable def Q15 (c:Cat):Option (Bool) :=
 some ((bo c.Is))
theorem Q3F (c:Cat) (r:Bool) (h:Q15 c=some r):Contract Try.prog 70 [.rptr (c.cells true)] (.val (.bool r)):=by
 unfold Q15 at h;cases h;have q:=c60 true c [];simp only [List.append_nil] at q;exact q
noncomputable def Q2f (xs:List Int) (ys:List Int):Option (Bool) :=
 some ((decide (xs=ys)))
theorem Q6o (xs:List Int) (ys:List Int) (r:Bool) (h:Q2f xs ys=some r):Contract Try.prog 51 [lI xs,lI ys] (.val (.bool r)):=by
 unfold Q2f at h;cases h;exact n54 true true xs ys
noncomputable def Q19 (f:List Int) (g:List Int):Option (List Int) :=
 ass (f.length≤1048576) <| ass (∀ y∈f,0≤y∧y<(g.length:Int)) <| some ((QG f g))
theorem Q2U (f:List Int) (g:List Int) (r:List Int) (h:Q19 f g=some r):Contract Try.prog 52 [lI f,lI g] (lI r):=by
 unfold Q19 at h;replace ⟨hx,h⟩:=Q0 h;replace ⟨hg,h⟩:=Q0 h;cases h;exact n58 true true f g hx hg
noncomputable def Q1T (f:List Int) (g:List Int):Option (List Int) :=
 ass (f.length≤1048576) <| ass (∀ y∈f,0≤y∧y<(g.length:Int)) <| some ((QG f g))
theorem Q4S (f:List Int) (g:List Int) (r:List Int) (h:Q1T f g=some r):Contract Try.prog 57 [lI f,lI g] (lI r):=by
 unfold Q1T at h;replace ⟨hx,h⟩:=Q0 h;replace ⟨hg,h⟩:=Q0 h;cases h;exact n65 true true f g hx hg
noncomputable def Q31 (xs:List Int) (ys:List Int):Option (Bool) :=
 some ((decide (xs=ys)))
theorem Qab (xs:List Int) (ys:List Int) (r:Bool) (h:Q31 xs ys=some r):Contract Try.prog 56 [lI xs,lI ys] (.val (.bool r)):=by
 unfold Q31 at h;cases h;exact n62 true true xs ys
end
section
attribute [local simp] Qh QF Qs QT QE
theorem Q5p (p:Prop):(bo p=true)=p:=by simp [bo]
theorem QX {p:Prop} (h:p):bo p=true:=by simp [bo,h]
theorem QH {p:Prop} (h:¬ p):bo p=false:=by simp [bo,h]
theorem bo_iff2 {p q:Prop} (h:p↔q):bo p=bo q:=by simp [bo,h]
theorem loop_go {σ ε:Type} {body:σ→Option (Ctl σ ε)} (g:Nat→σ) (m:Nat):∀ (k:Nat),m≤k→(∀ i,i<m→body (g i)=some (.next (g (i+1))))→QA body k (g 0)=QA body (k - m) (g m):=by
 induction m with
 | zero=>intro k _ _;rfl
 | succ m ih =>
  intro k hk h;rw [ih k (by omega) fun i hi=>h i (by omega)];obtain ⟨j,hj⟩:∃ j,k - m=j+1:=⟨k - m - 1,by omega⟩;rw [hj,show k - (m+1)=j by omega];simp only [QA,h m (by omega)]
theorem Q3s {σ ε:Type} {body:σ→Option (Ctl σ ε)} (g:Nat→σ) (n:Nat) {e:ε} {s0:σ} (h0:s0=g 0) (hn:n<4611686018427387904) (h:∀ i,i<n→body (g i)=some (.next (g (i+1)))) (he:body (g n)=some (.ret e)):QA body fuel s0=some e:=by
 subst h0;rw [loop_go g n fuel (by unfold fuel;omega) h];obtain ⟨j,hj⟩:∃ j,fuel - n=j+1:=⟨fuel - n - 1,by unfold fuel;omega⟩;rw [hj];simp only [QA,he]
theorem loop_chk {ε:Type} {body:Int→Option (Ctl Int ε)} (n:Nat) (p:Nat→Prop) {eb eg:ε} (hn:n<4611686018427387904) (h1:∀ i:Nat,i<n→p i→body (i:Int)=some (.next ((i:Int)+1))) (h2:∀ i:Nat,i<n→¬ p i→body (i:Int)=some (.ret eb)) (h3:body (n:Int)=some (.ret eg)) :
  QA body fuel 0=some (@ite _ (∀ i:Nat,i<n→p i) (Classical.propDecidable _) eg eb):=by
 by_cases hall:∀ i:Nat,i<n→p i
 ·rw [if_pos hall];exact Q3s (fun i:Nat=>(i:Int)) n rfl hn (fun i hi=>h1 i hi (hall i hi)) h3
 rw [if_neg hall];have hex:∃ i,i<n∧¬ p i:=zG fun hx=>hall fun i hi=>zG fun hp=>hx ⟨i,hi,hp⟩;obtain ⟨m,⟨hm,hp⟩,hmin⟩:∃ m,(m<n∧¬ p m)∧∀ k,k<m→¬ (k<n∧¬ p k):=by
  obtain ⟨i,hi⟩:=hex
  induction i using Nat.strongRecOn with
  | _ i ih =>
   by_cases h:∃ k,k<i∧k<n∧¬ p k
   ·obtain ⟨k,h1,h2⟩:=h;exact ih k h1 h2
   exact ⟨i,hi,fun k hk hh=>h ⟨k,hk,hh⟩⟩
 exact Q3s (fun i:Nat=>(i:Int)) m rfl (by omega) (fun i hi=>h1 i (by omega) (zG fun hh=>hmin i hi ⟨by omega,hh⟩)) (h2 m hm hp)
theorem Q7f {ε:Type} {body:Int→Option (Ctl Int ε)} (n:Nat) (p:Nat→Prop) {eb:Nat→ε} {eg:ε} (hn:n<4611686018427387904) (h1:∀ i:Nat,i<n→p i→body (i:Int)=some (.next ((i:Int)+1))) (h2:∀ i:Nat,i<n→¬ p i→body (i:Int)=some (.ret (eb i))) (h3:body (n:Int)=some (.ret eg)) :
  ((∀ i:Nat,i<n→p i)∧QA body fuel 0=some eg)∨∃ m,m<n∧¬ p m∧(∀ k,k<m→p k)∧QA body fuel 0=some (eb m):=by
 by_cases hall:∀ i:Nat,i<n→p i
 ·exact .inl ⟨hall,Q3s (fun i:Nat=>(i:Int)) n rfl hn (fun i hi=>h1 i hi (hall i hi)) h3⟩
 right;have hex:∃ i,i<n∧¬ p i:=zG fun hx=>hall fun i hi=>zG fun hp=>hx ⟨i,hi,hp⟩;obtain ⟨m,⟨hm,hp⟩,hmin⟩:∃ m,(m<n∧¬ p m)∧∀ k,k<m→¬ (k<n∧¬ p k):=by
  obtain ⟨i,hi⟩:=hex
  induction i using Nat.strongRecOn with
  | _ i ih =>
   by_cases h:∃ k,k<i∧k<n∧¬ p k
   ·obtain ⟨k,h1,h2⟩:=h;exact ih k h1 h2
   exact ⟨i,hi,fun k hk hh=>h ⟨k,hk,hh⟩⟩
 have hlt:∀ k,k<m→p k:=fun k hk=>zG fun hh=>hmin k hk ⟨by omega,hh⟩;exact ⟨m,hm,hp,hlt,Q3s (fun i:Nat=>(i:Int)) m rfl (by omega) (fun i hi=>h1 i (by omega) (hlt i hi)) (h2 m hm hp)⟩
theorem Q5z {α ε:Type} {body:α × Int→Option (Ctl (α × Int) ε)} (g:Nat→α) (n:Nat) {e:ε} {a0:α} (h0:a0=g 0) (hn:n<4611686018427387904) (h:∀ i:Nat,i<n→body (g i,(i:Int))=some (.next (g (i+1),(i:Int)+1))) (he:body (g n,(n:Int))=some (.ret e)):QA body fuel (a0,0)=some e:=by
 subst h0;exact Q3s (fun i:Nat=>(g i,(i:Int))) n rfl hn h he
theorem all_inR {xs:List Int} {n:Int}:xs.all (inR n)=true↔∀ j:Nat,j<xs.length→0≤ix xs j∧ix xs j<n:=by
 rw [List.all_eq_true];constructor
 ·intro h j hj;have:=h _ (zI hj);rw [Q1d _ _ hj] at this;simp only [inR,Bool.and_eq_true,decide_eq_true_eq] at this;omega
 intro h x hx;obtain ⟨i,hi,rfl⟩:=List.getElem_of_mem hx;rw [Q1d _ _ hi];have:=h i hi;simp only [inR,Bool.and_eq_true,decide_eq_true_eq];omega
theorem inR_ix {xs:List Int} {n:Int} (h:∀ x∈xs,inR n x=true):∀ j:Nat,j<xs.length→0≤ix xs j∧ix xs j<n:=all_inR.1 (List.all_eq_true.2 h)
theorem chk_bind {ε β:Type} {body:Int→Option (Ctl Int ε)} {K:ε→Option β} {r:β} (n:Nat) (p:Nat→Prop) {eb eg:ε} (hn:n<4611686018427387904) (h1:∀ i:Nat,i<n→p i→body (i:Int)=some (.next ((i:Int)+1))) (h2:∀ i:Nat,i<n→¬ p i→body (i:Int)=some (.ret eb)) (h3:body (n:Int)=some (.ret eg))
  (hb:(¬ ∀ i:Nat,i<n→p i)→K eb=some r) (hg:(∀ i:Nat,i<n→p i)→K eg=some r):(QA body fuel 0).bind K=some r:=by
 rw [loop_chk n p hn h1 h2 h3]
 by_cases h:∀ i:Nat,i<n→p i
 ·rw [if_pos h];exact hg h
 rw [if_neg h];exact hb h
theorem QN {α ε β:Type} {body:α × Int→Option (Ctl (α × Int) ε)} {K:ε→Option β} {r:Option β} {a0:α} (n:Nat) (g:Nat→α) {e:ε} (h0:a0=g 0) (hn:n<4611686018427387904) (h:∀ i:Nat,i<n→body (g i,(i:Int))=some (.next (g (i+1),(i:Int)+1))) (he:body (g n,(n:Int))=some (.ret e)) (hk:K e=r):(QA body fuel (a0,0)).bind K=r:=by
 rw [Q5z g n h0 hn h he];exact hk
end
attribute [local simp] unk unA unE unT unC flat eL eI Qf Qe XTerm.cells
noncomputable def Q49 (a_:XTerm) (b_:XTerm):Option Bool :=
 if ¬ (a_.variable_=b_.variable_) then
  some false
 else
  if ¬ (a_.arrow_=b_.arrow_) then
   some false
  else
   some true
theorem wkQ7 {F : Fx} {st st' : St} (m : List (Nat × Nat)) (h : (m.map Prod.fst).Nodup ∧ (m.map Prod.snd).Nodup ∧ (∀ id, id < F.pins → look id m = some id) ∧ (∀ p ∈ m, p.2 < st'.n) ∧ (∀ p ∈ st'.h, p.1 < st'.n) ∧ (∀ p ∈ st'.s, p.2 = rl m (st.get p.1) ∨ p.2 = .bot) ∧ ∀ p ∈ st'.h, hhOk m st.h p.1 p.2 := by simp [hP, hhOk, back, idQ, XTerm.cells, UA, U1, IA, I1, LA, L1, BA, B1, EA, E1, E2, eB, eI, eL, Q5 _ Qe _ (fun _=>rfl), Q5 _ (XTerm.cells true) _ (fun _=>rfl), Cat.cells]) : Wk F st st' := Wk.r1 m h
theorem wkI7 {F : Fx} {st st' : St} (m : Nat) (h : ((idQ m).map Prod.fst).Nodup ∧ ((idQ m).map Prod.snd).Nodup ∧ (∀ id, id < F.pins → look id (idQ m) = some id) ∧ (∀ p ∈ (idQ m), p.2 < st'.n) ∧ (∀ p ∈ st'.h, p.1 < st'.n) ∧ (∀ p ∈ st'.s, p.2 = rl (idQ m) (st.get p.1) ∨ p.2 = .bot) ∧ ∀ p ∈ st'.h, hhOk (idQ m) st.h p.1 p.2 := by simp [hP, hhOk, back, idQ, XTerm.cells, UA, U1, IA, I1, LA, L1, BA, B1, EA, E1, E2, eB, eI, eL, Q5 _ Qe _ (fun _=>rfl), Q5 _ (XTerm.cells true) _ (fun _=>rfl), Cat.cells]) : Wk F st st' := Wk.r1 (idQ m) h
@[simp] abbrev Yp (a:List (Nat × AV)):List (Nat × AV):=(2,.adr 0 0 0)::(3,.adr 1 0 0)::a
@[simp] abbrev Y01 (a:List (Nat × AV)):List (Nat × AV):=(4,.val (.bool false))::a
@[simp] abbrev Y02 (a:XTerm) (b:List (Nat × Ent)):List (Nat × Ent):=(0,.mix 2 [(XTerm.cells true a)])::b
theorem QaW (a_:XTerm) (b_:XTerm) (r:Bool) (h:Q49 a_ b_=some r):Contract Try.prog 82 [.agg (a_.cells true),.agg (b_.cells true)] (.val (.bool r)):=by
 refine Qd (rvs:=[.tmp 4]) (rs:=[.val (.bool r)]) Try.func82 rfl rfl rfl rfl (by simp [Try.f82]) fun F hN hP=>?_;unfold Q49 at h;refine Q1 (runQ hN fun K hK=>?_);simp;repeat refine sdQ ?_
 refine hK _ ?_;clear hK K;refine tn (Q4 (st':=⟨Yp [],Y02 a_ [(1,.mix 2 [(XTerm.cells true b_)])],2⟩) (wkQ7 [(0,0),(1,1)]) (Q1 (Q1 (runQ hN fun K hK=>?_))));simp;repeat refine sdQ ?_
 refine hK _ ?_;clear hK K;refine tn (Qa rfl (fun g=>?_) fun g=>?_)
 ·have g1:¬ (a_.variable_=b_.variable_):=gQ;clear g;replace h:=if_l g1 h;refine Q1 (runQ hN fun K hK=>?_);simp;repeat refine sdQ ?_
  refine hK _ (tn (Q4 (st':=⟨Y01 [],[],0⟩) (wkQ7 []) (Ql (tr ?_))));clear hK K;have hr:=zC h;rw [← hr];refine ⟨_,(.tmp .nil),?_⟩;refine ⟨(.one rfl rfl .nil),[.val (.bool false)],[],by simp [XTerm.cells,UA,U1,IA,I1,LA,L1,BA,B1,EA,E1,E2,eB,eI,eL,Q5 _ Qe _ (fun _=>rfl)],by simp,(UpL.refl _)⟩
 have g1:¬ (¬ (a_.variable_=b_.variable_)):=gQ;clear g;replace h:=if_r g1 h;refine Qc (tn (Q1 (Q1 (runQ hN fun K hK=>?_))));simp;repeat refine sdQ ?_
 refine hK _ ?_;clear hK K;refine tn (Qa rfl (fun g=>?_) fun g=>?_)
 ·have g2:¬ (a_.arrow_=b_.arrow_):=gQ;clear g;replace h:=if_l g2 h;refine Q1 (runQ hN fun K hK=>?_);simp;repeat refine sdQ ?_
  refine hK _ (tn (Q4 (st':=⟨Y01 [],[],0⟩) (wkQ7 []) (Ql (tr ?_))));clear hK K;have hr:=zC h;rw [← hr];refine ⟨_,(.tmp .nil),?_⟩;refine ⟨(.one rfl rfl .nil),[.val (.bool false)],[],by simp [XTerm.cells,UA,U1,IA,I1,LA,L1,BA,B1,EA,E1,E2,eB,eI,eL,Q5 _ Qe _ (fun _=>rfl)],by simp,(UpL.refl _)⟩
 have g2:¬ (¬ (a_.arrow_=b_.arrow_)):=gQ;clear g;replace h:=if_r g2 h;refine Qc (tn (Q1 (runQ hN fun K hK=>?_)));simp;repeat refine sdQ ?_
 refine hK _ (tn (Q4 (st':=⟨[(4,.val (.bool true))],[],0⟩) (wkQ7 []) (Ql ?_)));clear hK K;have hr:=zC h;rw [← hr];refine ⟨_,(.tmp .nil),?_⟩;refine ⟨(.one rfl rfl .nil),[.val (.bool true)],[],by simp [XTerm.cells,UA,U1,IA,I1,LA,L1,BA,B1,EA,E1,E2,eB,eI,eL,Q5 _ Qe _ (fun _=>rfl)],by simp,(UpL.refl _)⟩
attribute [local simp] unk unA unE unT unC flat eL eI Qf Qe XTerm.cells
noncomputable def Q3y (a_:List XTerm) (b_:List XTerm):Option Bool :=
 if ¬ ((a_.length:Int)=(b_.length:Int)) then
  some false
 else
  (QA (σ:=Int) (ε:=Unit ⊕ Bool) (fun s9 =>
   if s9<(a_.length:Int) then
    ass (0≤s9∧s9<(a_.length:Int)) <|
    ass (0≤s9∧s9<(b_.length:Int)) <|
    (Q49 (gx a_ s9) (gx b_ s9)).bind fun v13 =>
    if ¬ (v13=true) then
     some (Ctl.ret (Sum.inr false))
    else
     ass (B64 (s9+1)) <|
     some (Ctl.next (s9+1))
   else
    some (Ctl.ret (Sum.inl ()))) fuel 0).bind fun e2 =>
  match e2 with
  | .inl b2 =>
   some true
  | .inr p2 =>
   some p2
@[simp] abbrev YA (a:List XTerm) (b:List (Nat × AV)):List (Nat × AV):=(0,.lst true 2 (Es (XTerm.cells true) a))::b
@[simp] abbrev Y0p (a:List XTerm) (b:List (AV)):List (AV):=.lst true 2 (Es (XTerm.cells true) a)::b
theorem Q99 (a_:List XTerm) (b_:List XTerm) (r:Bool) (h:Q3y a_ b_=some r):Contract Try.prog 39 (Y0p a_ (Y0p b_ [])) (.val (.bool r)):=by
 refine Qd (rvs:=[.tmp 4]) (rs:=[.val (.bool r)]) Try.func39 rfl rfl rfl rfl (by simp [Try.f39]) fun F hN hP=>?_;unfold Q3y at h;refine Q1 (runQ hN fun K hK=>?_);simp;repeat refine sdQ ?_
 refine hK _ ?_;clear hK K;refine tn (Q4 (st':=⟨YA a_ [(1,.lst true 2 (Es (XTerm.cells true) b_))],[],0⟩) (wkQ7 []) (Q1 (Q1 (runQ hN fun K hK=>?_))));simp;repeat refine sdQ ?_
 refine hK _ ?_;clear hK K;refine tn (Qa rfl (fun g=>?_) fun g=>?_)
 ·have g1:¬ ((a_.length:Int)=(b_.length:Int)):=gQ;clear g;replace h:=if_l g1 h;refine Q1 (runQ hN fun K hK=>?_);simp;repeat refine sdQ ?_
  refine hK _ (tn (Q4 (st':=⟨Y01 [],[],0⟩) (wkQ7 []) (Ql (tr ?_))));clear hK K;have hr:=zC h;rw [← hr];refine ⟨_,(.tmp .nil),?_⟩;refine ⟨(.one rfl rfl .nil),[.val (.bool false)],[],by simp [XTerm.cells,UA,U1,IA,I1,LA,L1,BA,B1,EA,E1,E2,eB,eI,eL,Q5 _ Qe _ (fun _=>rfl),Q5 _ (XTerm.cells true) _ (fun _=>rfl)],by simp,(UpL.refl _)⟩
 have g1:¬ (¬ ((a_.length:Int)=(b_.length:Int))):=gQ;clear g;replace h:=if_r g1 h;refine Qc (tn (Q1 (Q1 (runQ hN fun K hK=>?_))));simp;repeat refine sdQ ?_
 refine hK _ (tn (Q4 (st':=⟨YA a_ [(1,.lst true 2 (Es (XTerm.cells true) b_)),(5,iV 0)],[],0⟩) (wkQ7 []) ?_));clear hK K;replace ⟨e2,h,h2⟩:=bind_some h;refine Qk (fun b2:Unit=>⟨[],[],0⟩) (fun b2=>Sum.inl b2=e2) ?_ ?_
 ·refine Q7 (Qu h (fun s9:Int=>⟨YA a_ [(1,.lst true 2 (Es (XTerm.cells true) b_)),(5,iV s9)],[],0⟩) (wkQ7 []) ?_);clear h;intro k9 s9 c9 h hk9;refine Q1 (Q1 (runQ hN fun K hK=>?_));simp;repeat refine sdQ ?_
  refine hK _ ?_;clear hK K;refine tn (Qa rfl (fun g=>?_) fun g=>?_)
  ·have g10:s9<(a_.length:Int):=gQ;clear g;replace h:=if_l g10 h;refine Qc (tn (Q1 (Q7 (Q1 (runQ hN fun K hK=>?_)))));replace ⟨a11,h⟩:=Q0 h;replace ⟨a12,h⟩:=Q0 h;simp [at_E (c:=(XTerm.cells true)) a11,at_E (c:=(XTerm.cells true)) a12];(repeat with_reducible refine sdQ ?_);replace ⟨v13,hv13,h⟩:=bind_some h;refine Q3 (QaW _ _ v13 hv13) (.cons (.aggL (.cons .val (.cons .val .nil))) (.cons (.aggL (.cons .val (.cons .val .nil))) .nil)) ?_;simp [at_E (c:=(XTerm.cells true)) a11,at_E (c:=(XTerm.cells true)) a12];(repeat refine sdQ ?_);refine hK _ ?_;clear hK K;refine tn (Q4 (st':=⟨YA a_ [(1,.lst true 2 (Es (XTerm.cells true) b_)),(5,iV s9),(26,.val (.bool (!v13)))],[],0⟩) (wkQ7 []) (Qa rfl (fun g=>?_) fun g=>?_))
   ·have g14:¬ (v13=true):=gQ;clear g;replace h:=if_l g14 h;refine Q1 (runQ hN fun K hK=>?_);simp;(repeat refine sdQ ?_);refine hK _ (tn (Q4 (st':=⟨Y01 [],[],0⟩) (wkQ7 []) (Ql (br (tr (lr (br (tr ?_))))))));clear hK K;cases h;have q:_=e2:=hk9;have h:=h2;rw [← q] at h;clear q;(try dsimp only at h);have hr:=zC h;rw [← hr];refine ⟨_,(.tmp .nil),?_⟩;refine ⟨(.one rfl rfl .nil),[.val (.bool false)],[],by simp [XTerm.cells,UA,U1,IA,I1,LA,L1,BA,B1,EA,E1,E2,eB,eI,eL,Q5 _ Qe _ (fun _=>rfl),Q5 _ (XTerm.cells true) _ (fun _=>rfl)],by simp,(UpL.refl _)⟩
   have g14:¬ (¬ (v13=true)):=gQ;clear g;replace h:=if_r g14 h;refine Qc (bn (tn (runQ hN fun K hK=>?_)));replace ⟨a15,h⟩:=Q0 h;simp [Qm a15];(repeat refine sdQ ?_);refine hK _ ?_;clear hK K;cases h;exact rn (s':=s9+1) hk9 (wkQ7 [])
  have g10:¬ (s9<(a_.length:Int)):=gQ;clear g;replace h:=if_r g10 h;refine Qp (tx (lx (bh ?_)));cases h;exact jn (b:=()) hk9 (wkQ7 [])
 intro b2 hb2;have h:=h2;try rw [← hb2] at h
 clear h2;try dsimp only at h
 refine Q1 (runQ hN fun K hK=>?_);simp;repeat refine sdQ ?_
 refine hK _ (tn (Q4 (st':=⟨[(4,.val (.bool true))],[],0⟩) (wkQ7 []) (Ql ?_)));clear hK K;have hr:=zC h;rw [← hr];refine ⟨_,(.tmp .nil),?_⟩;refine ⟨(.one rfl rfl .nil),[.val (.bool true)],[],by simp [XTerm.cells,UA,U1,IA,I1,LA,L1,BA,B1,EA,E1,E2,eB,eI,eL,Q5 _ Qe _ (fun _=>rfl),Q5 _ (XTerm.cells true) _ (fun _=>rfl)],by simp,(UpL.refl _)⟩
attribute [local simp] unk unA unE unT unC flat eL eI Qf Qe XTerm.cells
noncomputable def Q3z (a_:List XTerm) (left_:Int):Option Int :=
 ass (B64 (left_ - (a_.length:Int))) <|
 if (left_ - (a_.length:Int))<0 then
  some (-1)
 else
  some (left_ - (a_.length:Int))
theorem Q9a (a_:List XTerm) (left_:Int) (r:Int) (h:Q3z a_ left_=some r):Contract Try.prog 29 (Y0p a_ [iV left_]) (iV r):=by
 refine Qd (rvs:=[.tmp 4]) (rs:=[iV r]) Try.func29 rfl rfl rfl rfl (by simp [Try.f29]) fun F hN hP=>?_;unfold Q3z at h;refine Q1 (runQ hN fun K hK=>?_);simp;repeat refine sdQ ?_
 refine hK _ ?_;clear hK K;refine tn (Q4 (st':=⟨YA a_ [(1,iV left_)],[],0⟩) (wkQ7 []) (Q1 (runQ hN fun K hK=>?_)));replace ⟨a1,h⟩:=Q0 h;simp [Qm a1];repeat refine sdQ ?_
 refine hK _ ?_;clear hK K;refine tn (Q4 (st':=⟨[(1,iV (left_ - (a_.length:Int)))],[],0⟩) (wkQ7 []) (Q1 (Q1 (runQ hN fun K hK=>?_))));simp;repeat refine sdQ ?_
 refine hK _ ?_;clear hK K;refine tn (Qa rfl (fun g=>?_) fun g=>?_)
 ·have g2:(left_ - (a_.length:Int))<0:=gQ;clear g;replace h:=if_l g2 h;refine Q1 (runQ hN fun K hK=>?_);simp;repeat refine sdQ ?_
  refine hK _ (tn (Q4 (st':=⟨[(4,iV (-1))],[],0⟩) (wkQ7 []) (Ql (tr ?_))));clear hK K;have hr:=zC h;rw [← hr];refine ⟨_,(.tmp .nil),?_⟩;refine ⟨(.one rfl rfl .nil),[iV (-1)],[],by simp [XTerm.cells,UA,U1,IA,I1,LA,L1,BA,B1,EA,E1,E2,eB,eI,eL,Q5 _ Qe _ (fun _=>rfl),Q5 _ (XTerm.cells true) _ (fun _=>rfl)],by simp,(UpL.refl _)⟩
 have g2:¬ ((left_ - (a_.length:Int))<0):=gQ;clear g;replace h:=if_r g2 h;refine Qc (tn (Q1 (runQ hN fun K hK=>?_)));simp;repeat refine sdQ ?_
 refine hK _ (tn (Q4 (st':=⟨[(4,iV (left_ - (a_.length:Int)))],[],0⟩) (wkQ7 []) (Ql ?_)));clear hK K;have hr:=zC h;rw [← hr];refine ⟨_,(.tmp .nil),?_⟩;refine ⟨(.one rfl rfl .nil),[iV (left_ - (a_.length:Int))],[],by simp [XTerm.cells,UA,U1,IA,I1,LA,L1,BA,B1,EA,E1,E2,eB,eI,eL,Q5 _ Qe _ (fun _=>rfl),Q5 _ (XTerm.cells true) _ (fun _=>rfl)],by simp,(UpL.refl _)⟩
attribute [local simp] unk unA unE unT unC flat eL eI Qf Qe XTerm.cells
noncomputable def Q4a (a_:XTerm):Option XTerm :=
 some a_
theorem QaX (a_:XTerm) (r:XTerm) (h:Q4a a_=some r):Contract Try.prog 69 [.agg (a_.cells true)] (.agg (r.cells true)):=by
 refine Qd (rvs:=[.cell 2 80]) (rs:=[.agg (r.cells true)]) Try.func69 rfl rfl rfl rfl (by simp [Try.f69]) fun F hN hP=>?_;unfold Q4a at h;refine Q1 (runQ hN fun K hK=>?_);simp;repeat refine sdQ ?_
 refine hK _ ?_;clear hK K;refine tn (Q4 (st':=⟨[(1,.adr 0 0 0),(2,.adr 1 0 0)],Y02 a_ [(1,.mix 2 [[iV 0,iV 0]])],2⟩) (wkQ7 [(0,0),(1,1)]) (Q1 (runQ hN fun K hK=>?_)));simp;repeat refine sdQ ?_
 refine hK _ ?_;clear hK K;refine tn (Q4 (st':=⟨[(1,.adr 0 0 0),(2,.adr 1 0 0),(3,.adr 2 0 0)],Y02 a_ [(1,.mix 2 [[iV 0,iV 0]]),(2,.mix 2 [[iV 0,iV 0]])],3⟩) (wkI7 3) (Q1 (runQ hN fun K hK=>?_)));simp;repeat refine sdQ ?_
 refine hK _ ?_;clear hK K;refine tn (Q4 (st':=⟨[(1,.adr 0 0 0),(2,.adr 1 0 0),(3,.adr 2 0 0)],Y02 a_ [(1,.mix 2 [[iV 0,iV 0]]),(2,.mix 2 [[iV a_.variable_,iV 0]])],3⟩) (wkI7 3) (Q1 (runQ hN fun K hK=>?_)));simp;repeat refine sdQ ?_
 refine hK _ ?_;clear hK K;refine tn (Q4 (st':=⟨Yp [],[(0,.mix 2 [[iV 0,iV 0]]),(1,.mix 2 [(XTerm.cells true a_)])],2⟩) (wkQ7 [(1,0),(2,1)]) (Q1 (runQ hN fun K hK=>?_)));simp;repeat refine sdQ ?_
 refine hK _ (tn (Q4 (st':=⟨[(2,.adr 0 0 0)],Y02 a_ [],1⟩) (wkQ7 [(0,0)]) (Ql ?_)));clear hK K;have hr:=zC h;rw [← hr];refine ⟨_,(.cell tf_80 rfl rfl rfl (by simp) (by simp) .nil),?_⟩;refine ⟨(.agg rfl .nil),[iV a_.variable_,iV a_.arrow_],[],by simp [XTerm.cells,UA,U1,IA,I1,LA,L1,BA,B1,EA,E1,E2,eB,eI,eL,Q5 _ Qe _ (fun _=>rfl)],by simp,(UpL.refl _)⟩
attribute [local simp] unk unA unE unT unC flat eL eI Qf Qe XTerm.cells
noncomputable def Q3A (a_:List XTerm):Option (List XTerm) :=
 ass (0≤(a_.length:Int)∧(a_.length:Int)≤1073741824) <|
 (QA (σ:=List XTerm × Int) (ε:=List XTerm) (fun s8 =>
  if s8.2<(a_.length:Int) then
   ass (0≤s8.2∧s8.2<(a_.length:Int)) <|
   (Q4a (gx a_ s8.2)).bind fun v11 =>
   ass (0≤s8.2∧s8.2<(s8.1.length:Int)) <|
   ass (B64 (s8.2+1)) <|
   some (Ctl.next (s8.1.set s8.2.toNat v11,s8.2+1))
  else
   some (Ctl.ret s8.1)) fuel (qW ((a_.length:Int).toNat) (default:XTerm),0)).bind fun b2 =>
 some b2
theorem Q9b (a_:List XTerm) (r:List XTerm) (h:Q3A a_=some r):Contract Try.prog 34 (Y0p a_ []) (.lst true 2 (Es (XTerm.cells true) r)):=by
 refine Qd (rvs:=[.tmp 2]) (rs:=[.lst true 2 (Es (XTerm.cells true) r)]) Try.func34 rfl rfl rfl rfl (by simp [Try.f34]) fun F hN hP=>?_;unfold Q3A at h;refine Q1 (runQ hN fun K hK=>?_);simp;repeat refine sdQ ?_
 refine hK _ ?_;clear hK K;refine tn (Q4 (st':=⟨YA a_ [],[],0⟩) (wkQ7 []) (Q1 (runQ hN fun K hK=>?_)));replace ⟨a1,h⟩:=Q0 h;simp;repeat refine sdQ ?_
 refine hK _ ?_;clear hK K;refine tn (Q4 (st':=⟨YA a_ [(3,.own 0 0 ((qW ((a_.length:Int).toNat) (default:XTerm)).length))],[(0,.row 2 (Es (XTerm.cells true) (qW ((a_.length:Int).toNat) (default:XTerm))))],1⟩) (wkQ7 [(0,0)]) (Q1 (Q1 (runQ hN fun K hK=>?_))));simp;repeat refine sdQ ?_
 refine hK _ (tn (Q4 (st':=⟨YA a_ [(3,.own 0 0 ((qW ((a_.length:Int).toNat) (default:XTerm)).length)),(4,iV 0)],[(0,.row 2 (Es (XTerm.cells true) (qW ((a_.length:Int).toNat) (default:XTerm))))],1⟩) (wkQ7 [(0,0)]) ?_));clear hK K;replace ⟨e2,h,h2⟩:=bind_some h;refine Qk (fun b2:List XTerm=>⟨[(3,.own 0 0 b2.length)],[(0,.row 2 (Es (XTerm.cells true) b2))],1⟩) (fun b2=>b2=e2) ?_ ?_
 ·refine Q7 (Qu h (fun s8:List XTerm × Int=>⟨YA a_ [(3,.own 0 0 s8.1.length),(4,iV s8.2)],[(0,.row 2 (Es (XTerm.cells true) s8.1))],1⟩) (wkQ7 [(0,0)]) ?_);clear h;intro k8 s8 c8 h hk8;refine Q1 (Q1 (runQ hN fun K hK=>?_));simp;repeat refine sdQ ?_
  refine hK _ ?_;clear hK K;refine tn (Qa rfl (fun g=>?_) fun g=>?_)
  ·have g9:s8.2<(a_.length:Int):=gQ;clear g;replace h:=if_l g9 h;refine Qc (tn (Q1 (Q7 (Qn [] mo (by rw [hN];decide) fun K hK=>?_))));replace ⟨a10,h⟩:=Q0 h;simp [at_E (c:=(XTerm.cells true)) a10];(repeat with_reducible refine sdQ ?_);replace ⟨v11,hv11,h⟩:=bind_some h;refine QU (fz:=[]) (QaX _ v11 hv11) (.cons (.aggL (.cons .val (.cons .val .nil))) .nil) ?_;replace ⟨a12,h⟩:=Q0 h;simp [at_E (c:=(XTerm.cells true)) a10,at_E (c:=(XTerm.cells true)) a12];(repeat with_reducible refine sdQ ?_);refine stoG_row (fz:=[]) [] tf_80 rfl (bs:=[iV v11.variable_,iV v11.arrow_]) (ds:=[]) (es2:=Es (XTerm.cells true) (s8.1.set s8.2.toNat v11)) rfl (by simp) (by first|(simp;done)|(simp;omega)|omega) (by simp) (by simp) (by simp) (by simp) (Es_stG (c:=XTerm.cells true) rfl) ?_;simp [at_E (c:=(XTerm.cells true)) a10,at_E (c:=(XTerm.cells true)) a12];(repeat refine sdQ ?_);refine hK _ ?_;clear hK K;refine bn (tn (Q4 (st':=⟨YA a_ [(3,.own 0 0 ((s8.1.set s8.2.toNat v11).length)),(4,iV s8.2)],[(0,.row 2 (Es (XTerm.cells true) (s8.1.set s8.2.toNat v11)))],1⟩) (wkQ7 [(0,0)]) (runQ hN fun K hK=>?_)));replace ⟨a13,h⟩:=Q0 h;simp [Qm a13];(repeat refine sdQ ?_);refine hK _ ?_;clear hK K;cases h;exact rn (s':=(s8.1.set s8.2.toNat v11,s8.2+1)) hk8 (wkQ7 [(0,0)])
  have g9:¬ (s8.2<(a_.length:Int)):=gQ;clear g;replace h:=if_r g9 h;refine Qp (tx (lx (bh ?_)));cases h;exact jn (b:=s8.1) hk8 (wkQ7 [(0,0)])
 intro b2 hb2;have h:=h2;try rw [← hb2] at h
 clear h2;try dsimp only at h
 refine Q1 (runQ hN fun K hK=>?_);simp;repeat refine sdQ ?_
 refine hK _ (tn (Q4 (st':=⟨[(2,.own 0 0 b2.length)],[(0,.row 2 (Es (XTerm.cells true) b2))],1⟩) (wkQ7 [(0,0)]) (Ql ?_)));clear hK K;have hr:=zC h;rw [← hr];refine ⟨_,(.tmp .nil),?_⟩;refine ⟨(.one rfl rfl .nil),[.lst true 2 (Es (XTerm.cells true) b2)],[0],by simp [XTerm.cells,UA,U1,IA,I1,LA,L1,BA,B1,EA,E1,E2,eB,eI,eL,Q5 _ Qe _ (fun _=>rfl),Q5 _ (XTerm.cells true) _ (fun _=>rfl)],by simp,(UpL.refl _)⟩
section
attribute [local simp] Qh QF Qs QT QE
theorem Contract.goodQ {P : Program} {f : Nat} {av : List AV} {res : AV} (k : Nat) (hk : k < av.length) (he : ∃ fn, P.funcs[f]? = some fn ∧ (fn.name == "runtime.NumGoroutine") = false ∧ fn.body.isSome = true) (h : Good (av.getD k .bot) → Contract P f av res) : Contract P f av res :=
 ⟨he,fun w R vals hR hv hx=>(h (hx k hk).good).calls w R vals hR hv hx⟩
theorem goodL {x:List XTerm} (h:Good (.lst true 2 (Es (XTerm.cells true) x))):x.length≤9223372036854775807:=by
 cases h with
 | lst h1=>simp [maxLen] at h1;omega
 | other h=>exact h.elim
theorem gxq_nat {x:List XTerm} {i:Nat} (h:i<x.length):gx x i=x[i]:=by simp [gx,qB,h]
theorem e_szQ (x:List XTerm) (l:Int) (h0:0≤l) (hl:l≤1048576) (hx:x.length≤9223372036854775807):Q3z x l=some (less l x.length):=by
 unfold Q3z less;rw [Q2 (by unfold B64;omega)];split<;>rfl
theorem cszQ (u:Bool) (x:List XTerm) (l:Int) (h1:0≤l) (h2:l≤1048576):Contract Try.prog 29 (Y0p x [iV l]) (iV (less l x.length)) :=
 Contract.goodQ 0 (by simp) ⟨_,Try.func29,rfl,rfl⟩ fun g=>Q9a x l _ (e_szQ x l h1 h2 (goodL (by simpa using g)))
theorem Qaz {α:Type} (xs:List α) (k:Nat) (v z:α) {i:Nat} (h:i=xs.length):(xs++qW (k+1) z).set i v=(xs++[v])++qW k z:=by
 subst h;simp [List.replicate_succ]
theorem e_toQ (x:List XTerm) (h1:x.length≤1048576):Q3A x=some x:=by
 unfold Q3A;rw [Q2 (by omega)];refine QN x.length (fun i=>x.take i++qW (x.length - i) default) (e:=x) (by simp) (by omega) (fun i hi=>?_) (by simp) rfl;simp only;rw [if_pos (by omega),Q2 (by omega),gxq_nat hi];unfold Q4a;simp only [zF];rw [Q2 (by simp;omega),Q2 (by unfold B64;omega)];have e1:x.length - i=(x.length - (i+1))+1:=by omega
 simp only [zJ];rw [e1,Qaz _ _ _ _ (by rw [List.length_take];omega),zH hi]
theorem toQ (u:Bool) (x:List XTerm) (h1:x.length≤1048576):Contract Try.prog 34 (Y0p x []) (.lst true 2 (Es (XTerm.cells true) x)):=Q9b x _ (e_toQ x h1)
theorem e_eqQ (x:List XTerm) (h:x.length≤1048576):Q3y x x=some true:=by
 unfold Q3y Q49;rw [if_neg (by simp)];refine chk_bind x.length (fun _=>True) (eb:=Sum.inr false) (eg:=Sum.inl ()) (by omega) (fun i hi _=>?_) (fun i hi q=>absurd trivial q) (by rw [if_neg (by omega)]) (fun q=>absurd (fun _ _=>trivial) q) fun _=>rfl;rw [if_pos (by omega),Q2 (by omega),Q2 (by omega)];simp only [not_true_eq_false,if_false,zF];rw [Q2 (by unfold B64;omega)]
theorem eqQ (u v:Bool) (x:List XTerm) (h:x.length≤1048576):Contract Try.prog 39 (Y0p x (Y0p x [])) (.val (.bool true)):=Q99 x x true (e_eqQ x h)
end
section
attribute [local simp] Qh QF Qs QT QE
theorem toCat (u:Bool) (c:Cat) (hc:c.ok):Contract Try.prog 9 [.agg (c.cells u)] (.agg (c.cells true)):=c18 c u hc
theorem cszCat (u:Bool) (c:Cat) (l:Int) (h1:0≤l) (h2:l≤1048576):Contract Try.prog 6 [.agg (c.cells u),iV l] (iV (Q3D l c)):=c13 u c l h1 h2
theorem Q4R {l:Int} {f:Cat} (h:l≤1048576):Q3D l f≤1048576:=szCat_le h
theorem XQuery.pur {h:HP} {u v:Bool} {c:XQuery}:PurL h (c.cells u) (c.cells v):=.cons .lst (.cons .lst (.cons .lst (.cons .lst .nil)))
def XQuery.size (f:XQuery):Nat:=f.variables_.length+2 * f.left_.length+2 * f.right_.length+f.output_.length
def XQuery.ok (f:XQuery):Prop:=f.variables_.length≤1048576∧f.left_.length≤1048576∧f.right_.length≤1048576∧f.output_.length≤1048576
theorem XQuery.ok_size {f:XQuery} (h:f.ok):f.size≤6291456:=by
 obtain ⟨hvariables_,hleft_,hright_,houtput_⟩:=h;simp only [XQuery.size];omega
theorem Q9B (u v:Bool) (f:XQuery) (hf:f.ok):Contract Try.prog 15 [.agg (f.cells u),.agg (f.cells v)] (.val (.bool true)):=by
 obtain ⟨hvariables_,hleft_,hright_,houtput_⟩:=hf;refine Qj (rs:=[.val (.bool true)]) Try.func15 rfl rfl rfl rfl (by simp [Try.f15]) fun F hN hP=>?_;refine srQ hN fun K hK=>?_;simp [XQuery.cells];refine hK _ ?_;clear hK K;refine Q1 (srQ hN fun K hK=>?_);simp;refine Q3 (c29 u v f.variables_ f.variables_) (.cons .lst (.cons .lst .nil)) ?_;simp [unk,unA,unE,flat];refine hK _ (Qa rfl (fun h=>by simp at h) fun _=>?_);clear hK K;refine Qc (Q1 (srQ hN fun K hK=>?_));simp;refine Q3 (eqQ u v f.left_ hleft_) (.cons .lst (.cons .lst .nil)) ?_;simp [unk,unA,unE,flat];refine hK _ (Qa rfl (fun h=>by simp at h) fun _=>?_);clear hK K;refine Qc (Q1 (srQ hN fun K hK=>?_));simp;refine Q3 (eqQ u v f.right_ hright_) (.cons .lst (.cons .lst .nil)) ?_;simp [unk,unA,unE,flat];refine hK _ (Qa rfl (fun h=>by simp at h) fun _=>?_);clear hK K;refine Qc (Q1 (srQ hN fun K hK=>?_));simp;refine Q3 (c29 u v f.output_ f.output_) (.cons .lst (.cons .lst .nil)) ?_;simp [unk,unA,unE,flat];refine hK _ (Qa rfl (fun h=>by simp at h) fun _=>?_);clear hK K;refine Qc (srQ hN fun K hK=>?_);simp;refine hK _ ?_;clear hK K;refine Ql (Qt rfl rfl)
theorem Q4c (u:Bool) (f:XQuery) (hf:f.ok):Contract Try.prog 10 [.agg (f.cells u)] (.agg (f.cells true)):=by
 obtain ⟨hvariables_,hleft_,hright_,houtput_⟩:=hf;refine Q1D Try.func10 rfl rfl tf_39 rfl rfl (by simp [Try.f10]) fun F hN hP=>?_;refine srQ hN fun K hK=>?_;simp [XQuery.cells];refine hK _ ?_;clear hK K;refine srQ hN fun K hK=>?_;simp;refine hK _ ?_;clear hK K;refine srQ hN fun K hK=>?_;simp;refine Q3 (c19 u f.variables_ hvariables_) (.cons .lst .nil) ?_;simp [unk,unA,unE,flat];refine hK _ ?_;clear hK K;refine srQ hN fun K hK=>?_;simp;refine Q3 (toQ u f.left_ hleft_) (.cons .lst .nil) ?_;simp [unk,unA,unE,flat];refine hK _ ?_;clear hK K;refine srQ hN fun K hK=>?_;simp;refine Q3 (toQ u f.right_ hright_) (.cons .lst .nil) ?_;simp [unk,unA,unE,flat];refine hK _ ?_;clear hK K;refine srQ hN fun K hK=>?_;simp;refine Q3 (c19 u f.output_ houtput_) (.cons .lst .nil) ?_;simp [unk,unA,unE,flat];refine hK _ ?_;clear hK K;refine srQ hN fun K hK=>?_;simp;refine hK _ (Ql ⟨_,_,_,_,_,rfl,rfl,by simp,by simp,?_⟩);clear hK K;exact ⟨.agg rfl .nil,[lI f.variables_,.lst true 2 (Es (XTerm.cells true) f.left_),.lst true 2 (Es (XTerm.cells true) f.right_),lI f.output_],[3,4,5,6],by simp,by simp,UpL.refl _⟩
def Q1v (l:Int) (f:XQuery):Int:=nn (less l f.variables_.length) fun a0=>nn (less a0 f.left_.length) fun a1=>nn (less a1 f.right_.length) fun a2=>nn (less a2 f.output_.length) fun a3=>a3
theorem Q6g {l:Int} {f:XQuery} (h:l≤1048576):Q1v l f≤1048576:=Q83 (fun x0 h0 _=>Q83 (fun x1 h1 _=>Q83 (fun x2 h2 _=>Q83 (fun x3 h3 _=>by rw [← h3];exact Q1g (by rw [← h2];exact Q1g (by rw [← h1];exact Q1g (by rw [← h0];exact Q1g h)))) (by decide)) (by decide)) (by decide)) (by decide)
theorem Q6h {l:Int} {f:XQuery} (hl:l≤1048576) (h:0≤Q1v l f):f.ok:=by
 unfold Q1v at h;obtain ⟨p0,q0,_⟩:=Q84 h;obtain ⟨e0,_⟩:=Q3T p0;have b0:=Q1g (n:=f.variables_.length) hl;obtain ⟨p1,q1,_⟩:=Q84 q0;obtain ⟨e1,_⟩:=Q3T p1;have b1:=Q1g (n:=f.left_.length) b0;obtain ⟨p2,q2,_⟩:=Q84 q1;obtain ⟨e2,_⟩:=Q3T p2;have b2:=Q1g (n:=f.right_.length) b1;obtain ⟨p3,q3,_⟩:=Q84 q2;obtain ⟨e3,_⟩:=Q3T p3;have b3:=Q1g (n:=f.output_.length) b2;exact ⟨by omega,by omega,by omega,by omega⟩
theorem Q7D (u:Bool) (f:XQuery) (l:Int) (h1:0≤l) (h2:l≤1048576):Contract Try.prog 7 [.agg (f.cells u),iV l] (iV (Q1v l f)):=by
 refine Qj (rs:=[iV (Q1v l f)]) Try.func7 rfl rfl rfl rfl (by simp [Try.f7]) fun F hN hP=>?_;refine srQ hN fun K hK=>?_;simp [XQuery.cells];refine hK _ ?_;clear hK K;refine srQ hN fun K hK=>?_;simp;refine Q3 (c14 u f.variables_ (l) h1 (h2)) (.cons .lst (.cons .val .nil)) ?_;simp [unk,unA,unE,flat];refine hK _ ?_;clear hK K;refine Q1 (srQ hN fun K hK=>?_);simp;refine hK _ ?_;clear hK K;refine Qa rfl (fun g1=>?_) fun g1=>?_
 ·simp at g1;refine srQ hN fun K hK=>?_;simp;refine hK _ (Ql (Qt rfl ?_));clear hK K;simp only [Q1v,nn];rw [if_pos g1]
 simp at g1;refine Qc (srQ hN fun K hK=>?_);simp;refine Q3 (cszQ u f.left_ (less (l) f.variables_.length) g1 (Q1g (h2))) (.cons .lst (.cons .val .nil)) ?_;simp [unk,unA,unE,flat];refine hK _ ?_;clear hK K;refine Q1 (srQ hN fun K hK=>?_);simp;refine hK _ ?_;clear hK K;refine Qa rfl (fun g2=>?_) fun g2=>?_
 ·simp at g2;refine srQ hN fun K hK=>?_;simp;refine hK _ (Ql (Qt rfl ?_));clear hK K;simp only [Q1v,nn];rw [if_neg (Int.not_lt.2 g1),if_pos g2]
 simp at g2;refine Qc (srQ hN fun K hK=>?_);simp;refine Q3 (cszQ u f.right_ (less (less (l) f.variables_.length) f.left_.length) g2 (Q1g (Q1g (h2)))) (.cons .lst (.cons .val .nil)) ?_;simp [unk,unA,unE,flat];refine hK _ ?_;clear hK K;refine Q1 (srQ hN fun K hK=>?_);simp;refine hK _ ?_;clear hK K;refine Qa rfl (fun g3=>?_) fun g3=>?_
 ·simp at g3;refine srQ hN fun K hK=>?_;simp;refine hK _ (Ql (Qt rfl ?_));clear hK K;simp only [Q1v,nn];rw [if_neg (Int.not_lt.2 g1),if_neg (Int.not_lt.2 g2),if_pos g3]
 simp at g3;refine Qc (srQ hN fun K hK=>?_);simp;refine Q3 (c14 u f.output_ (less (less (less (l) f.variables_.length) f.left_.length) f.right_.length) g3 (Q1g (Q1g (Q1g (h2))))) (.cons .lst (.cons .val .nil)) ?_;simp [unk,unA,unE,flat];refine hK _ ?_;clear hK K;refine Q1 (srQ hN fun K hK=>?_);simp;refine hK _ ?_;clear hK K;refine Qa rfl (fun g4=>?_) fun g4=>?_
 ·simp at g4;refine srQ hN fun K hK=>?_;simp;refine hK _ (Ql (Qt rfl ?_));clear hK K;simp only [Q1v,nn];rw [if_neg (Int.not_lt.2 g1),if_neg (Int.not_lt.2 g2),if_neg (Int.not_lt.2 g3),if_pos g4]
 simp at g4;refine Qc (srQ hN fun K hK=>?_);simp;refine hK _ (Ql (Qt rfl ?_));clear hK K;simp only [Q1v,nn];rw [if_neg (Int.not_lt.2 g1),if_neg (Int.not_lt.2 g2),if_neg (Int.not_lt.2 g3),if_neg (Int.not_lt.2 g4)]
end
section
attribute [local simp] Qh QF Qs QT QE
structure Fn.Is (f:Fn):Prop where
 s:f.s.Is
 t:f.t.Is
 lo:(f.ob.length:Int)=f.s.n
 la:f.ar.length=f.s.fr.length
 ob:∀ j:Nat,j<f.ob.length→0≤ix f.ob j∧ix f.ob j<f.t.n
 ar:∀ j:Nat,j<f.ar.length→0≤ix f.ar j∧ix f.ar j<f.t.fr.length
 ends:∀ a:Nat,a<f.s.fr.length→ix f.t.fr (ix f.ar a)=ix f.ob (ix f.s.fr a)∧ix f.t.to (ix f.ar a)=ix f.ob (ix f.s.to a)
 ids:∀ x:Nat,x<f.s.id.length→ix f.ar (ix f.s.id x)=ix f.t.id (ix f.ob x)
 comp:∀ a:Nat,a<f.s.fr.length→∀ b:Nat,b<f.s.fr.length→ix f.s.to a=ix f.s.fr b→ix f.ar (ix (rx f.s.cs a) b)=ix (rx f.t.cs (ix f.ar a)) (ix f.ar b)
end
attribute [local simp] unk unA unE unT unC flat eL eI Qf
noncomputable def Q2O (n_:Int):Option (List Int) :=
 ass (0≤n_∧n_≤1073741824) <|
 (QA (σ:=List Int × Int) (ε:=List Int) (fun s6 =>
  if s6.2<((qW n_.toNat 0).length:Int) then
   ass (0≤s6.2∧s6.2<(s6.1.length:Int)) <|
   ass (B64 (s6.2+1)) <|
   some (Ctl.next (s6.1.set s6.2.toNat s6.2,s6.2+1))
  else
   some (Ctl.ret s6.1)) fuel (qW n_.toNat 0,0)).bind fun b2 =>
 some b2
@[simp] abbrev Y0k (a:Int) (b:List (Nat × AV)):List (Nat × AV):=(8,iV ((qW a.toNat 0).length:Int))::b
theorem Q98 (n_:Int) (r:List Int) (h:Q2O n_=some r):Contract Try.prog 108 [iV n_] (lI r):=by
 refine Qd (rvs:=[.tmp 2]) (rs:=[lI r]) Try.func108 rfl rfl rfl rfl (by simp [Try.f108]) fun F hN hP=>?_;unfold Q2O at h;refine Q1 (runQ hN fun K hK=>?_);simp;repeat refine sdQ ?_
 refine hK _ ?_;clear hK K;refine tn (Q4 (st':=⟨[(0,iV n_)],[],0⟩) (wkQ7 []) (Q1 (runQ hN fun K hK=>?_)));replace ⟨a1,h⟩:=Q0 h;simp;repeat refine sdQ ?_
 refine hK _ ?_;clear hK K;refine tn (Q4 (st':=⟨[(3,.own 0 0 ((qW n_.toNat 0).length))],[(0,rI (qW n_.toNat 0))],1⟩) (wkQ7 [(0,0)]) (Q1 (Q1 (runQ hN fun K hK=>?_))));simp;repeat refine sdQ ?_
 refine hK _ (tn (Q4 (st':=⟨(3,.own 0 0 ((qW n_.toNat 0).length))::Y0k n_ [(9,iV 0)],[(0,rI (qW n_.toNat 0))],1⟩) (wkQ7 [(0,0)]) ?_));clear hK K;replace ⟨e2,h,h2⟩:=bind_some h;refine Qk (fun b2:List Int=>⟨[(3,.own 0 0 b2.length)],[(0,rI b2)],1⟩) (fun b2=>b2=e2) ?_ ?_
 ·refine Q7 (Qu h (fun s6:List Int × Int=>⟨(3,.own 0 0 s6.1.length)::Y0k n_ [(9,iV s6.2)],[(0,rI s6.1)],1⟩) (wkQ7 [(0,0)]) ?_);clear h;intro k6 s6 c6 h hk6;refine Q1 (runQ hN fun K hK=>?_);simp;repeat refine sdQ ?_
  refine hK _ ?_;clear hK K;refine tn (Q1 (Qa rfl (fun g=>?_) fun g=>?_))
  ·have g7:s6.2<((qW n_.toNat 0).length:Int):=gQ;clear g;replace h:=if_l g7 h;refine Qc (tn (Q1 (Q7 (Q1 (runQ hN fun K hK=>?_)))));simp;(repeat refine sdQ ?_);refine hK _ ?_;clear hK K;refine tn (Q4 (st':=⟨(3,.own 0 0 s6.1.length)::(4,iV s6.2)::Y0k n_ [(9,iV s6.2)],[(0,rI s6.1)],1⟩) (wkQ7 [(0,0)]) (runQ hN fun K hK=>?_));replace ⟨a8,h⟩:=Q0 h;simp [at_I a8];(repeat refine sdQ ?_);refine hK _ ?_;clear hK K;refine bn (tn (Q4 (st':=⟨(3,.own 0 0 ((s6.1.set s6.2.toNat s6.2).length))::Y0k n_ [(9,iV s6.2)],[(0,rI (s6.1.set s6.2.toNat s6.2))],1⟩) (wkQ7 [(0,0)]) (runQ hN fun K hK=>?_)));replace ⟨a9,h⟩:=Q0 h;simp [Qm a9];(repeat refine sdQ ?_);refine hK _ ?_;clear hK K;cases h;exact rn (s':=(s6.1.set s6.2.toNat s6.2,s6.2+1)) hk6 (wkQ7 [(0,0)])
  have g7:¬ (s6.2<((qW n_.toNat 0).length:Int)):=gQ;clear g;replace h:=if_r g7 h;refine Qp (tx (lx (bh ?_)));cases h;exact jn (b:=s6.1) hk6 (wkQ7 [(0,0)])
 intro b2 hb2;have h:=h2;try rw [← hb2] at h
 clear h2;try dsimp only at h
 refine Q1 (runQ hN fun K hK=>?_);simp;repeat refine sdQ ?_
 refine hK _ (tn (Q4 (st':=⟨[(2,.own 0 0 b2.length)],[(0,rI b2)],1⟩) (wkQ7 [(0,0)]) (Ql ?_)));clear hK K;have hr:=zC h;rw [← hr];refine ⟨_,(.tmp .nil),?_⟩;refine ⟨(.one rfl rfl .nil),[lI b2],[0],by simp [UA,U1,IA,I1,LA,L1,BA,B1,EA,E1,E2,eB,eI,eL],by simp,(UpL.refl _)⟩
section
attribute [local simp] Qh QF Qs QT QE
theorem Q4F (f g:List Int) {j:Int} (h0:0≤j) (h1:j<f.length):ix (QG f g) j=ix g (ix f j):=by
 obtain ⟨i,rfl⟩:∃ i:Nat,j=i:=⟨j.toNat,by omega⟩;have hi:i<f.length:=by omega
 rw [← Q1d _ _ (show i<(QG f g).length by simpa [QG] using hi),← Q1d _ _ hi];simp [QG]
theorem Q5Y (n:Nat) {j:Int} (h0:0≤j) (h1:j<n):ix (iota n) j=j:=by
 obtain ⟨i,rfl⟩:∃ i:Nat,j=i:=⟨j.toNat,by omega⟩;rw [← Q1d _ _ (show i<(iota n).length by simp [iota];omega)];simp [iota]
theorem set_fill {α:Type} (xs:List α) (k:Nat) (v z:α) {i:Nat} (h:i=xs.length):(xs++qW (k+1) z).set i v=(xs++[v])++qW k z:=by
 subst h;simp [List.replicate_succ]
theorem mem_bnd {f:List Int} {n:Int} (h:∀ j:Nat,j<f.length→0≤ix f j∧ix f j<n):∀ y∈f,0≤y∧y<n:=by
 intro y hy;obtain ⟨i,hi,rfl⟩:=List.getElem_of_mem hy;rw [Q1d _ _ hi];exact h i hi
theorem e_numbers {n:Int} (h0:0≤n) (h1:n≤1048576):Q2O n=some (iota n.toNat):=by
 unfold Q2O;rw [Q2 (by omega)];simp only [List.length_replicate];refine QN n.toNat (fun i:Nat=>iota i++qW (n.toNat - i) 0) (e:=iota n.toNat) (by simp [iota]) (by omega) (fun i hi=>?_) (by simp) (by simp);obtain ⟨k,hk⟩:∃ k,n.toNat - i=k+1:=⟨n.toNat - i - 1,by omega⟩;have hl:(iota i).length=i:=by simp [iota]
 have hs:=set_fill (iota i) k (i:Int) 0 (i:=i) (by rw [hl]);rw [iota_succ,hk,show n.toNat - (i+1)=k by omega,← hs];simp (disch:=omega) [Q2,B64,hl];omega
end
attribute [local simp] unk unA unE unT unC flat
noncomputable def Q2g (c_:Cat) (f_:Int) (g_:Int):Option Int :=
 ass (0≤f_∧f_<(c_.cs.length:Int)) <|
 ass (0≤g_∧g_<((rx c_.cs f_).length:Int)) <|
 some (ix (rx c_.cs f_) g_)
@[simp] abbrev YP (a:Cat) (b:List (Nat × Ent)):List (Nat × Ent):=(0,.mix 5 [(Cat.cells true a)])::b
@[simp] abbrev YZ (a b:Int) (c:List (Nat × AV)):List (Nat × AV):=(1,iV a)::(2,iV b)::(3,.adr 0 0 0)::c
theorem Q9d (c_:Cat) (f_:Int) (g_:Int) (r:Int) (h:Q2g c_ f_ g_=some r):Contract Try.prog 101 [.agg (c_.cells true),iV f_,iV g_] (iV r):=by
 refine Qd (rvs:=[.tmp 6]) (rs:=[iV r]) Try.func101 rfl rfl rfl rfl (by simp [Try.f101]) fun F hN hP=>?_;unfold Q2g at h;refine Q1 (runQ hN fun K hK=>?_);simp [eL,eI,Qf,Q28,Cat.cells];repeat refine sdQ ?_
 refine hK _ ?_;clear hK K;refine tn (Q4 (st':=⟨YZ f_ g_ [],YP c_ [],1⟩) (wkQ7 [(0,0)]) (Q1 (runQ hN fun K hK=>?_)));replace ⟨a1,h⟩:=Q0 h;replace ⟨a2,h⟩:=Q0 h;simp [eL,eI,Qf,Q28,Cat.cells,at_L a1,at_I a2];repeat refine sdQ ?_
 refine hK _ (tn (Q4 (st':=⟨[(6,iV (ix (rx c_.cs f_) g_))],[],0⟩) (wkQ7 []) (Ql ?_)));clear hK K;have hr:=zC h;rw [← hr];refine ⟨_,(.tmp .nil),?_⟩;refine ⟨(.one rfl rfl .nil),[iV (ix (rx c_.cs f_) g_)],[],by simp [Cat.cells,UA,U1,IA,I1,LA,L1,BA,B1,EA,E1,E2,eB,eI,eL],by simp,(UpL.refl _)⟩
section
attribute [local simp] Qh QF Qs QT QE
structure Para (f g:Fn):Prop where
 hf:f.Is
 hg:g.Is
 s:f.s=g.s
 t:f.t=g.t
theorem e_l02Then {c:Cat} {f g:Int} (h0:0≤f∧f<(c.cs.length:Int)) (h1:0≤g∧g<((rx c.cs f).length:Int)):Q2g c f g=some (ix (rx c.cs f) g):=by
 unfold Q2g;rw [Q2 h0,Q2 h1]
theorem e_Cthen {c:Cat} {f g:Int} (h0:0≤f∧f<(c.cs.length:Int)) (h1:0≤g∧g<((rx c.cs f).length:Int)):QQ c f g=some (ix (rx c.cs f) g):=by
 unfold QQ;rw [Q2 h0.1,Q2 h0.2,Q2 h1.1,Q2 h1.2]
end
section
attribute [local simp] Qh QF Qs QT QE
def tab {α:Type} (n:Nat) (g:Nat→α):List α:=(zD n).map g
@[simp] theorem tab_length {α:Type} (n:Nat) (g:Nat→α):(tab n g).length=n:=by simp [tab]
theorem Q1U {α:Type} (n:Nat) (g:Nat→α):tab (n+1) g=tab n g++[g n]:=by simp [tab,zK]
theorem Qa6 {α:Type} (g:Nat→α):tab 0 g=[]:=rfl
theorem Q4k (n:Nat) (g:Nat→Int) {i:Nat} (h:i<n):ix (tab n g) i=g i:=by
 rw [← Q1d _ _ (show i<(tab n g).length by simpa using h)];simp [tab]
end
section
attribute [local simp] Qh QF Qs QT QE
theorem Q6i {α:Type} {n:Nat} {f g:Nat→α} (h:∀ i,i<n→f i=g i):tab n f=tab n g:=by
 unfold tab;exact List.map_congr_left fun i hi=>h i (by simpa using hi)
end
section
attribute [local simp] Qh QF Qs QT QE
noncomputable def flt (n:Nat) (p:Nat→Prop):List Int:=((zD n).filter fun i=>bo (p i)).map Int.ofNat
noncomputable def fstN (n:Nat) (p:Nat→Prop):Int:=(((zD n).find? fun i=>bo (p i)).map Int.ofNat).getD (-1)
theorem Q79 {n:Nat} {p:Nat→Prop} (h:p n):flt (n+1) p=flt n p++[(n:Int)]:=by simp [flt,zK,QX h]
theorem Q8C {n:Nat} {p:Nat→Prop} (h:¬ p n):flt (n+1) p=flt n p:=by simp [flt,zK,QH h]
theorem flt_len (n:Nat) (p:Nat→Prop):(flt n p).length≤n:=by
 unfold flt;rw [List.length_map];exact Nat.le_trans (List.length_filter_le _ _) (by simp)
theorem mem_flt {n:Nat} {p:Nat→Prop} {x:Int}:x∈flt n p↔∃ i:Nat,i<n∧p i∧x=(i:Int):=by
 simp only [flt,List.mem_map,List.mem_filter,List.mem_range,Q5p];constructor
 ·rintro ⟨i,⟨h1,h2⟩,rfl⟩;exact ⟨i,h1,h2,rfl⟩
 rintro ⟨i,h1,h2,rfl⟩;exact ⟨i,⟨h1,h2⟩,rfl⟩
theorem Q4z (n:Nat) (p:Nat→Prop):(fstN n p = -1∧∀ i,i<n→¬ p i)∨∃ k:Nat,k<n∧p k∧fstN n p=(k:Int):=by
 unfold fstN;cases h:(zD n).find? fun i=>bo (p i) with
 | none =>
  refine .inl ⟨rfl,fun i hi=>?_⟩;have:=List.find?_eq_none.1 h i (by simpa using hi);simpa [Q5p] using this
 | some k =>
  have h1:=List.find?_some h;have h2:=List.mem_of_find?_eq_some h;exact .inr ⟨k,by simpa using h2,by simpa [Q5p] using h1,rfl⟩
def Inv (c:Cat) (f:Int) (g:Nat):Prop:=(ix c.fr g=ix c.to f∧ix c.to g=ix c.fr f)∧ix (rx c.cs f) g=ix c.id (ix c.fr f)∧ix (rx c.cs g) f=ix c.id (ix c.to f)
noncomputable def inv (c:Cat) (f:Int):Int:=fstN c.fr.length (Inv c f)
end
section
attribute [local simp] Qh QF Qs QT QE
theorem Cat.Is.two {c:Cat} (h:c.Is) {f g:Int} (f0:0≤f∧f<c.fr.length) (g0:0≤g∧g<c.fr.length) (e:ix c.to f=ix c.fr g):(0≤ix (rx c.cs f) g∧ix (rx c.cs f) g<c.fr.length)∧ix c.fr (ix (rx c.cs f) g)=ix c.fr f∧ix c.to (ix (rx c.cs f) g)=ix c.to g:=by
 have:=(h.1.cell' f0.1 f0.2 g0.1 g0.2).2 e;exact ⟨⟨this.1,this.2.1⟩,this.2.2⟩
theorem Q9v {c:Cat} (h:c.Is) {f g:Int} (f0:0≤f∧f<c.fr.length) (g0:0≤g∧g<c.fr.length):Q2g c f g=some (ix (rx c.cs f) g)∧QQ c f g=some (ix (rx c.cs f) g):=by
 have h1:=h.1.lc;have h2:=h.1.row' f0.1 f0.2;exact ⟨e_l02Then (by omega) (by omega),e_Cthen (by omega) (by omega)⟩
end
section
attribute [local simp] Qh QF Qs QT QE
abbrev Ar (c:Cat) (f x y:Int):Prop:=(0≤f∧f<(c.fr.length:Int))∧ix c.fr f=x∧ix c.to f=y
end
attribute [local simp] unk unA unE unT unC flat eL eI Qf Q28 Cat.cells
noncomputable def Q2t (c_:Cat) (f_:Int):Option Bool :=
 (
  if f_ ≥ 0 then
   some (decide (f_<(c_.fr.length:Int)))
  else
   some false:Option (Bool)).bind fun b1 =>
 some b1
theorem Q8p (c_:Cat) (f_:Int) (r:Bool) (h:Q2t c_ f_=some r):Contract Try.prog 99 [.agg (c_.cells true),iV f_] (.val (.bool r)):=by
 refine Qd (rvs:=[.tmp 4]) (rs:=[.val (.bool r)]) Try.func99 rfl rfl rfl rfl (by simp [Try.f99]) fun F hN hP=>?_;unfold Q2t at h;refine Q1 (runQ hN fun K hK=>?_);simp;repeat refine sdQ ?_
 refine hK _ (tn (Q4 (st':=⟨[(1,iV f_),(2,.adr 0 0 0)],YP c_ [],1⟩) (wkQ7 [(0,0)]) (Q1 ?_)));clear hK K;replace ⟨e1,h,h1⟩:=bind_some h;refine Qk (fun b1:Bool=>⟨[(4,.val (.bool b1))],[],0⟩) (fun b1=>b1=e1) ?_ ?_
 ·refine runQ hN fun K hK=>?_;simp;repeat with_reducible refine sdQ ?_
  refine QB (fun g=>?_) (fun g=>?_)
  ·have g2:f_ ≥ 0:=gQ;clear g;replace h:=if_l g2 h;simp;(repeat refine sdQ ?_);refine hK _ ?_;exact jn (b:=decide (f_<(c_.fr.length:Int))) (zC h) (wkQ7 [])
  have g2:¬ (f_ ≥ 0):=gQ;clear g;replace h:=if_r g2 h;simp;repeat refine sdQ ?_
  refine hK _ ?_;exact jn (b:=false) (zC h) (wkQ7 [])
 intro b1 hb1;have h:=h1;try rw [← hb1] at h
 clear h1;try dsimp only at h
 refine Ql ?_;have hr:=zC h;rw [← hr];refine ⟨_,(.tmp .nil),?_⟩;refine ⟨(.one rfl rfl .nil),[.val (.bool b1)],[],by simp [Cat.cells,UA,U1,IA,I1,LA,L1,BA,B1,EA,E1,E2,eB,eI,eL],by simp,(UpL.refl _)⟩
section
attribute [local simp] Qh QF Qs QT QE
def MpP (f:List Int) (m n:Int):Prop:=(f.length:Int)=m∧∀ j:Nat,j<f.length→0≤ix f j∧ix f j<n
theorem Cat.Is.nums {c:Cat} (h:c.Is):0≤c.n∧c.n≤8∧c.fr.length≤40∧c.to.length=c.fr.length∧c.cs.length=c.fr.length∧(c.id.length:Int)=c.n:=⟨h.1.n0,h.1.n8,h.1.m40,h.1.lt,h.1.lc,h.1.li⟩
theorem Cat.Is.ends {c:Cat} (h:c.Is) {a:Int} (ha:0≤a∧a<(c.fr.length:Int)):(0≤ix c.fr a∧ix c.fr a<c.n)∧(0≤ix c.to a∧ix c.to a<c.n):=by
 have:=h.1.fr' ha.1 ha.2;have:=h.1.to' ha.1 ha.2;have:=h.1.li;omega
theorem MpP.len {f:List Int} {m n:Int} (hf:MpP f m n) (hm:m≤64):f.length≤64:=by have:=hf.1;omega
end
section
attribute [local simp] Qh QF Qs QT QE
theorem tabg {α ε β:Type} {body:List α × Int→Option (Ctl (List α × Int) ε)} {K:ε→Option β} {r:Option β} (n:Nat) (v:Nat→α) {e:ε} (hn:n<1000000)
  (h:∀ i:Nat,i<n→body (tab i v,(i:Int))=(ass ((tab i v++[v i]).length≤1073741824) <| ass (B64 ((i:Int)+1)) <| some (.next (tab i v++[v i],(i:Int)+1))))
  (he:body (tab n v,(n:Int))=some (.ret e)) (hk:K e=r):(QA body fuel ([],0)).bind K=r:=by
 refine QN n (fun i=>tab i v) (e:=e) rfl (by omega) (fun i hi=>?_) he hk;rw [h i hi,Q2 (by simp;omega),Q2 (by unfold B64;omega),Q1U]
end
section
attribute [local simp] Qh QF Qs QT QE
theorem fst_eq {n m:Nat} {p:Nat→Prop} (hm:m<n) (hp:p m) (hl:∀ k,k<m→¬ p k):fstN n p=(m:Int):=by
 rcases Q4z n p with ⟨_,h⟩|⟨k,hk,pk,e⟩
 ·exact absurd hp (h m hm)
 unfold fstN;rw [List.find?_range_eq_some.2 ⟨QX hp,by simpa using hm,fun j hj=>by simp [QH (hl j hj)]⟩];rfl
theorem fst_no {n:Nat} {p:Nat→Prop} (h:∀ i,i<n→¬ p i):fstN n p = -1:=by
 rcases Q4z n p with ⟨e,_⟩|⟨k,hk,pk,e⟩
 ·exact e
 exact absurd pk (h k hk)
theorem fstI {ε β:Type} {body:Int→Option (Ctl Int ε)} {K:ε→Option β} {r:Option β} (n:Nat) (p:Nat→Prop) (eb:Int→ε) (eg:ε) (hn:n<4611686018427387904)
  (h:∀ i:Nat,i<n→body (i:Int)=if bo (p i)=true then some (.ret (eb i)) else some (.next ((i:Int)+1))) (h3:body (n:Int)=some (.ret eg)) (hk:K (if 0≤fstN n p then eb (fstN n p) else eg)=r):(QA body fuel 0).bind K=r:=by
 rcases Q7f n (fun i=>¬ p i) (eb:=fun i=>eb i) (eg:=eg) hn (fun i hi q=>by rw [h i hi,QH q];simp) (fun i hi q=>by rw [h i hi,QX (zG q)];simp) h3 with ⟨q,e⟩|⟨m,hm,hq,hlt,e⟩
 ·rw [e,zF,← hk,fst_no q];simp
 rw [e,zF,← hk,fst_eq hm (zG hq) hlt];simp
end
section
attribute [local simp] Qh QF Qs QT QE
theorem inv_iff {c:Cat} {a:Int}:0≤inv c a↔∃ g:Nat,g<c.fr.length∧Inv c a g:=by
 unfold inv;rcases Q4z c.fr.length (Inv c a) with ⟨e,h⟩|⟨k,hk,pk,e⟩
 ·rw [e];exact ⟨fun q=>by omega,fun ⟨g,hg,q⟩=>absurd q (h g hg)⟩
 rw [e];exact ⟨fun _=>⟨k,hk,pk⟩,fun _=>by omega⟩
def Io (c:Cat) (x y:Nat):Prop:=∃ a:Int,Ar c a x y∧0≤inv c a
theorem Io.symm {c:Cat} (hc:c.Is) {x y:Nat} (h:Io c x y):Io c y x:=by
 obtain ⟨a,ha,hi⟩:=h;obtain ⟨g,hg,⟨q1,q2⟩,q3,q4⟩:=inv_iff.1 hi;have n:=ha.1;refine ⟨(g:Int),⟨by omega,by rw [q1,ha.2.2],by rw [q2,ha.2.1]⟩,inv_iff.2 ⟨a.toNat,by omega,?_⟩⟩;unfold Inv;rw [Int.toNat_of_nonneg n.1,q1,q2];exact ⟨⟨rfl,rfl⟩,q4,q3⟩
structure UF (j:List Int) (r:Nat→Nat) (n:Nat):Prop where
 len:j.length=n
 b:∀ x:Nat,x<n→0≤ix j x∧ix j x≤x
 le:∀ x,x<n→r x≤x
 fix:∀ x,x<n→ix j (r x:Nat)=(r x:Int)
 st:∀ x:Nat,x<n→r (ix j x).toNat=r x
 tip:∀ x:Nat,x<n→ix j x=x→r x=x
theorem Q2C {p:List Int} {f:Int} {i:Nat} (h:i<p.length):ix (p.set i f) i=f:=by simp [ix,qB,h]
theorem Q2D {p:List Int} {f:Int} {i j:Nat} (h:i ≠ j):ix (p.set i f) j=ix p j:=by simp [ix,qB,List.getElem?_set,h]
theorem UF.half {j:List Int} {r:Nat→Nat} {n x:Nat} (h:UF j r n) (hx:x<n):UF (j.set x (ix j (ix j x))) r n:=by
 have b1:=h.b x hx;obtain ⟨y,hy⟩:=Int.eq_ofNat_of_zero_le b1.1;rw [hy] at b1 ⊢;have b2:=h.b y (by omega);have s1:=h.st x hx;rw [hy] at s1;have s2:=h.st y (by omega);simp only [zJ] at s1;refine ⟨by simp [h.len],fun z hz=>?_,h.le,fun z hz=>?_,fun z hz=>?_,fun z hz e=>?_⟩
 ·by_cases q:x=z
  ·subst q;rw [Q2C (by rw [h.len];exact hx)];omega
  rw [Q2D q];exact h.b z hz
 ·by_cases q:x=r z
  ·rw [← q,Q2C (by rw [h.len];exact hx)];have f:=h.fix z hz;rw [← q,hy] at f;have:y=x:=(by omega);subst this;exact hy
  rw [Q2D q];exact h.fix z hz
 ·by_cases q:x=z
  ·subst q;rw [Q2C (by rw [h.len];exact hx),s2,s1]
  rw [Q2D q];exact h.st z hz
 by_cases q:x=z
 ·subst q;rw [Q2C (by rw [h.len];exact hx)] at e;exact h.tip x hx (by omega)
 rw [Q2D q] at e;exact h.tip z hz e
theorem Q8T {r:Nat→Nat} {n:Nat}:∀ (x:Nat) (j:List Int) (F:Nat),UF j r n→x<n→x<F→∃ j',QA (σ:=List Int × Int) (ε:=List Int × Int) (fun s64 =>
        ass (0≤s64.2∧s64.2<(s64.1.length:Int)) <|
        if ¬ ((ix s64.1 s64.2)=s64.2) then
         ass (0≤s64.2∧s64.2<(s64.1.length:Int)) <|
         ass (0≤ix s64.1 s64.2∧ix s64.1 s64.2<(s64.1.length:Int)) <|
         ass (0≤s64.2∧s64.2<(s64.1.length:Int)) <|
         ass (0≤s64.2∧s64.2<((s64.1.set s64.2.toNat (ix s64.1 (ix s64.1 s64.2))).length:Int)) <|
         some (Ctl.next (s64.1.set s64.2.toNat (ix s64.1 (ix s64.1 s64.2)),ix (s64.1.set s64.2.toNat (ix s64.1 (ix s64.1 s64.2))) s64.2))
        else
         some (Ctl.ret (s64.1,s64.2))) F (j,(x:Int))=some (j',(r x:Int))∧UF j' r n:=by
 intro x
 induction x using Nat.strongRecOn with
 | _ x ih =>
  intro j F h hx hF;obtain ⟨F,rfl⟩:∃ F',F=F' + 1:=⟨F - 1,by omega⟩;have b1:=h.b x hx;have hl:=h.len;simp only [QA];rw [Q2 (by omega)]
  by_cases q:ix j x=x
  ·rw [if_neg (by simp [q])];exact ⟨j,by rw [h.tip x hx q],h⟩
  rw [if_pos q,Q2 (by omega),Q2 (by omega),Q2 (by omega),Q2 (by simp;omega)];obtain ⟨y,hy⟩:=Int.eq_ofNat_of_zero_le b1.1;have b2:=h.b y (by omega);obtain ⟨z,hz⟩:=Int.eq_ofNat_of_zero_le b2.1;have s1:=h.st x hx;rw [hy] at s1;simp only [zJ] at s1;have s2:=h.st y (by omega);rw [hz] at s2;simp only [zJ] at s2;have hh:=h.half hx;simp only [zJ];rw [Q2C (by omega),hy,hz];rw [hy,hz] at hh;rw [show r x=r z by rw [s2,s1]];exact ih z (by omega) _ F hh (by omega) (by omega)
theorem UF.join {j:List Int} {r:Nat→Nat} {n a b:Nat} (h:UF j r n) (ha:a<n) (hb:b<n) (ra:r a=a) (rb:r b=b) (hab:a≤b):UF (j.set b a) (fun z=>if r z=b then a else r z) n:=by
 have fa:=h.fix a ha;have fb:=h.fix b hb;rw [ra] at fa;rw [rb] at fb;refine ⟨by simp [h.len],fun z hz=>?_,fun z hz=>?_,fun z hz=>?_,fun z hz=>?_,fun z hz e=>?_⟩
 ·by_cases q:b=z
  ·subst q;rw [Q2C (by rw [h.len];exact hb)];omega
  rw [Q2D q];exact h.b z hz
 ·have:=h.le z hz;split<;>omega
 ·split
  ·by_cases q:b=a
   ·subst q;rw [Q2C (by rw [h.len];exact hb)]
   rw [Q2D q];exact fa
  rename_i q;rw [Q2D (fun e=>q e.symm)];exact h.fix z hz
 ·by_cases q:b=z
  ·subst q;rw [Q2C (by rw [h.len];exact hb),zJ,ra,rb,if_pos rfl];split<;>rfl
  rw [Q2D q,h.st z hz]
 by_cases q:b=z
 ·subst q;rw [Q2C (by rw [h.len];exact hb)] at e;rw [rb,if_pos rfl];omega
 rw [Q2D q] at e;rw [h.tip z hz e,if_neg (fun x=>q x.symm)]
end
section
attribute [local simp] Qh QF Qs QT QE
theorem Q87 {α:Type} (xs:List α) (k:Nat) (v z:α) {i:Nat} (h:i=xs.length):(xs++qW (k+1) z).set i v=(xs++[v])++qW k z:=by
 subst h;simp [List.replicate_succ]
theorem nrun_bind {σ ε β:Type} {body:σ→Option (Ctl σ ε)} {K:ε→Option β} {r:Option β} {s0:σ} (n:Nat) (g:Nat→σ) {e:ε} (h0:s0=g 0) (hn:n<4611686018427387904) (h:∀ i:Nat,i<n→body (g i)=some (.next (g (i+1)))) (he:body (g n)=some (.ret e)) (hk:K e=r):(QA body fuel s0).bind K=r:=by
 rw [Q3s g n h0 hn h he];exact hk
theorem nloop_rel {σ ε:Type} {body:σ→Option (Ctl σ ε)} {I:Nat→σ→Prop} {J:ε→Prop} {n:Nat} (hs:∀ i s,i<n→I i s→(∃ s',body s=some (.next s')∧I (i+1) s')∨∃ e,body s=some (.ret e)∧J e) (he:∀ s,I n s→∃ e,body s=some (.ret e)∧J e) :
  ∀ (r i:Nat) (s:σ) (F:Nat),i+r=n→r<F→I i s→∃ e,QA body F s=some e∧J e:=by
 intro r
 induction r with
 | zero =>
  intro i s F hi hF hI;obtain ⟨e,h1,h2⟩:=he s (by rw [show n=i by omega];exact hI);obtain ⟨F',rfl⟩:∃ F',F=F' + 1:=⟨F - 1,by omega⟩;simp only [QA,h1];exact ⟨e,rfl,h2⟩
 | succ r ih =>
  intro i s F hi hF hI;obtain ⟨F',rfl⟩:∃ F',F=F' + 1:=⟨F - 1,by omega⟩;rcases hs i s (by omega) hI with ⟨s',h1,h2⟩|⟨e,h1,h2⟩
  ·simp only [QA,h1];exact ih (i+1) s' F' (by omega) (by omega) h2
  simp only [QA,h1];exact ⟨e,rfl,h2⟩
theorem Q1p {σ ε β:Type} {body:σ→Option (Ctl σ ε)} {K:ε→Option β} {s0:σ} {Q:Option β→Prop} (n:Nat) (I:Nat→σ→Prop) (J:ε→Prop) (hn:n<4611686018427387904) (h0:I 0 s0) (hs:∀ i s,i<n→I i s→(∃ s',body s=some (.next s')∧I (i+1) s')∨∃ e,body s=some (.ret e)∧J e)
  (he:∀ s,I n s→∃ e,body s=some (.ret e)∧J e) (hk:∀ e,J e→Q (K e)):Q ((QA body fuel s0).bind K):=by
 obtain ⟨e,h1,h2⟩:=nloop_rel hs he n 0 s0 fuel (by omega) (by unfold fuel;omega) h0;rw [h1];exact hk e h2
end
attribute [local simp] unk unA unE unT unC flat eL eI Qf
noncomputable def Q3e (labels_:List Int):Option (List Int) :=
 ass (0≤(labels_.length:Int)∧(labels_.length:Int)≤1073741824) <|
 (QA (σ:=(List (Int × Int)) × List Int × Int) (ε:=List Int) (fun s10 =>
  if s10.2.2<(labels_.length:Int) then
   ass (0≤s10.2.2∧s10.2.2<(labels_.length:Int)) <|
   (
    if ¬ (((QV (ix labels_ s10.2.2) s10.1).isSome)=true) then
     ass (s10.1.length<1099511627776) <|
     some (tset (ix labels_ s10.2.2) (s10.1.length:Int) s10.1,(s10.1.length:Int))
    else
     some (s10.1,(QV (ix labels_ s10.2.2) s10.1).getD 0):Option ((List (Int × Int)) × Int)).bind fun b13 =>
   ass (0≤s10.2.2∧s10.2.2<(s10.2.1.length:Int)) <|
   ass (B64 (s10.2.2+1)) <|
   some (Ctl.next (b13.1,s10.2.1.set s10.2.2.toNat b13.2,s10.2.2+1))
  else
   some (Ctl.ret s10.2.1)) fuel ([],qW ((labels_.length:Int).toNat) 0,0)).bind fun b2 =>
 some b2
theorem QaV (labels_:List Int) (r:List Int) (h:Q3e labels_=some r):Contract Try.prog 79 [lI labels_] (lI r):=by
 refine Qd (rvs:=[.tmp 2]) (rs:=[lI r]) Try.func79 rfl rfl rfl rfl (by simp [Try.f79]) fun F hN hP=>?_;unfold Q3e at h;refine Q1 (runQ hN fun K hK=>?_);simp;repeat refine sdQ ?_
 refine hK _ ?_;clear hK K;refine tn (Q4 (st':=⟨[(0,lI labels_)],[],0⟩) (wkQ7 []) (Q1 (Qn [] mo (by rw [hN];decide) fun K hK=>?_)));simp;repeat refine sdQ ?_
 refine hK _ ?_;clear hK K;refine tn (Q4 (st':=⟨[(0,lI labels_),(3,.mp 0)],[(0,.mapE (.int .i64) (Mii []))],1⟩) (wkQ7 [(0,0)]) (Q1 (runQ hN fun K hK=>?_)));replace ⟨a1,h⟩:=Q0 h;simp;repeat refine sdQ ?_
 refine hK _ ?_;clear hK K;refine tn (Q4 (st':=⟨[(0,lI labels_),(3,.mp 0),(4,.own 1 0 ((qW ((labels_.length:Int).toNat) 0).length))],[(0,.mapE (.int .i64) (Mii [])),(1,rI (qW ((labels_.length:Int).toNat) 0))],2⟩) (wkQ7 [(0,0),(1,1)]) (Q1 (Q1 (runQ hN fun K hK=>?_))));simp;repeat refine sdQ ?_
 refine hK _ (tn (Q4 (st':=⟨[(3,.mp 0),(4,.own 1 0 ((qW ((labels_.length:Int).toNat) 0).length)),(13,lI labels_),(14,iV (labels_.length:Int)),(15,iV 0)],[(0,.mapE (.int .i64) (Mii [])),(1,rI (qW ((labels_.length:Int).toNat) 0))],2⟩) (wkQ7 [(0,0),(1,1)]) ?_));clear hK K;replace ⟨e2,h,h2⟩:=bind_some h;refine Qk (fun b2:List Int=>⟨[(4,.own 0 0 b2.length)],[(0,rI b2)],1⟩) (fun b2=>b2=e2) ?_ ?_
 ·refine Q7 (Qu h (fun s10:(List (Int × Int)) × List Int × Int=>⟨[(3,.mp 0),(4,.own 1 0 s10.2.1.length),(13,lI labels_),(14,iV (labels_.length:Int)),(15,iV s10.2.2)],[(0,.mapE (.int .i64) (Mii s10.1)),(1,rI s10.2.1)],2⟩) (wkQ7 [(0,0),(1,1)]) ?_);clear h;intro k10 s10 c10 h hk10;refine Q1 (runQ hN fun K hK=>?_);simp;repeat refine sdQ ?_
  refine hK _ ?_;clear hK K;refine tn (Q1 (Qa rfl (fun g=>?_) fun g=>?_))
  ·have g11:s10.2.2<(labels_.length:Int):=gQ;clear g;replace h:=if_l g11 h;refine Qc (tn (Q1 (Q7 (Q1 (runQ hN fun K hK=>?_)))));replace ⟨a12,h⟩:=Q0 h;simp [at_I a12];(repeat refine sdQ ?_);refine hK _ ?_;clear hK K;refine tn (Q4 (st':=⟨[(3,.mp 0),(4,.own 1 0 s10.2.1.length),(5,iV s10.2.2),(6,iV (ix labels_ s10.2.2)),(13,lI labels_),(14,iV (labels_.length:Int)),(15,iV s10.2.2)],[(0,.mapE (.int .i64) (Mii s10.1)),(1,rI s10.2.1)],2⟩) (wkQ7 [(0,0),(1,1)]) (Q1 (Qn [] mo (by rw [hN];decide) fun K hK=>?_)));simp;(repeat refine sdQ ?_);refine hK _ ?_;clear hK K;refine tn (Q4 (st':=⟨[(3,.mp 0),(4,.own 1 0 s10.2.1.length),(5,iV s10.2.2),(6,iV (ix labels_ s10.2.2)),(7,iV ((QV (ix labels_ s10.2.2) s10.1).getD 0)),(8,.val (.bool ((QV (ix labels_ s10.2.2) s10.1).isSome))),(13,lI labels_),(14,iV (labels_.length:Int)),(15,iV s10.2.2)],[(0,.mapE (.int .i64) (Mii s10.1)),(1,rI s10.2.1)],2⟩) (wkQ7 [(0,0),(1,1)]) (Q1 (Q1 (runQ hN fun K hK=>?_))));simp;(repeat refine sdQ ?_);refine hK _ (tn ?_);clear hK K;replace ⟨e13,h,h13⟩:=bind_some h;refine Qk (fun b13:(List (Int × Int)) × Int=>⟨[(3,.mp 0),(4,.own 1 0 s10.2.1.length),(5,iV s10.2.2),(7,iV b13.2),(13,lI labels_),(14,iV (labels_.length:Int)),(15,iV s10.2.2)],[(0,.mapE (.int .i64) (Mii b13.1)),(1,rI s10.2.1)],2⟩) (fun b13=>b13=e13) ?_ ?_
   ·refine Qa rfl (fun g=>?_) fun g=>?_
    ·have g14:¬ (((QV (ix labels_ s10.2.2) s10.1).isSome)=true):=gQ;clear g;replace h:=if_l g14 h;refine Q1 (Qn [29] mo (by rw [hN];decide) fun K hK=>?_);simp;(repeat refine sdQ ?_);refine hK _ ?_;clear hK K;refine tn (Q4 (st':=⟨[(3,.mp 0),(4,.own 1 0 s10.2.1.length),(5,iV s10.2.2),(6,iV (ix labels_ s10.2.2)),(7,iV (s10.1.length:Int)),(13,lI labels_),(14,iV (labels_.length:Int)),(15,iV s10.2.2)],[(0,.mapE (.int .i64) (Mii s10.1)),(1,rI s10.2.1)],2⟩) (wkQ7 [(0,0),(1,1)]) (Qn [] mo (by rw [hN];decide) fun K hK=>?_));replace ⟨a15,h⟩:=Q0 h;simp [a15];(repeat refine sdQ ?_);refine hK _ ?_;clear hK K;exact jn (b:=(tset (ix labels_ s10.2.2) (s10.1.length:Int) s10.1,(s10.1.length:Int))) (zC h) (wkQ7 [(0,0),(1,1)])
    have g14:¬ (¬ (((QV (ix labels_ s10.2.2) s10.1).isSome)=true)):=by first|simpa using g|(simp at g;exact g)|(simp at g;omega)|exact fun q=>q (by simpa using g)
    clear g;replace h:=if_r g14 h;refine Qc ?_;exact jn (b:=(s10.1,(QV (ix labels_ s10.2.2) s10.1).getD 0)) (zC h) (wkQ7 [(0,0),(1,1)])
   intro b13 hb13;have h:=h13;(try rw [← hb13] at h);clear h13;(try dsimp only at h);refine runQ hN fun K hK=>?_;replace ⟨a16,h⟩:=Q0 h;simp [at_I a16];(repeat refine sdQ ?_);refine hK _ ?_;clear hK K;refine bn (tn (Q4 (st':=⟨[(3,.mp 0),(4,.own 1 0 ((s10.2.1.set s10.2.2.toNat b13.2).length)),(13,lI labels_),(14,iV (labels_.length:Int)),(15,iV s10.2.2)],[(0,.mapE (.int .i64) (Mii b13.1)),(1,rI (s10.2.1.set s10.2.2.toNat b13.2))],2⟩) (wkQ7 [(0,0),(1,1)]) (runQ hN fun K hK=>?_)));replace ⟨a17,h⟩:=Q0 h;simp [Qm a17];(repeat refine sdQ ?_);refine hK _ ?_;clear hK K;cases h;exact rn (s':=(b13.1,s10.2.1.set s10.2.2.toNat b13.2,s10.2.2+1)) hk10 (wkQ7 [(0,0),(1,1)])
  have g11:¬ (s10.2.2<(labels_.length:Int)):=gQ;clear g;replace h:=if_r g11 h;refine Qp (tx (lx (bh ?_)));cases h;exact jn (b:=s10.2.1) hk10 (wkQ7 [(1,0)])
 intro b2 hb2;have h:=h2;try rw [← hb2] at h
 clear h2;try dsimp only at h
 refine Q1 (runQ hN fun K hK=>?_);simp;repeat refine sdQ ?_
 refine hK _ (tn (Q4 (st':=⟨[(2,.own 0 0 b2.length)],[(0,rI b2)],1⟩) (wkQ7 [(0,0)]) (Ql ?_)));clear hK K;have hr:=zC h;rw [← hr];refine ⟨_,(.tmp .nil),?_⟩;refine ⟨(.one rfl rfl .nil),[lI b2],[0],by simp [UA,U1,IA,I1,LA,L1,BA,B1,EA,E1,E2,eB,eI,eL],by simp,(UpL.refl _)⟩
attribute [local simp] unk unA unE unT unC flat eL eI Qf
noncomputable def Q1f (list_:List Int) (n_:Int):Option Int :=
 (QA (σ:=Int) (ε:=Unit ⊕ Int) (fun s6 =>
  if s6<(list_.length:Int) then
   ass (0≤s6∧s6<(list_.length:Int)) <|
   if (ix list_ s6)=n_ then
    some (Ctl.ret (Sum.inr s6))
   else
    ass (B64 (s6+1)) <|
    some (Ctl.next (s6+1))
  else
   some (Ctl.ret (Sum.inl ()))) fuel 0).bind fun e1 =>
 match e1 with
 | .inl b1 =>
  some (-1)
 | .inr p1 =>
  some p1
theorem Q34 (list_:List Int) (n_:Int) (r:Int) (h:Q1f list_ n_=some r):Contract Try.prog 65 [lI list_,iV n_] (iV r):=by
 refine Qd (rvs:=[.tmp 4]) (rs:=[iV r]) Try.func65 rfl rfl rfl rfl (by simp [Try.f65]) fun F hN hP=>?_;unfold Q1f at h;refine Q1 (runQ hN fun K hK=>?_);simp;repeat refine sdQ ?_
 refine hK _ ?_;clear hK K;refine tn (Q4 (st':=⟨[(0,lI list_),(1,iV n_)],[],0⟩) (wkQ7 []) (Q1 (Q1 (runQ hN fun K hK=>?_))));simp;repeat refine sdQ ?_
 refine hK _ (tn (Q4 (st':=⟨[(0,lI list_),(1,iV n_),(5,iV 0)],[],0⟩) (wkQ7 []) ?_));clear hK K;replace ⟨e1,h,h1⟩:=bind_some h;refine Qk (fun b1:Unit=>⟨[],[],0⟩) (fun b1=>Sum.inl b1=e1) ?_ ?_
 ·refine Q7 (Qu h (fun s6:Int=>⟨[(0,lI list_),(1,iV n_),(5,iV s6)],[],0⟩) (wkQ7 []) ?_);clear h;intro k6 s6 c6 h hk6;refine Q1 (Q1 (runQ hN fun K hK=>?_));simp;repeat refine sdQ ?_
  refine hK _ ?_;clear hK K;refine tn (Qa rfl (fun g=>?_) fun g=>?_)
  ·have g7:s6<(list_.length:Int):=gQ;clear g;replace h:=if_l g7 h;refine Qc (tn (Q1 (Q7 (Q1 (runQ hN fun K hK=>?_)))));replace ⟨a8,h⟩:=Q0 h;simp [at_I a8];(repeat refine sdQ ?_);refine hK _ ?_;clear hK K;refine tn (Qa rfl (fun g=>?_) fun g=>?_)
   ·have g9:(ix list_ s6)=n_:=gQ;clear g;replace h:=if_l g9 h;refine Q1 (runQ hN fun K hK=>?_);simp;(repeat refine sdQ ?_);refine hK _ (tn (Q4 (st':=⟨[(4,iV s6)],[],0⟩) (wkQ7 []) (Ql (br (tr (lr (br (tr ?_))))))));clear hK K;cases h;have q:_=e1:=hk6;have h:=h1;rw [← q] at h;clear q;(try dsimp only at h);have hr:=zC h;rw [← hr];refine ⟨_,(.tmp .nil),?_⟩;refine ⟨(.one rfl rfl .nil),[iV s6],[],by simp [UA,U1,IA,I1,LA,L1,BA,B1,EA,E1,E2,eB,eI,eL],by simp,(UpL.refl _)⟩
   have g9:¬ ((ix list_ s6)=n_):=gQ;clear g;replace h:=if_r g9 h;refine Qc (bn (tn (runQ hN fun K hK=>?_)));replace ⟨a10,h⟩:=Q0 h;simp [Qm a10];(repeat refine sdQ ?_);refine hK _ ?_;clear hK K;cases h;exact rn (s':=s6+1) hk6 (wkQ7 [])
  have g7:¬ (s6<(list_.length:Int)):=gQ;clear g;replace h:=if_r g7 h;refine Qp (tx (lx (bh ?_)));cases h;exact jn (b:=()) hk6 (wkQ7 [])
 intro b1 hb1;have h:=h1;try rw [← hb1] at h
 clear h1;try dsimp only at h
 refine Q1 (runQ hN fun K hK=>?_);simp;repeat refine sdQ ?_
 refine hK _ (tn (Q4 (st':=⟨[(4,iV (-1))],[],0⟩) (wkQ7 []) (Ql ?_)));clear hK K;have hr:=zC h;rw [← hr];refine ⟨_,(.tmp .nil),?_⟩;refine ⟨(.one rfl rfl .nil),[iV (-1)],[],by simp [UA,U1,IA,I1,LA,L1,BA,B1,EA,E1,E2,eB,eI,eL],by simp,(UpL.refl _)⟩
attribute [local simp] unk unA unE unT unC flat eL eI Qf
noncomputable def Q1R (labels_:List Int):Option (List Int) :=
 (QA (σ:=List Int × List Int × Int) (ε:=List Int) (fun s11 =>
  if s11.2.2<(labels_.length:Int) then
   ass (0≤s11.2.2∧s11.2.2<(labels_.length:Int)) <|
   (Q1f s11.2.1 (ix labels_ s11.2.2)).bind fun v14 =>
   (
    if v14<0 then
     ass (0≤s11.2.2∧s11.2.2<(labels_.length:Int)) <|
     ass ((s11.2.1++[ix labels_ s11.2.2]).length≤1073741824) <|
     some (s11.2.1++[ix labels_ s11.2.2],(s11.2.1.length:Int))
    else
     some (s11.2.1,v14):Option (List Int × Int)).bind fun b15 =>
   ass ((s11.1++[b15.2]).length≤1073741824) <|
   ass (B64 (s11.2.2+1)) <|
   some (Ctl.next (s11.1++[b15.2],b15.1,s11.2.2+1))
  else
   some (Ctl.ret s11.1)) fuel ([],[],0)).bind fun b1 =>
 some b1
theorem Q6x (labels_:List Int) (r:List Int) (h:Q1R labels_=some r):Contract Try.prog 103 [lI labels_] (lI r):=by
 refine Qd (rvs:=[.tmp 2]) (rs:=[lI r]) Try.func103 rfl rfl rfl rfl (by simp [Try.f103]) fun F hN hP=>?_;unfold Q1R at h;refine Q1 (runQ hN fun K hK=>?_);simp;repeat refine sdQ ?_
 refine hK _ ?_;clear hK K;refine tn (Q4 (st':=⟨[(0,lI labels_)],[],0⟩) (wkQ7 []) (Q1 (runQ hN fun K hK=>?_)));simp;repeat refine sdQ ?_
 refine hK _ ?_;clear hK K;refine tn (Q4 (st':=⟨[(0,lI labels_),(3,.own 0 0 0),(4,.own 1 0 0)],[(0,.mix 1 []),(1,.mix 1 [])],2⟩) (wkQ7 [(0,0),(1,1)]) (Q1 (Q1 (runQ hN fun K hK=>?_))));simp;repeat refine sdQ ?_
 refine hK _ (tn (Q4 (st':=⟨[(0,lI labels_),(3,.own 0 0 0),(4,.own 1 0 0),(5,iV 0)],[(0,.mix 1 []),(1,.mix 1 [])],2⟩) (wkQ7 [(0,0),(1,1)]) ?_));clear hK K;replace ⟨e1,h,h1⟩:=bind_some h;refine Qk (fun b1:List Int=>⟨[(3,.own 0 0 b1.length)],[(0,rI b1)],1⟩) (fun b1=>b1=e1) ?_ ?_
 ·refine Q7 (Qu h (fun s11:List Int × List Int × Int=>⟨[(0,lI labels_),(3,.own 0 0 s11.1.length),(4,.own 1 0 s11.2.1.length),(5,iV s11.2.2)],[(0,rI s11.1),(1,rI s11.2.1)],2⟩) (Q2V ⟨[(0,lI labels_),(3,.own 0 0 0),(4,.own 1 0 0),(5,iV 0)],[(0,rI []),(1,rI [])],2⟩ (Wk.nils [] (by simp) (by simp) (by simp [nlA]) (by simp [entN,nlL,nlA,UA,U1,IA,I1,LA,L1,BA,B1,EA,E1,E2,eB,eI,eL]) (by simp)) (wkQ7 [(0,0),(1,1)])) ?_);clear h;intro k11 s11 c11 h hk11;refine Q1 (Q1 (runQ hN fun K hK=>?_));simp;repeat refine sdQ ?_
  refine hK _ ?_;clear hK K;refine tn (Qa rfl (fun g=>?_) fun g=>?_)
  ·have g12:s11.2.2<(labels_.length:Int):=gQ;clear g;replace h:=if_l g12 h;refine Qc (tn (Q1 (Q7 (Q1 (runQ hN fun K hK=>?_)))));replace ⟨a13,h⟩:=Q0 h;simp [at_I a13];(repeat with_reducible refine sdQ ?_);replace ⟨v14,hv14,h⟩:=bind_some h;refine Q3 (Q34 _ _ v14 hv14) (.cons .w (.cons .val .nil)) ?_;simp [at_I a13];(repeat refine sdQ ?_);refine hK _ ?_;clear hK K;refine tn (Q4 (st':=⟨[(0,lI labels_),(3,.own 0 0 s11.1.length),(4,.own 1 0 s11.2.1.length),(5,iV s11.2.2),(6,iV v14)],[(0,rI s11.1),(1,rI s11.2.1)],2⟩) (wkQ7 [(0,0),(1,1)]) (Q1 (Q1 (runQ hN fun K hK=>?_))));simp;(repeat refine sdQ ?_);refine hK _ (tn ?_);clear hK K;replace ⟨e15,h,h15⟩:=bind_some h;refine Qk (fun b15:List Int × Int=>⟨[(0,lI labels_),(3,.own 0 0 s11.1.length),(4,.own 1 0 b15.1.length),(5,iV s11.2.2),(6,iV b15.2)],[(0,rI s11.1),(1,rI b15.1)],2⟩) (fun b15=>b15=e15) ?_ ?_
   ·refine Qa rfl (fun g=>?_) fun g=>?_
    ·have g16:v14<0:=gQ;clear g;replace h:=if_l g16 h;refine Q1 (runQ hN fun K hK=>?_);simp;(repeat refine sdQ ?_);refine hK _ ?_;clear hK K;refine tn (Q4 (st':=⟨[(0,lI labels_),(3,.own 0 0 s11.1.length),(4,.own 1 0 s11.2.1.length),(5,iV s11.2.2),(6,iV (s11.2.1.length:Int))],[(0,rI s11.1),(1,rI s11.2.1)],2⟩) (wkQ7 [(0,0),(1,1)]) (runQ hN fun K hK=>?_));replace ⟨a17,h⟩:=Q0 h;replace ⟨a18,h⟩:=Q0 h;(try simp only [qE,qG,List.length_nil] at a18);simp [at_I a17,a18];(repeat refine sdQ ?_);refine hK _ ?_;clear hK K;exact jn (b:=(s11.2.1++[ix labels_ s11.2.2],(s11.2.1.length:Int))) (zC h) (wkQ7 [(0,0),(3,1)])
    have g16:¬ (v14<0):=gQ;clear g;replace h:=if_r g16 h;refine Qc ?_;exact jn (b:=(s11.2.1,v14)) (zC h) (wkQ7 [(0,0),(1,1)])
   intro b15 hb15;have h:=h15;(try rw [← hb15] at h);clear h15;(try dsimp only at h);refine runQ hN fun K hK=>?_;replace ⟨a19,h⟩:=Q0 h;(try simp only [qE,qG,List.length_nil] at a19);simp [a19];(repeat refine sdQ ?_);refine hK _ ?_;clear hK K;refine bn (tn (Q4 (st':=⟨[(0,lI labels_),(3,.own 0 0 ((s11.1++[b15.2]).length)),(4,.own 1 0 b15.1.length),(5,iV s11.2.2)],[(0,rI (s11.1++[b15.2])),(1,rI b15.1)],2⟩) (wkQ7 [(3,0),(1,1)]) (runQ hN fun K hK=>?_)));replace ⟨a20,h⟩:=Q0 h;simp [Qm a20];(repeat refine sdQ ?_);refine hK _ ?_;clear hK K;cases h;exact rn (s':=(s11.1++[b15.2],b15.1,s11.2.2+1)) hk11 (wkQ7 [(0,0),(1,1)])
  have g12:¬ (s11.2.2<(labels_.length:Int)):=gQ;clear g;replace h:=if_r g12 h;refine Qp (tx (lx (bh ?_)));cases h;exact jn (b:=s11.1) hk11 (wkQ7 [(0,0)])
 intro b1 hb1;have h:=h1;try rw [← hb1] at h
 clear h1;try dsimp only at h
 refine Q1 (runQ hN fun K hK=>?_);simp;repeat refine sdQ ?_
 refine hK _ (tn (Q4 (st':=⟨[(2,.own 0 0 b1.length)],[(0,rI b1)],1⟩) (wkQ7 [(0,0)]) (Ql ?_)));clear hK K;have hr:=zC h;rw [← hr];refine ⟨_,(.tmp .nil),?_⟩;refine ⟨(.one rfl rfl .nil),[lI b1],[0],by simp [UA,U1,IA,I1,LA,L1,BA,B1,EA,E1,E2,eB,eI,eL],by simp,(UpL.refl _)⟩
end Go.Vc.T
