/- A part of the proof. -/
import Derived.Test.YtghefemofbipnaaGreatX15
import Derived.Test.YtghefemofbipnaaGreatProg
set_option maxRecDepth 100000
set_option maxHeartbeats 4000000
set_option linter.unusedSimpArgs false
set_option linter.unusedVariables false
set_option linter.unusedSectionVars false
set_option linter.unnecessarySimpa false

open List renaming getD_eq_getElem?_getD→qG
open Classical renaming byContradiction→zG
open List renaming length_cons→qI
open List renaming take_succ_eq_append_getElem→zH
open List renaming getElem?_eq_getElem→qJ
open List renaming length_nil→zD
open List renaming take_of_length_le→zI
open List renaming getElem_mem→zJ
open Int renaming toNat_of_nonneg→zK
namespace Go.Vc.T
open Go Go.Vc Go.Proofs
section
attribute [local simp] Qd Qt Ql
@[simp] theorem e22:elm Tryz.prog 22=some 2:=by kernel_rfl
@[simp] theorem y2:tyi Tryz.prog 2=some ⟨false,1,8,[.int .i64 0]⟩:=by kernel_rfl
theorem mo:Tryz.prog.follows .mixedOrders=true:=by kernel_rfl
def idQ : Nat → List (Nat × Nat)
  | 0 => []
  | n + 1 => idQ n ++ [(n, n)]
abbrev nS : AV := .val (.slice none 0 0)
abbrev iV (x : Int) : AV := .val (.int .i64 x)
abbrev lI (x : List Int) : AV := .lst true 1 (Is x)
abbrev rI (x : List Int) : Ent := .row 1 (Is x)
theorem gQ {p : Prop} (k : p := by first | (simp; done) | (simp at g; done) | simpa using g | (simp at g; exact g) | (simp at g; omega)) : p := k
theorem sdQ {a b : Prop} (h : b) (k : a := by first | assumption | omega | (simp; done) | (simp; omega) | simp_all) : a ∧ b := ⟨k, h⟩
theorem srQ [Kd Tryz.prog] {F : Fx} {AQ : Exit → St → Prop} {st : St} {id : Nat} {ops : Array Oper} {d : Bool} {y : Code} {n : Nat} (hN : F.N = n) (h : ∀ K : St → Prop, (∀ st', Wp Tryz.prog F y AQ st' → K st') → QT Tryz.prog false ops ops.toList st K) (hok : (okN n ops && (!d || (Q4a false ops && Q2H ops))) = true := by decide) : Wp Tryz.prog F (.seq (.region id ops d) y) AQ st := w_sr mo (by rw [hN]; exact hok) h
theorem runQ [Kd Tryz.prog] {F : Fx} {AQ : Exit → St → Prop} {st : St} {id : Nat} {ops : Array Oper} {d : Bool} {n : Nat} (hN : F.N = n) (h : ∀ K : St → Prop, (∀ st', AQ .normal st' → K st') → QT Tryz.prog false ops ops.toList st K) (hok : (okN n ops && (!d || (Q4a false ops && Q2H ops))) = true := by decide) : Wp Tryz.prog F (.region id ops d) AQ st := w_run mo (by rw [hN]; exact hok) h
theorem rbQ {F : Fx} {st st' : St} (hP : F.pins = 0) (m : List (Nat × Nat)) (h1 : (m.map Prod.fst).Nodup := by simp) (h2 : (m.map Prod.snd).Nodup := by simp) (hn : ∀ p ∈ m, p.2 < st'.n := by simp) (hok : ∀ p ∈ st'.h, p.1 < st'.n := by simp) (hs : ∀ p ∈ st'.s, p.2 = rl m (st.get p.1) ∨ p.2 = .bot := by simp) (hh : ∀ p ∈ st'.h, ∃ i e, look i m = some p.1 ∧ look i st.h = some e ∧ rlE m e = some p.2 := by simp) : Wk F st st' := Wk.relabel m h1 h2 (by rw [hP]; simp) hn hok hs hh
theorem whQ {h : HP} {id n u sz es} (hc : cont h depth id = some (sz, es) := by rfl) (hm : Qw (h id) = false := by rfl) (hn : n = es.length := by simp) : PurTo h (.own id 0 n) (.lst u sz es) := .whole hc hm hn
@[simp] theorem q2:eqT Tryz.prog 2=0:=by kernel_rfl
@[simp] theorem q3:eqT Tryz.prog 3=0:=by kernel_rfl
theorem Q9a {xs ys:List Int} {i:Nat} (h1:i<xs.length) (h2:i<ys.length) (h:ys.take i=xs.take i):(ys.set i xs[i]).take (i+1)=xs.take (i+1):=by
 rw [zH h1,zH (by simpa using h2),List.take_set_of_le (Nat.le_refl _),h];simp
theorem Q8u {xs ys:List Int} {i:Nat} (h1:i<xs.length) (h2:i<ys.length) (h:xs.take i=ys.take i) (he:xs[i]=ys[i]):xs.take (i+1)=ys.take (i+1):=by
 rw [zH h1,zH h2,h,he]
theorem c29 [Kd Tryz.prog] (ux uy:Bool) (xs ys:List Int):Contract Tryz.prog 51 [.lst ux 1 (Is xs),.lst uy 1 (Is ys)] (.val (.bool (decide (xs=ys)))):=by
 refine Q4 (rs:=[.val (.bool (decide (xs=ys)))]) Tryz.func51 rfl rfl rfl rfl (by simp [Tryz.f51]) fun F hN hP=>?_;refine Q4j 0 fun h0=>?_;simp at h0;obtain ⟨hl0,hb0⟩:=h0.is;refine srQ hN fun K hK=>?_;simp;refine hK _ ?_;clear hK K;refine Q3 (w_sr mo (by rw [hN];decide) fun K hK=>?_);simp;refine hK _ (Q7 rfl (fun h=>?_) fun h=>?_)<;>clear hK K
 ·simp at h;refine srQ hN fun K hK=>?_;simp;refine hK _ (Qg (Qc rfl ?_));clear hK K;simp
  rintro rfl;exact h rfl
 simp at h;refine Q8 ?_;simp only [Q3S];refine Q3 (w_sr mo (by rw [hN];decide) fun K hK=>?_);simp;refine hK _ (Q6 ?_);clear hK K;refine Qr (fun i:Nat=>⟨[(0,.lst ux 1 (Is xs)),(1,.lst uy 1 (Is ys)),(5,iV i)],[],0⟩) (fun i=>i≤xs.length∧xs.take i=ys.take i) (fun i=>xs.length - i) 0 (by simp) (Wk.cut (by simp) rfl rfl) ?_
 rintro i ⟨hi,hti⟩
 refine Q3 (w_sr mo (by rw [hN];decide) fun K hK=>?_);simp;refine hK _ (Q7 rfl (fun h=>?_) fun h=>?_)<;>clear hK K
 ·simp at h;refine Q8 ?_;simp only [Q3S];refine Q3 (Q6 (w_sr mo (by rw [hN];decide) fun K hK=>?_));have h2:i<ys.length:=by omega
  simp [h,h2];refine hK _ (Q7 rfl (fun h=>?_) fun h=>?_)<;>clear hK K
  ·simp at h;refine srQ hN fun K hK=>?_;simp;refine hK _ (Qg (Qc rfl ?_));clear hK K;simp
   rintro rfl;exact h rfl
  simp at h;refine Q8 ?_;simp;refine runQ hN fun K hK=>?_;simp;refine hK _ ?_;clear hK K;refine ⟨i+1,⟨by omega,Q8u (by omega) h2 hti h⟩,by dsimp only;omega,Wk.cut ?_ rfl rfl⟩;rw [Qh (n:=xs.length) (by omega) hl0];simp
 simp at h;refine Qk ?_;simp;refine srQ hN fun K hK=>?_;simp;refine hK _ (Qg (Qc rfl ?_));clear hK K;rw [zI (by omega),zI (by omega)] at hti;simp [hti]
theorem c19 [Kd Tryz.prog] (u:Bool) (xs:List Int) (hx:xs.length≤1048576):Contract Tryz.prog 45 [.lst u 1 (Is xs)] (lI xs):=by
 refine Q4 (rs:=[lI xs]) Tryz.func45 rfl rfl rfl rfl (by simp [Tryz.f45]) fun F hN hP=>?_;refine srQ hN fun K hK=>?_;simp;refine hK _ ?_;clear hK K;refine srQ hN fun K hK=>?_;simp;refine ⟨?_,hK _ ?_⟩<;>clear hK K
 ·omega
 refine Q3 (w_sr mo (by rw [hN];decide) fun K hK=>?_);simp;refine hK _ (Q6 ?_);clear hK K;refine Qr (fun p:Nat × List Int=>⟨[(0,.lst u 1 (Is xs)),(3,.own 0 0 xs.length),(4,iV p.1)],[(0,rI p.2)],1⟩) (fun p=>p.1≤xs.length∧p.2.length=xs.length∧p.2.take p.1=xs.take p.1) (fun p=>xs.length - p.1) (0,List.replicate xs.length 0) (by simp) (Wk.cut (by simp) (by simp) rfl) ?_
 rintro ⟨i,ys⟩ ⟨hi,hy,ht⟩
 simp at hi hy ht;refine Q3 (w_sr mo (by rw [hN];decide) fun K hK=>?_);simp;refine hK _ (Q7 rfl (fun h=>?_) fun h=>?_)<;>clear hK K
 ·simp at h;refine Q8 ?_;simp only [Q3S];refine Q3 (Q6 (w_run mo (by rw [hN];decide) fun K hK=>?_));have h2:i<ys.length:=by omega
  simp [h,hy];refine hK _ ?_;clear hK K;simp;refine runQ hN fun K hK=>?_;simp;refine hK _ ?_;clear hK K;rw [Qh (n:=xs.length) (by omega) (by omega)];refine ⟨(i+1,ys.set i xs[i]),⟨by dsimp only;omega,by simp [hy],?_⟩,by dsimp only;omega,Wk.cut (by simp) (by simp) rfl⟩;exact Q9a h h2 ht
 simp at h;refine Qk ?_;simp;refine srQ hN fun K hK=>?_;simp;refine hK _ (Qg (Q3J rfl rfl ?_ ?_))<;>clear hK K
 ·simp [hy]
 rw [zI (by omega),zI (by omega)] at ht;rw [ht]
def run (k:Int):Nat→List Int
 | 0=>[]
 | n+1=>k :: run (k+1) n
@[simp] theorem run_length (n:Nat):∀ k,(run k n).length=n:=by
 induction n with
 | zero=>intro k;rfl
 | succ n ih=>intro k;simp [run,ih]
theorem Q8h (n:Nat):∀ (k:Int) (i:Nat) (h:i<n),(run k n)[i]'(by simpa using h)=k+i:=by
 induction n with
 | zero=>intro k i h;omega
 | succ n ih =>
  intro k i h;cases i with
  | zero=>simp [run]
  | succ i=>simp only [run,List.getElem_cons_succ];rw [ih (k+1) i (by omega)];push_cast;omega
theorem m32 [Kd Tryz.prog] (xs:List Int) (k:Int) (h1:xs.length≤1048576) (h2:0≤k) (h3:k≤1152921504606846976) :
  MContract Tryz.prog 53 [.own 0 0 xs.length,iV k] [⟨1,Is xs,Is (run k xs.length)⟩] (iV (k+xs.length)):=by
 refine Q1h (ts:=[4]) (rv:=.int .i64 (k+xs.length)) Tryz.func53 rfl rfl ?_ rfl (by simp [Tryz.f53]) ?_ fun F hN hP=>?_
 ·have:(-9223372036854775808≤k+xs.length)∧k+xs.length≤9223372036854775807:=by omega
  simp [resV,this]
 ·intro j hj;simp at hj;subst hj;simp
 refine srQ hN fun K hK=>?_;simp;refine hK _ ?_;clear hK K;refine Q3 (w_sr mo (by rw [hN];decide) fun K hK=>?_);simp;refine hK _ (Q6 ?_);clear hK K;refine Qr (fun p:Nat × List Int=>⟨[(0,.own 0 0 xs.length),(1,iV (k+p.1)),(5,iV p.1)],[(0,rI p.2)],1⟩) (fun p=>p.1≤xs.length∧p.2.length=xs.length∧p.2.take p.1=(run k xs.length).take p.1) (fun p=>xs.length - p.1) (0,xs) (by simp) (Wk.cut (by simp) (by simp [Q4t]) rfl) ?_
 rintro ⟨i,ys⟩ ⟨hi,hy,ht⟩
 simp at hi hy ht;refine Q3 (w_sr mo (by rw [hN];decide) fun K hK=>?_);simp;refine hK _ (Q7 rfl (fun h=>?_) fun h=>?_)<;>clear hK K
 ·simp at h;refine Q8 ?_;simp only [Q3S];refine Q3 (Q6 (w_sr mo (by rw [hN];decide) fun K hK=>?_));simp [h,hy];refine hK _ ?_;clear hK K;refine runQ hN fun K hK=>?_;simp;refine hK _ ?_;clear hK K;simp;refine runQ hN fun K hK=>?_;simp;refine hK _ ?_;clear hK K;rw [Qh (n:=xs.length) (by omega) (by omega),QF ⟨by omega,by omega⟩];refine ⟨(i+1,ys.set i (k+i)),⟨by dsimp only;omega,by simp [hy],?_⟩,by dsimp only;omega,Wk.cut (by simp [Int.add_assoc]) (by simp) rfl⟩;have hr:=Q8h xs.length k i h;have:=Q9a (xs:=run k xs.length) (ys:=ys) (i:=i) (by simpa using h) (by omega) ht;rw [hr] at this;exact this
 simp at h;refine Qk ?_;simp;refine srQ hN fun K hK=>?_;simp;refine hK _ (Qg ?_);clear hK K;have hi':i=xs.length:=by omega
 subst hi';rw [zI (by omega),zI (by simp)] at ht;subst ht;refine ⟨?_,?_⟩
 ·simp [Q9I]
 intro j hj;simp at hj;subst hj;simp
def Ls (xss:List (List Int)):List (List AV):=xss.map fun xs=>[lI xs]
@[simp] theorem Ls_length (xss:List (List Int)):(Ls xss).length=xss.length:=by simp [Ls]
theorem QS (xss:List (List Int)) (i:Nat) (h:i<xss.length):(Ls xss)[i]? = some [lI xss[i]]:=by simp [Ls,h]
attribute [local simp] QS
theorem Qv (xss:List (List Int)) (i:Nat) (h:i<(Ls xss).length):(Ls xss)[i]=[lI (xss[i]'(by simpa using h))]:=by simp [Ls]
attribute [local simp] Qv
@[simp] theorem Ls_set (xss:List (List Int)) (i:Nat) (x:List Int):(Ls xss).set i [lI x]=Ls (xss.set i x):=by simp [Ls,List.map_set]
@[simp] theorem e23:elm Tryz.prog 23=some 22:=by kernel_rfl
@[simp] theorem y22:tyi Tryz.prog 22=some ⟨false,1,24,[.slice none 0 0]⟩:=by kernel_rfl
def sumL (xss:List (List Int)):Nat:=(xss.map List.length).sum
def runs (k:Int):List (List Int)→List (List Int)
 | []=>[]
 | xs :: r=>run k xs.length :: runs (k+xs.length) r
@[simp] theorem runs_length (xss:List (List Int)):∀ k,(runs k xss).length=xss.length:=by
 induction xss with
 | nil=>intro k;rfl
 | cons xs r ih=>intro k;simp [runs,ih]
theorem Q7E (xss:List (List Int)):∀ (i:Nat) (h:i<xss.length),sumL (xss.take (i+1))=sumL (xss.take i)+xss[i].length:=by
 induction xss with
 | nil=>intro i h;simp at h
 | cons xs r ih =>
  intro i h;cases i with
  | zero=>simp [sumL]
  | succ i =>
   have:=ih i (by simpa using h);simp only [sumL,List.take_succ_cons,List.map_cons,List.sum_cons,List.getElem_cons_succ] at this ⊢;omega
theorem sumL_le (xss:List (List Int)):∀ (i:Nat),sumL (xss.take i)≤sumL xss:=by
 induction xss with
 | nil=>intro i;simp [sumL]
 | cons xs r ih =>
  intro i;cases i with
  | zero=>simp [sumL]
  | succ i =>
   have:=ih i;simp only [sumL,List.take_succ_cons,List.map_cons,List.sum_cons] at this ⊢;omega
theorem Q97 (xss:List (List Int)):∀ (k:Int) (i:Nat) (h:i<xss.length),(runs k xss)[i]'(by simpa using h)=run (k+sumL (xss.take i)) xss[i].length:=by
 induction xss with
 | nil=>intro k i h;simp at h
 | cons xs r ih =>
  intro k i h;cases i with
  | zero=>simp [runs,sumL]
  | succ i =>
   simp only [runs,List.getElem_cons_succ];rw [ih _ i (by simpa using h)];simp only [sumL,List.take_succ_cons,List.map_cons,List.sum_cons]
   push_cast
   rw [Int.add_assoc]
theorem set_takeL {xs ys:List (List Int)} {i:Nat} (h1:i<xs.length) (h2:i<ys.length) (h:ys.take i=xs.take i):(ys.set i xs[i]).take (i+1)=xs.take (i+1):=by
 rw [zH h1,zH (by simpa using h2),List.take_set_of_le (Nat.le_refl _),h];simp
theorem m33 [Kd Tryz.prog] (xss:List (List Int)) (k:Int) (h1:xss.length≤1048576) (h1':∀ xs∈xss,xs.length≤1048576) (h2:0≤k) (h3:k+sumL xss≤1152921504606846976) :
  MContract Tryz.prog 20 [.own 0 0 xss.length,iV k] [⟨1,Ls xss,Ls (runs k xss)⟩] (iV (k+sumL xss)):=by
 refine Q1h (ts:=[4]) (rv:=.int .i64 (k+sumL xss)) Tryz.func20 rfl rfl ?_ rfl (by simp [Tryz.f20]) ?_ fun F hN hP=>?_
 ·have:(-9223372036854775808≤k+sumL xss)∧k+sumL xss≤9223372036854775807:=by omega
  simp [resV,this]
 ·intro j hj;simp at hj;subst hj;simp
 refine srQ hN fun K hK=>?_;simp;refine hK _ ?_;clear hK K;refine Q3 (w_sr mo (by rw [hN];decide) fun K hK=>?_);simp;refine hK _ (Q6 ?_);clear hK K;refine Qr (fun p:Nat × List (List Int)=>⟨[(0,.own 0 0 xss.length),(1,iV (k+sumL (xss.take p.1))),(5,iV p.1)],[(0,.row 1 (Ls p.2))],1⟩) (fun p=>p.1≤xss.length∧p.2.length=xss.length∧p.2.take p.1=(runs k xss).take p.1∧p.2.drop p.1=xss.drop p.1) (fun p=>xss.length - p.1) (0,xss) (by simp) (Wk.cut (by simp [sumL]) (by simp [Q4t]) rfl) ?_
 rintro ⟨i,ys⟩ ⟨hi,hy,ht,hd⟩
 simp at hi hy ht hd;refine Q3 (w_sr mo (by rw [hN];decide) fun K hK=>?_);simp;refine hK _ (Q7 rfl (fun h=>?_) fun h=>?_)<;>clear hK K
 ·simp at h;have hiy:i<ys.length:=by omega
  have he:ys[i]=xss[i]:=by
   have h5:=congrArg (fun l=>l[0]?) hd;simpa [h,hiy] using h5
  refine Q8 ?_;simp only [Q3S];refine Q3 (Q6 (w_runM mo (by rw [hN];decide) fun K hK=>?_));simp [h,hy];have hs1:=Q7E xss i h;have hs2:=sumL_le xss (i+1);refine Q5c (m:=[1]) (m32 xss[i] (k+sumL (xss.take i)) (h1' _ (zJ h)) (by omega) (by omega)) (MCall.cell (i:=i) (r:=0) (k:=0) (szr:=1) (esr:=Ls ys) (dels:=[1]) rfl rfl (by simp [hiy]) (by simp) (by simp [hiy]) (by simp [hiy,he]) (by simp) (by simp [Q5W])) rfl ?_ ?_ ?_
  ·intro q hq
   match q,hq with
   | 0,_ =>
    show MArg [1] (.own 1 0 ys[i].length) (.own 0 0 xss[i].length);rw [he];exact .own (j:=0) (by simp)
   | 1,_=>exact .val
  ·intro j hj;have hj0:j=0:=(by simpa using hj);subst hj0;exact ⟨0,by simp,by simp [Occ]⟩
  simp [hiy];refine hK _ ?_;clear hK K;refine runQ hN fun K hK=>?_;simp;refine hK _ ?_;clear hK K;rw [Qh (n:=xss.length) (by omega) (by omega)];refine ⟨(i+1,ys.set i (run (k+sumL (xss.take i)) xss[i].length)),⟨by dsimp only;omega,by simp [hy],?_,?_⟩,by dsimp only;omega,Wk.relabel [(0,0)] (by simp) (by simp) (by rw [hP];simp) (by simp) (by simp) ?_ ?_⟩
  ·have:=set_takeL (xs:=runs k xss) (ys:=ys) (i:=i) (by simpa using h) hiy ht;rw [Q97 xss k i h] at this;exact this
  ·dsimp only;rw [List.drop_set_of_lt (by omega)];have:=congrArg (List.drop 1) hd;simpa [List.drop_drop,Nat.add_comm] using this
  ·simp [hs1,Int.add_assoc,rl]
  simp [rlE]
 simp at h;refine Qk ?_;simp;refine srQ hN fun K hK=>?_;simp;refine hK _ (Qg ?_);clear hK K;have hi':i=xss.length:=by omega
 subst hi';rw [zI (by omega),zI (by simp)] at ht;subst ht;refine ⟨?_,?_⟩
 ·simp [Q9I]
 intro j hj;simp at hj;subst hj;simp
theorem c46 [Kd Tryz.prog] (x a b:Int):Contract Tryz.prog 167 [iV x,iV a,iV b] (.val (.bool (decide (a≤x) && decide (x≤b)))):=by
 refine Q4 (rs:=[.val (.bool (decide (a≤x) && decide (x≤b)))]) Tryz.func167 rfl rfl rfl rfl (by simp [Tryz.f167]) fun F hN hP=>?_;refine srQ hN fun K hK=>?_;simp;refine hK _ ?_;clear hK K;refine srQ hN fun K hK=>?_;simp;refine ⟨fun h=>hK _ (Qg (Qc rfl ?_)),fun h=>hK _ (Qg (Qc rfl ?_))⟩<;>clear hK K
 ·simp [h]
 simp;omega
def inR (n:Int) (x:Int):Bool:=decide (0≤x) && decide (x≤n - 1)
theorem Q8F {p:Int→Bool} {xs:List Int} {i:Nat} (h:i<xs.length) (h1:(xs.take i).all p=true) (h2:p xs[i]=true):(xs.take (i+1)).all p=true:=by
 rw [zH h,List.all_append,h1];simp [h2]
theorem Q8c {p:Int→Bool} {xs:List Int} {i:Nat} (h:i<xs.length) (h2:p xs[i]=false):xs.all p=false:=by
 rw [List.all_eq_false];exact ⟨xs[i],zJ h,by simp [h2]⟩
theorem c22 [Kd Tryz.prog] (u:Bool) (xs:List Int) (n:Int) (hn:B64 (n - 1)):Contract Tryz.prog 131 [.lst u 1 (Is xs),iV n] (.val (.bool (xs.all (inR n)))):=by
 refine Q4 (rs:=[.val (.bool (xs.all (inR n)))]) Tryz.func131 rfl rfl rfl rfl (by simp [Tryz.f131]) fun F hN hP=>?_;refine Q4j 0 fun h0=>?_;simp at h0;obtain ⟨hl0,hb0⟩:=h0.is;refine srQ hN fun K hK=>?_;simp;refine hK _ ?_;clear hK K;refine Q3 (srQ hN fun K hK=>?_);simp;refine hK _ (Q6 (Qr (fun i:Nat=>⟨[(0,.lst u 1 (Is xs)),(1,iV n),(7,.lst u 1 (Is xs)),(8,iV xs.length),(9,iV i)],[],0⟩) (fun i=>i≤xs.length∧(xs.take i).all (inR n)=true) (fun i=>xs.length - i) 0 (by simp) (Wk.cut (by simp) rfl rfl) ?_));clear hK K
 rintro i ⟨hi,ht⟩
 refine srQ hN fun K hK=>?_;simp;refine hK _ ?_;clear hK K;refine Q3 (Q7 rfl (fun h=>?_) fun h=>?_)
 ·simp at h;refine Q8 (Q3 (Q6 (srQ hN fun K hK=>?_)));simp [h];refine hK _ ?_;clear hK K;refine srQ hN fun K hK=>?_;simp;refine Q0 (c46 xs[i] 0 (n - 1)) ?_ ?_
  ·rw [QF hn];exact .cons .val (.cons .val (.cons .val .nil))
  simp [unk,unA,unE,flat];refine hK _ ?_;clear hK K;refine Q7 rfl (fun h2=>?_) fun h2=>?_
  ·refine srQ hN fun K hK=>?_;simp;refine hK _ (Qg (Qc rfl ?_));clear hK K;simp at h2;rw [Q8c h (by simp [inR];omega)]
  refine Q8 (runQ hN fun K hK=>?_);simp;refine hK _ ?_;clear hK K;rw [Qh (n:=xs.length) (by omega) hl0];refine ⟨i+1,⟨by omega,Q8F h ht (by simpa [inR] using h2)⟩,by dsimp only;omega,rbQ hP []⟩
 simp at h;refine Qk ?_;simp;refine srQ hN fun K hK=>?_;simp;refine hK _ (Qg (Qc rfl ?_));clear hK K;rw [zI (by omega)] at ht;rw [ht]
def held (k:Int) (xs:List Int):Int:=if xs=run k xs.length then k+xs.length else -1
theorem Q96 (n:Nat):∀ (k:Int) (i:Nat),i≤n→(run k n).take i=run k i:=by
 induction n with
 | zero =>
  intro k i h;have:i=0:=by omega
  subst this;rfl
 | succ n ih =>
  intro k i h;cases i with
  | zero=>rfl
  | succ i=>simp [run,ih (k+1) i (by omega)]
theorem c53 [Kd Tryz.prog] (u:Bool) (xs:List Int) (k:Int) (h1:xs.length≤1048576) (h2:0≤k) (h3:k≤1152921504606846976):Contract Tryz.prog 55 [.lst u 1 (Is xs),iV k] (iV (held k xs)):=by
 refine Q4 (rs:=[iV (held k xs)]) Tryz.func55 rfl rfl rfl rfl (by simp [Tryz.f55]) fun F hN hP=>?_;refine srQ hN fun K hK=>?_;simp;refine hK _ ?_;clear hK K;refine Q3 (srQ hN fun K hK=>?_);simp;refine hK _ (Q6 (Qr (fun p:Nat=>⟨[(0,.lst u 1 (Is xs)),(1,iV (k+p)),(5,iV p)],[],0⟩) (fun p=>p≤xs.length∧xs.take p=run k p) (fun p=>xs.length - p) 0 (by simp [run]) (Wk.cut (by simp) (by simp) rfl) ?_));clear hK K
 rintro i ⟨hi,ht⟩
 refine Q3 (srQ hN fun K hK=>?_);simp;refine hK _ ?_;clear hK K;refine Q7 rfl (fun h=>?_) fun h=>?_
 ·simp at h;refine Q8 (Q3 (Q6 (Q3 (srQ hN fun K hK=>?_))));simp [h];refine hK _ ?_;clear hK K;refine Q7 rfl (fun h4=>?_) fun h4=>?_
  ·simp at h4;refine srQ hN fun K hK=>?_;simp;refine hK _ (Qg (Qc rfl ?_));clear hK K;rw [held,if_neg];intro he;have:=congrArg (fun l=>l[i]?) he;simp only [qJ h] at this;rw [qJ (by simpa using h),Q8h _ _ _ h] at this;simp at this;omega
  simp at h4;refine Q8 (runQ hN fun K hK=>?_);simp;refine hK _ ?_;clear hK K;refine runQ hN fun K hK=>?_;simp;refine hK _ ?_;clear hK K;rw [Qh (n:=xs.length) (by omega) (by omega),QF ⟨by omega,by omega⟩];refine ⟨i+1,⟨by omega,?_⟩,by dsimp only;omega,Wk.cut (by simp [Int.add_assoc]) (by simp) rfl⟩;have e1:xs.take (i+1)=(run k xs.length).take (i+1):=by
   refine Q8u h (by simpa using h) (by rw [ht,Q96 _ _ _ hi]) (by rw [Q8h _ _ _ h];exact h4)
  rw [e1,Q96 _ _ _ (by omega)]
 simp at h;refine Qk ?_;simp;refine srQ hN fun K hK=>?_;simp;refine hK _ ?_;clear hK K;have hi':i=xs.length:=by omega
 subst hi';refine Qg (Qc rfl ?_);rw [zI (by omega)] at ht;rw [held,if_pos ht]
@[simp] theorem fld29_0:fld Tryz.prog 32 0=some (0,1,false):=by kernel_rfl
@[simp] theorem fld29_1:fld Tryz.prog 32 1=some (1,1,false):=by kernel_rfl
@[simp] theorem fld29_2:fld Tryz.prog 32 2=some (2,1,false):=by kernel_rfl
@[simp] theorem fld29_3:fld Tryz.prog 32 3=some (3,1,false):=by kernel_rfl
@[simp] theorem fld29_4:fld Tryz.prog 32 4=some (4,1,false):=by kernel_rfl
@[simp] theorem y23:tyi Tryz.prog 23=some ⟨false,1,24,[.slice none 0 0]⟩:=by kernel_rfl
structure Cat where
 n:Int
 fr:List Int
 to:List Int
 id:List Int
 cs:List (List Int)
def Cat.mu (c:Cat) (k:Int):List Mu :=
 [⟨1,Is c.fr,Is (run k c.fr.length)⟩,⟨1,Is c.to,Is (run (k+c.fr.length) c.to.length)⟩,⟨1,Is c.id,Is (run (k+c.fr.length+c.to.length) c.id.length)⟩,
  ⟨1,Ls c.cs,Ls (runs (k+c.fr.length+c.to.length+c.id.length) c.cs)⟩]
def Cat.ok (c:Cat):Prop:=c.fr.length≤1048576∧c.to.length≤1048576∧c.id.length≤1048576∧c.cs.length≤1048576∧(∀ xs∈c.cs,xs.length≤1048576)∧sumL c.cs≤1099511627776
def Cat.size (c:Cat):Nat:=c.fr.length+c.to.length+c.id.length+sumL c.cs
theorem m31 [Kd Tryz.prog] (c:Cat) (k:Int) (hc:c.ok) (h2:0≤k) (h3:k≤576460752303423488) :
  MContract Tryz.prog 52 [.agg [iV c.n,.own 0 0 c.fr.length,.own 1 0 c.to.length,.own 2 0 c.id.length,.own 3 0 c.cs.length],iV k] (c.mu k) (iV (k+c.fr.length+c.to.length+c.id.length+sumL c.cs)):=by
 obtain ⟨hc1,hc2,hc3,hc4,hc5,hc6⟩:=hc;refine Q1h (ts:=[4]) (rv:=.int .i64 (k+c.fr.length+c.to.length+c.id.length+sumL c.cs)) Tryz.func52 rfl rfl ?_ rfl (by simp [Tryz.f52]) ?_ fun F hN hP=>?_
 ·have:(-9223372036854775808≤k+c.fr.length+c.to.length+c.id.length+sumL c.cs)∧k+c.fr.length+c.to.length+c.id.length+sumL c.cs≤9223372036854775807:=by omega
  simp [resV,this]
 ·intro j hj;simp only [Cat.mu,qI,zD] at hj
  match j,hj with
  | 0,_=>simp [Cat.mu]
  | 1,_=>simp [Cat.mu]
  | 2,_=>simp [Cat.mu]
  | 3,_=>simp [Cat.mu]
 refine srQ hN fun K hK=>?_;simp [Q4t,Cat.mu];refine hK _ ?_;clear hK K;refine Q4l mo (by rw [hN];decide) fun K hK=>?_;simp;refine Q1E (m32 c.fr k hc1 h2 (by omega)) rfl (by simp) ?_;simp;refine hK _ ?_;clear hK K;refine Q4l mo (by rw [hN];decide) fun K hK=>?_;simp;refine Q1E (m32 c.to (k+c.fr.length) hc2 (by omega) (by omega)) rfl (by simp) ?_;simp;refine hK _ ?_;clear hK K;refine Q4l mo (by rw [hN];decide) fun K hK=>?_;simp;refine Q1E (m32 c.id (k+c.fr.length+c.to.length) hc3 (by omega) (by omega)) rfl (by simp) ?_;simp;refine hK _ ?_;clear hK K;refine Q4l mo (by rw [hN];decide) fun K hK=>?_;simp;refine Q1E (m33 c.cs (k+c.fr.length+c.to.length+c.id.length) hc4 hc5 (by omega) (by omega)) rfl (by simp) ?_;simp;refine hK _ ?_;clear hK K;refine srQ hN fun K hK=>?_;simp;refine hK _ ?_;clear hK K;refine Qg ⟨?_,?_⟩
 ·simp
 intro j hj;simp only [Cat.mu,qI,zD] at hj
 match j,hj with
 | 0,_=>simp [Cat.mu]
 | 1,_=>simp [Cat.mu]
 | 2,_=>simp [Cat.mu]
 | 3,_=>simp [Cat.mu]
def Part (done:List (List AV)) (n i:Nat) (z:List AV):List (List AV):=done++List.replicate (n - i) z
theorem Part.at {done:List (List AV)} {n i:Nat} {z:List AV} (hi:i<n) (hd:done.length=i):(Part done n i z)[i]? = some z:=by
 rw [Part,List.getElem?_append_right (by omega),hd,Nat.sub_self,List.getElem?_replicate,if_pos (by omega)]
theorem Part.next {done:List (List AV)} {n i:Nat} {x z:List AV} (hi:i<n) (hd:done.length=i):(Part done n i z).set i x=Part (done++[x]) n (i+1) z:=by
 rw [Part,List.set_append_right _ _ (by omega),hd,Nat.sub_self,show n - i=(n - (i+1))+1 by omega,List.replicate_succ,List.set_cons_zero];simp [Part]
theorem Part.length {done:List (List AV)} {n i:Nat} {z:List AV} (hi:i≤n) (hd:done.length=i):(Part done n i z).length=n:=by simp [Part];omega
theorem Q7N {xss:List (List Int)} {i:Nat} (h:i<xss.length):Ls (xss.take i)++[[lI xss[i]]]=Ls (xss.take (i+1)):=by
 rw [zH h,Ls,Ls,List.map_append];rfl
theorem c20 [Kd Tryz.prog] (u:Bool) (xss:List (List Int)) (hx:xss.length≤1048576) (hx':∀ xs∈xss,xs.length≤1048576):Contract Tryz.prog 46 [.lst u 1 (Ls xss)] (.lst true 1 (Ls xss)):=by
 refine Q4 (rs:=[.lst true 1 (Ls xss)]) Tryz.func46 rfl rfl rfl rfl (by simp [Tryz.f46]) fun F hN hP=>?_;refine srQ hN fun K hK=>?_;simp;refine hK _ ?_;clear hK K;refine srQ hN fun K hK=>?_;simp;refine ⟨by omega,hK _ ?_⟩;clear hK K;refine Q3 (srQ hN fun K hK=>?_);simp;refine hK _ (Q6 (Qr (fun i:Nat=>⟨[(0,.lst u 1 (Ls xss)),(3,.own 0 0 xss.length),(4,iV i)],[(0,.row 1 (Part (Ls (xss.take i)) xss.length i [nS]))],1⟩) (fun i=>i≤xss.length) (fun i=>xss.length - i) 0 (by simp) (Wk.cut (by simp) (by simp [Part,Ls]) rfl) ?_));clear hK K;intro i hi;refine Q3 (srQ hN fun K hK=>?_);simp;refine hK _ ?_;clear hK K;refine Q7 rfl (fun h=>?_) fun h=>?_
 ·simp at h;have hd:(Ls (xss.take i)).length=i:=by simp;omega
  have hat:=Part.at (z:=[nS]) h hd;have hlen:=Part.length (z:=[nS]) hi hd;refine Q8 (Q3 (Q6 (runQ hN fun K hK=>?_)));simp [h];refine Q0 (c19 u xss[i] (hx' _ (zJ h))) (.cons .lst .nil) ?_;simp [unk,unA,unE,flat,h];refine stoA_row [] y22 rfl (b:=.lst true 1 (Is xss[i])) (ds:=[1]) rfl (by simp) (by omega) (by simp) (by simp) (by simp) (by simp) ?_;simp [hat];refine hK _ ?_;clear hK K;refine runQ hN fun K hK=>?_;simp;refine hK _ ?_;clear hK K;rw [Qh (n:=xss.length) (by omega) (by omega),Part.next h hd,Q7N h];refine ⟨i+1,by omega,by dsimp only;omega,rbQ hP [(0,0)]⟩
 simp at h;refine Qk ?_;simp;refine srQ hN fun K hK=>?_;simp;refine hK _ ?_;clear hK K;have hi':i=xss.length:=by omega
 subst hi';refine Qg (Q3J rfl rfl ?_ ?_)
 ·simp [Part]
 simp [Part]
@[simp] theorem fld25_0:fld Tryz.prog 25 0=some (0,1,false):=by kernel_rfl
@[simp] theorem fld25_1:fld Tryz.prog 25 1=some (1,1,false):=by kernel_rfl
@[simp] theorem fld25_2:fld Tryz.prog 25 2=some (2,1,false):=by kernel_rfl
@[simp] theorem fld25_3:fld Tryz.prog 25 3=some (3,1,false):=by kernel_rfl
@[simp] theorem fld25_4:fld Tryz.prog 25 4=some (4,1,false):=by kernel_rfl
@[simp] theorem y29:tyi Tryz.prog 32=some ⟨true,5,104,[.int .i64 0,.slice none 0 0,.slice none 0 0,.slice none 0 0,.slice none 0 0]⟩:=by kernel_rfl
def Cat.av (u:Bool) (c:Cat):AV:=.agg [iV c.n,.lst u 1 (Is c.fr),.lst u 1 (Is c.to),.lst u 1 (Is c.id),.lst u 1 (Ls c.cs)]
theorem c18 [Kd Tryz.prog] (c:Cat) (u:Bool) (hc:c.ok):Contract Tryz.prog 44 [c.av u] (c.av true):=by
 obtain ⟨hc1,hc2,hc3,hc4,hc5,hc6⟩:=hc;refine Q16 Tryz.func44 rfl rfl y29 rfl rfl (by simp [Tryz.f44]) fun F hN hP=>?_;refine srQ hN fun K hK=>?_;simp [Cat.av];refine hK _ ?_;clear hK K;refine srQ hN fun K hK=>?_;simp;refine hK _ ?_;clear hK K;refine srQ hN fun K hK=>?_;simp;refine hK _ ?_;clear hK K;refine srQ hN fun K hK=>?_;simp;refine Q0 (c19 u c.fr hc1) (.cons .lst .nil) ?_;simp [unk,unA,unE,flat];refine hK _ ?_;clear hK K;refine srQ hN fun K hK=>?_;simp;refine Q0 (c19 u c.to hc2) (.cons .lst .nil) ?_;simp [unk,unA,unE,flat];refine hK _ ?_;clear hK K;refine srQ hN fun K hK=>?_;simp;refine Q0 (c19 u c.id hc3) (.cons .lst .nil) ?_;simp [unk,unA,unE,flat];refine hK _ ?_;clear hK K;refine srQ hN fun K hK=>?_;simp;refine Q0 (c20 u c.cs hc4 hc5) (.cons .lst .nil) ?_;simp [unk,unA,unE,flat];refine hK _ ?_;clear hK K;refine srQ hN fun K hK=>?_;simp;refine hK _ (Qg ⟨_,_,_,_,_,rfl,rfl,by simp,by simp,?_⟩);clear hK K;exact ⟨.agg rfl .nil,[iV c.n,lI c.fr,lI c.to,lI c.id,.lst true 1 (Ls c.cs)],[3,4,5,6],by simp,by simp,UpL.refl _⟩
def less (left:Int) (n:Nat):Int:=if left - n<0 then -1 else left - n
theorem c14 [Kd Tryz.prog] (u:Bool) (xs:List Int) (l:Int) (h1:0≤l) (h2:l≤1048576):Contract Tryz.prog 39 [.lst u 1 (Is xs),iV l] (iV (less l xs.length)):=by
 refine Q4 (rs:=[iV (less l xs.length)]) Tryz.func39 rfl rfl rfl rfl (by simp [Tryz.f39]) fun F hN hP=>?_;refine Q4j 0 fun h0=>?_;simp at h0;obtain ⟨hl0,hb0⟩:=h0.is;refine srQ hN fun K hK=>?_;simp;refine hK _ ?_;clear hK K;refine srQ hN fun K hK=>?_;simp;rw [QF ⟨by omega,by omega⟩];refine hK _ ?_;clear hK K;refine Q3 (srQ hN fun K hK=>?_);simp;refine hK _ ?_;clear hK K;refine Q7 rfl (fun h=>?_) fun h=>?_
 ·simp at h;refine srQ hN fun K hK=>?_;simp;refine hK _ (Qg (Qc rfl ?_));clear hK K;rw [less,if_pos (by omega)]
 simp at h;refine Q8 (srQ hN fun K hK=>?_);simp;refine hK _ (Qg (Qc rfl ?_));clear hK K;rw [less,if_neg (by omega)]
def Q4T (l:Int):List (List Int)→Int
 | []=>l
 | xs :: r=>if less l xs.length<0 then -1 else Q4T (less l xs.length) r
def Q2s (l:Int) (xss:List (List Int)):Int:=if l - xss.length<0 then -1 else Q4T (l - xss.length) xss
theorem Q6x {u:Bool} {sz:Nat} {es:List (List AV)} (h:Good (.lst u sz es)):es.length≤9223372036854775807:=by
 cases h with
 | lst h1=>exact Nat.le_trans h1 (by decide)
 | other h=>exact h.elim
theorem c15 [Kd Tryz.prog] (u:Bool) (xss:List (List Int)) (l:Int) (h1:0≤l) (h2:l≤1048576):Contract Tryz.prog 40 [.lst u 1 (Ls xss),iV l] (iV (Q2s l xss)):=by
 refine Q4 (rs:=[iV (Q2s l xss)]) Tryz.func40 rfl rfl rfl rfl (by simp [Tryz.f40]) fun F hN hP=>?_;refine Q4j 0 fun h0=>?_;simp at h0;have hl0:=Q6x h0;simp at hl0;refine srQ hN fun K hK=>?_;simp;refine hK _ ?_;clear hK K;refine srQ hN fun K hK=>?_;simp;rw [QF ⟨by omega,by omega⟩];refine hK _ ?_;clear hK K;refine Q3 (srQ hN fun K hK=>?_);simp;refine hK _ ?_;clear hK K;refine Q7 rfl (fun h=>?_) fun h=>?_
 ·simp at h;refine srQ hN fun K hK=>?_;simp;refine hK _ (Qg (Qc rfl ?_));clear hK K;rw [Q2s,if_pos (by omega)]
 simp at h;refine Q8 (Q3 (srQ hN fun K hK=>?_));simp;refine hK _ (Q6 (Qr (fun p:Nat × Int=>⟨[(0,.lst u 1 (Ls xss)),(1,iV p.2),(5,iV p.1)],[],0⟩) (fun p=>p.1≤xss.length∧0≤p.2∧p.2≤1048576∧Q4T p.2 (xss.drop p.1)=Q2s l xss) (fun p=>xss.length - p.1) (0,l - xss.length) ⟨by simp,by dsimp only;omega,by dsimp only;omega,by rw [Q2s,if_neg (by omega)];rfl⟩ (Wk.cut (by simp) (by simp) rfl) ?_));clear hK K
 rintro ⟨i,q⟩ ⟨hi,hq1,hq2,hq3⟩
 simp only at hi hq1 hq2 hq3;refine Q3 (srQ hN fun K hK=>?_);simp;refine hK _ ?_;clear hK K;refine Q7 rfl (fun h=>?_) fun h=>?_
 ·simp at h;rw [List.drop_eq_getElem_cons h,Q4T] at hq3;refine Q8 (Q3 (Q6 (srQ hN fun K hK=>?_)));simp [h];refine Q0 (c14 u xss[i] q hq1 hq2) (.cons .lst (.cons .val .nil)) ?_;simp [unk,unA,unE,flat];refine hK _ ?_;clear hK K;refine srQ hN fun K hK=>?_;simp;refine hK _ ?_;clear hK K;refine Q7 rfl (fun h3=>?_) fun h3=>?_
  ·simp at h3;refine srQ hN fun K hK=>?_;simp;refine hK _ (Qg (Qc rfl ?_));clear hK K;rw [if_pos h3] at hq3;rw [hq3]
  simp at h3;rw [if_neg (by omega)] at hq3;refine Q8 (runQ hN fun K hK=>?_);simp;refine hK _ ?_;clear hK K;rw [Qh (n:=xss.length) (by omega) (by omega)];have hle:less q xss[i].length≤1048576:=by unfold less;split<;>omega
  refine ⟨(i+1,less q xss[i].length),⟨by dsimp only;omega,h3,hle,hq3⟩,by dsimp only;omega,rbQ hP []⟩
 simp at h;refine Qk ?_;simp;refine srQ hN fun K hK=>?_;simp;refine hK _ ?_;clear hK K;rw [List.drop_eq_nil_of_le (by omega),Q4T] at hq3;refine Qg (Qc rfl ?_);rw [hq3]
def nn (a:Int) (f:Int→Int):Int:=if a<0 then -1 else f a
def Q4w (l:Int) (c:Cat):Int:=nn (less l c.fr.length) fun a=>nn (less a c.to.length) fun b=>nn (less b c.id.length) fun d=>nn (Q2s d c.cs) fun e=>e
theorem Q2U {l:Int} {n:Nat} (h:l≤1048576):less l n≤1048576:=by unfold less;split<;>omega
theorem c13 [Kd Tryz.prog] (u:Bool) (c:Cat) (l:Int) (h1:0≤l) (h2:l≤1048576):Contract Tryz.prog 38 [c.av u,iV l] (iV (Q4w l c)):=by
 refine Q4 (rs:=[iV (Q4w l c)]) Tryz.func38 rfl rfl rfl rfl (by simp [Tryz.f38]) fun F hN hP=>?_;simp only [Cat.av];refine srQ hN fun K hK=>?_;simp;refine hK _ ?_;clear hK K;refine srQ hN fun K hK=>?_;simp;refine Q0 (c14 u c.fr l h1 h2) (.cons .lst (.cons .val .nil)) ?_;simp [unk,unA,unE,flat];refine hK _ ?_;clear hK K;refine Q3 (srQ hN fun K hK=>?_);simp;refine hK _ ?_;clear hK K;refine Q7 rfl (fun g1=>?_) fun g1=>?_
 ·simp at g1;refine srQ hN fun K hK=>?_;simp;refine hK _ (Qg (Qc rfl ?_));clear hK K;simp only [Q4w,nn];rw [if_pos g1]
 simp at g1;have h3:0≤less l c.fr.length:=g1;have hb1:less l c.fr.length≤1048576:=Q2U (by omega);refine Q8 (srQ hN fun K hK=>?_);simp;refine Q0 (c14 u c.to _ h3 hb1) (.cons .lst (.cons .val .nil)) ?_;simp [unk,unA,unE,flat];refine hK _ ?_;clear hK K;refine Q3 (srQ hN fun K hK=>?_);simp;refine hK _ ?_;clear hK K;refine Q7 rfl (fun g2=>?_) fun g2=>?_
 ·simp at g2;refine srQ hN fun K hK=>?_;simp;refine hK _ (Qg (Qc rfl ?_));clear hK K;simp only [Q4w,nn];rw [if_neg (Int.not_lt.2 h3),if_pos g2]
 simp at g2;have h4:0≤less (less l c.fr.length) c.to.length:=g2;have hb2:less (less l c.fr.length) c.to.length≤1048576:=Q2U (by omega);refine Q8 (srQ hN fun K hK=>?_);simp;refine Q0 (c14 u c.id _ h4 hb2) (.cons .lst (.cons .val .nil)) ?_;simp [unk,unA,unE,flat];refine hK _ ?_;clear hK K;refine Q3 (srQ hN fun K hK=>?_);simp;refine hK _ ?_;clear hK K;refine Q7 rfl (fun g3=>?_) fun g3=>?_
 ·simp at g3;refine srQ hN fun K hK=>?_;simp;refine hK _ (Qg (Qc rfl ?_));clear hK K;simp only [Q4w,nn];rw [if_neg (Int.not_lt.2 h3),if_neg (Int.not_lt.2 h4),if_pos g3]
 simp at g3;have h5:0≤less (less (less l c.fr.length) c.to.length) c.id.length:=g3;have hb3:less (less (less l c.fr.length) c.to.length) c.id.length≤1048576:=Q2U (by omega);refine Q8 (srQ hN fun K hK=>?_);simp;refine Q0 (c15 u c.cs _ h5 hb3) (.cons .lst (.cons .val .nil)) ?_;simp [unk,unA,unE,flat];refine hK _ ?_;clear hK K;refine Q3 (srQ hN fun K hK=>?_);simp;refine hK _ ?_;clear hK K;refine Q7 rfl (fun g4=>?_) fun g4=>?_
 ·simp at g4;refine srQ hN fun K hK=>?_;simp;refine hK _ (Qg (Qc rfl ?_));clear hK K;simp only [Q4w,nn];rw [if_neg (Int.not_lt.2 h3),if_neg (Int.not_lt.2 h4),if_neg (Int.not_lt.2 h5),if_pos g4]
 simp at g4;have h6:0≤Q2s (less (less (less l c.fr.length) c.to.length) c.id.length) c.cs:=g4;refine Q8 (srQ hN fun K hK=>?_);simp;refine hK _ (Qg (Qc rfl ?_));clear hK K;simp only [Q4w,nn];rw [if_neg (Int.not_lt.2 h3),if_neg (Int.not_lt.2 h4),if_neg (Int.not_lt.2 h5),if_neg (Int.not_lt.2 h6)]
end
section
attribute [local simp] Qd Qt Ql QS Qv
@[simp] theorem y37:tyi Tryz.prog 34=some ⟨true,7,152,[.int .i64 0,.slice none 0 0,.slice none 0 0,.slice none 0 0,.slice none 0 0,.slice none 0 0,.slice none 0 0]⟩:=by kernel_rfl
@[simp] theorem y25:tyi Tryz.prog 25=some ⟨true,5,104,[.int .i64 0,.slice none 0 0,.slice none 0 0,.slice none 0 0,.slice none 0 0]⟩:=by kernel_rfl
@[simp] theorem y27:tyi Tryz.prog 27=some ⟨true,7,152,[.int .i64 0,.slice none 0 0,.slice none 0 0,.slice none 0 0,.slice none 0 0,.slice none 0 0,.slice none 0 0]⟩:=by kernel_rfl
@[simp] theorem fld37_0:fld Tryz.prog 34 0=some (0,5,true):=by kernel_rfl
@[simp] theorem fld37_1:fld Tryz.prog 34 1=some (5,1,false):=by kernel_rfl
@[simp] theorem fld37_2:fld Tryz.prog 34 2=some (6,1,false):=by kernel_rfl
@[simp] theorem fld27_0:fld Tryz.prog 27 0=some (0,5,true):=by kernel_rfl
@[simp] theorem fld27_1:fld Tryz.prog 27 1=some (5,1,false):=by kernel_rfl
@[simp] theorem fld27_2:fld Tryz.prog 27 2=some (6,1,false):=by kernel_rfl
def Cat.cells (u:Bool) (c:Cat):List AV:=[iV c.n,.lst u 1 (Is c.fr),.lst u 1 (Is c.to),.lst u 1 (Is c.id),.lst u 1 (Ls c.cs)]
theorem Cat.pur {h:HP} {u v:Bool} {c:Cat}:PurL h (c.cells u) (c.cells v):=.cons .val (.cons .lst (.cons .lst (.cons .lst (.cons .lst .nil))))
structure Fn where
 s:Cat
 t:Cat
 ob:List Int
 ar:List Int
def Fn.cells (u:Bool) (f:Fn):List AV:=[iV f.s.n,.lst u 1 (Is f.s.fr),.lst u 1 (Is f.s.to),.lst u 1 (Is f.s.id),.lst u 1 (Ls f.s.cs),iV f.t.n,.lst u 1 (Is f.t.fr),.lst u 1 (Is f.t.to),.lst u 1 (Is f.t.id),.lst u 1 (Ls f.t.cs),.lst u 1 (Is f.ob),.lst u 1 (Is f.ar)]
structure SF where
 s:Cat
 sz:List Int
 ac:List (List Int)
def SF.cells (u:Bool) (f:SF):List AV:=[iV f.s.n,.lst u 1 (Is f.s.fr),.lst u 1 (Is f.s.to),.lst u 1 (Is f.s.id),.lst u 1 (Ls f.s.cs),.lst u 1 (Is f.sz),.lst u 1 (Ls f.ac)]
def Cs (cs:List Cat):List (List AV):=cs.map (Cat.cells true)
def Fs (fs:List Fn):List (List AV):=fs.map (Fn.cells true)
structure Fam where
 b:Cat
 fb:List Cat
 ch:List Fn
def Fam.cells (u:Bool) (f:Fam):List AV:=[iV f.b.n,.lst u 1 (Is f.b.fr),.lst u 1 (Is f.b.to),.lst u 1 (Is f.b.id),.lst u 1 (Ls f.b.cs),.lst u 5 (Cs f.fb),.lst u 12 (Fs f.ch)]
theorem c30 [Kd Tryz.prog] (u v:Bool) (xs:List (List Int)):Contract Tryz.prog 16 [.lst u 1 (Ls xs),.lst v 1 (Ls xs)] (.val (.bool true)):=by
 refine Q4 (rs:=[.val (.bool true)]) Tryz.func16 rfl rfl rfl rfl (by simp [Tryz.f16]) fun F hN hP=>?_;refine Q4j 0 fun h0=>?_;have hl0:xs.length≤9223372036854775807:=by simpa using Q6x h0
 refine srQ hN fun K hK=>?_;simp;refine hK _ ?_;clear hK K;refine Q3 (srQ hN fun K hK=>?_);simp;refine hK _ (Q7 rfl (fun h=>by simp at h) fun _=>?_);clear hK K;refine Q8 (Q3 (srQ hN fun K hK=>?_));simp;refine hK _ (Q6 (Qr (fun i:Nat=>⟨[(0,.lst u 1 (Ls xs)),(1,.lst v 1 (Ls xs)),(5,iV i)],[],0⟩) (fun i=>i≤xs.length) (fun i=>xs.length - i) 0 (by simp) (Wk.cut (by simp) (by simp) rfl) ?_));clear hK K;intro i hi;refine Q3 (srQ hN fun K hK=>?_);simp;refine hK _ ?_;clear hK K;refine Q7 rfl (fun h=>?_) fun h=>?_
 ·simp at h;refine Q8 (Q3 (Q6 (srQ hN fun K hK=>?_)));simp [h];refine Q0 (c29 true true xs[i] xs[i]) (.cons .lst (.cons .lst .nil)) ?_;simp [unk,unA,unE,flat];refine hK _ (Q7 rfl (fun h=>by simp at h) fun _=>?_);clear hK K;refine Q8 (runQ hN fun K hK=>?_);simp;refine hK _ ?_;clear hK K;rw [Qh (n:=xs.length) (by omega) (by omega)];refine ⟨i+1,by omega,by dsimp only;omega,rbQ hP []⟩
 simp at h;refine Qk ?_;simp;refine srQ hN fun K hK=>?_;simp;refine hK _ ?_;clear hK K;refine Qg (Qc rfl rfl)
theorem c26 [Kd Tryz.prog] (u v:Bool) (c:Cat):Contract Tryz.prog 50 [.agg (c.cells u),.agg (c.cells v)] (.val (.bool true)):=by
 refine Q4 (rs:=[.val (.bool true)]) Tryz.func50 rfl rfl rfl rfl (by simp [Tryz.f50]) fun F hN hP=>?_;refine srQ hN fun K hK=>?_;simp [Cat.cells];refine hK _ ?_;clear hK K;refine Q3 (srQ hN fun K hK=>?_);simp;refine hK _ (Q7 rfl (fun h=>by simp at h) fun _=>?_);clear hK K;refine Q8 (Q3 (srQ hN fun K hK=>?_));simp;refine Q0 (c29 u v c.fr c.fr) (.cons .lst (.cons .lst .nil)) ?_;simp [unk,unA,unE,flat];refine hK _ (Q7 rfl (fun h=>by simp at h) fun _=>?_);clear hK K;refine Q8 (Q3 (srQ hN fun K hK=>?_));simp;refine Q0 (c29 u v c.to c.to) (.cons .lst (.cons .lst .nil)) ?_;simp [unk,unA,unE,flat];refine hK _ (Q7 rfl (fun h=>by simp at h) fun _=>?_);clear hK K;refine Q8 (Q3 (srQ hN fun K hK=>?_));simp;refine Q0 (c29 u v c.id c.id) (.cons .lst (.cons .lst .nil)) ?_;simp [unk,unA,unE,flat];refine hK _ (Q7 rfl (fun h=>by simp at h) fun _=>?_);clear hK K;refine Q8 (Q3 (srQ hN fun K hK=>?_));simp;refine Q0 (c30 u v c.cs) (.cons .lst (.cons .lst .nil)) ?_;simp [unk,unA,unE,flat];refine hK _ (Q7 rfl (fun h=>by simp at h) fun _=>?_);clear hK K;refine Q8 (srQ hN fun K hK=>?_);simp;refine hK _ ?_;clear hK K;refine Qg (Qc rfl rfl)
theorem c9 [Kd Tryz.prog] (u v:Bool) (f:SF):Contract Tryz.prog 15 [.agg (f.cells u),.agg (f.cells v)] (.val (.bool true)):=by
 refine Q4 (rs:=[.val (.bool true)]) Tryz.func15 rfl rfl rfl rfl (by simp [Tryz.f15]) fun F hN hP=>?_;refine srQ hN fun K hK=>?_;simp [SF.cells];refine hK _ ?_;clear hK K;refine Q3 (srQ hN fun K hK=>?_);simp;refine Q0 (c26 u v f.s) (.cons (.aggL Cat.pur) (.cons (.aggL Cat.pur) .nil)) ?_;simp [unk,unA,unE,flat];refine hK _ (Q7 rfl (fun h=>by simp at h) fun _=>?_);clear hK K;refine Q8 (Q3 (srQ hN fun K hK=>?_));simp;refine Q0 (c29 u v f.sz f.sz) (.cons .lst (.cons .lst .nil)) ?_;simp [unk,unA,unE,flat];refine hK _ (Q7 rfl (fun h=>by simp at h) fun _=>?_);clear hK K;refine Q8 (Q3 (srQ hN fun K hK=>?_));simp;refine Q0 (c30 u v f.ac) (.cons .lst (.cons .lst .nil)) ?_;simp [unk,unA,unE,flat];refine hK _ (Q7 rfl (fun h=>by simp at h) fun _=>?_);clear hK K;refine Q8 (srQ hN fun K hK=>?_);simp;refine hK _ ?_;clear hK K;refine Qg (Qc rfl rfl)
section
variable {α:Type} (f:Int→α→α) (sz:α→Nat)
end
@[simp] theorem held_run (k:Int) (n:Nat):held k (run k n)=k+n:=by simp [held]
theorem c54 [Kd Tryz.prog] (u:Bool) (xs:List (List Int)) (k:Int) (h1:xs.length≤1048576) (h1':∀ x∈xs,x.length≤1048576) (h2:0≤k) (h3:k+sumL xs≤1152921504606846976) :
  Contract Tryz.prog 22 [.lst u 1 (Ls (runs k xs)),iV k] (iV (k+sumL xs)):=by
 refine Q4 (rs:=[iV (k+sumL xs)]) Tryz.func22 rfl rfl rfl rfl (by simp [Tryz.f22]) fun F hN hP=>?_;refine srQ hN fun K hK=>?_;simp;refine hK _ ?_;clear hK K;refine Q3 (srQ hN fun K hK=>?_);simp;refine hK _ (Q6 (Qr (fun p:Nat × Int=>⟨[(0,.lst u 1 (Ls (runs k xs))),(1,iV p.2),(5,iV p.1)],[],0⟩) (fun p=>p.1≤xs.length∧p.2=k+sumL (xs.take p.1)) (fun p=>xs.length - p.1) (0,k) (by simp [sumL]) (Wk.cut (by simp) (by simp) rfl) ?_));clear hK K
 rintro ⟨i,k0⟩ ⟨hi,hk0⟩
 simp only at hi hk0;refine Q3 (srQ hN fun K hK=>?_);simp;refine hK _ ?_;clear hK K;refine Q7 rfl (fun h=>?_) fun h=>?_
 ·simp at h;refine Q8 (Q3 (Q6 ?_));have hm:(runs k xs)[i]'(by simpa using h)=run k0 xs[i].length:=by rw [Q97 _ _ _ h,hk0]
  have hs1:=Q7E xs i h;have hs2:=sumL_le xs (i+1);refine srQ hN fun K hK=>?_;simp [h,hm];refine Q0 (c53 true (run k0 xs[i].length) k0 (by simpa using h1' _ (zJ h)) (by omega) (by omega)) (.cons .lst (.cons .val .nil)) ?_;simp [unk,unA,unE,flat];refine hK _ ?_;clear hK K;refine srQ hN fun K hK=>?_;simp;refine hK _ ?_;clear hK K;refine Q7 rfl (fun g=>?_) fun g=>?_
  ·simp at g;omega
  refine Q8 (runQ hN fun K hK=>?_);simp;refine hK _ ?_;clear hK K;rw [Qh (n:=xs.length) (by omega) (by omega)];refine ⟨(i+1,k0+xs[i].length),⟨by dsimp only;omega,by dsimp only;omega⟩,by dsimp only;omega,rbQ hP []⟩
 simp at h;refine Qk ?_;simp;have hi':i=xs.length:=by omega
 rw [hi',List.take_length] at hk0;refine srQ hN fun K hK=>?_;simp;refine hK _ ?_;clear hK K;refine Qg (Qc rfl (by rw [hk0]))
def Cat.mark (k:Int) (c:Cat):Cat:=⟨c.n,run k c.fr.length,run (k+c.fr.length) c.to.length,run (k+c.fr.length+c.to.length) c.id.length,runs (k+c.fr.length+c.to.length+c.id.length) c.cs⟩
def SF.mark (k:Int) (f:SF):SF:=⟨f.s.mark k,run (k+f.s.size) f.sz.length,runs (k+f.s.size+f.sz.length) f.ac⟩
def SF.size (f:SF):Nat:=f.s.size+f.sz.length+sumL f.ac
def SF.ok (f:SF):Prop:=f.s.ok∧f.sz.length≤1048576∧f.ac.length≤1048576∧(∀ xs∈f.ac,xs.length≤1048576)∧sumL f.ac≤1099511627776
theorem c36 [Kd Tryz.prog] (u:Bool) (c:Cat) (k:Int) (hc:c.ok) (h2:0≤k) (h3:k+c.size≤1152921504606846976):Contract Tryz.prog 54 [.agg ((c.mark k).cells u),iV k] (iV (k+c.size)):=by
 obtain ⟨hc1,hc2,hc3,hc4,hc5,hc6⟩:=hc;have hz:c.size=c.fr.length+c.to.length+c.id.length+sumL c.cs:=rfl;refine Q4 (rs:=[iV (k+c.size)]) Tryz.func54 rfl rfl rfl rfl (by simp [Tryz.f54]) fun F hN hP=>?_;refine srQ hN fun K hK=>?_;simp [Cat.cells,Cat.mark];refine hK _ ?_;clear hK K;refine srQ hN fun K hK=>?_;simp;refine Q0 (c53 u (run (k) c.fr.length) (k) (by simpa using hc1) (by omega) (by omega)) (.cons .lst (.cons .val .nil)) ?_;simp [unk,unA,unE,flat];refine hK _ ?_;clear hK K;refine Q3 (srQ hN fun K hK=>?_);simp;refine hK _ ?_;clear hK K;refine Q7 rfl (fun g=>?_) fun g=>?_
 ·simp at g;omega
 refine Q8 (srQ hN fun K hK=>?_);simp;refine Q0 (c53 u (run (k+c.fr.length) c.to.length) (k+c.fr.length) (by simpa using hc2) (by omega) (by omega)) (.cons .lst (.cons .val .nil)) ?_;simp [unk,unA,unE,flat];refine hK _ ?_;clear hK K;refine Q3 (srQ hN fun K hK=>?_);simp;refine hK _ ?_;clear hK K;refine Q7 rfl (fun g=>?_) fun g=>?_
 ·simp at g;omega
 refine Q8 (srQ hN fun K hK=>?_);simp;refine Q0 (c53 u (run (k+c.fr.length+c.to.length) c.id.length) (k+c.fr.length+c.to.length) (by simpa using hc3) (by omega) (by omega)) (.cons .lst (.cons .val .nil)) ?_;simp [unk,unA,unE,flat];refine hK _ ?_;clear hK K;refine Q3 (srQ hN fun K hK=>?_);simp;refine hK _ ?_;clear hK K;refine Q7 rfl (fun g=>?_) fun g=>?_
 ·simp at g;omega
 refine Q8 (srQ hN fun K hK=>?_);simp;refine Q0 (c54 u c.cs (k+c.fr.length+c.to.length+c.id.length) hc4 hc5 (by omega) (by omega)) (.cons .lst (.cons .val .nil)) ?_;simp [unk,unA,unE,flat];refine hK _ ?_;clear hK K;refine Q3 (srQ hN fun K hK=>?_);simp;refine hK _ ?_;clear hK K;refine Q7 rfl (fun g=>?_) fun g=>?_
 ·simp at g;omega
 refine Q8 (srQ hN fun K hK=>?_);simp;refine hK _ (Qg (Qc rfl ?_));clear hK K;simp [Cat.size,Int.add_assoc]
def SF.mu (f:SF) (k:Int):List Mu :=
 [⟨1,Is f.s.fr,Is (run k f.s.fr.length)⟩,⟨1,Is f.s.to,Is (run (k+f.s.fr.length) f.s.to.length)⟩,⟨1,Is f.s.id,Is (run (k+f.s.fr.length+f.s.to.length) f.s.id.length)⟩,
  ⟨1,Ls f.s.cs,Ls (runs (k+f.s.fr.length+f.s.to.length+f.s.id.length) f.s.cs)⟩,⟨1,Is f.sz,Is (run (k+f.s.size) f.sz.length)⟩,⟨1,Ls f.ac,Ls (runs (k+f.s.size+f.sz.length) f.ac)⟩]
theorem m10 [Kd Tryz.prog] (f:SF) (k:Int) (hf:f.ok) (h2:0≤k) (h3:k+f.size≤576460752303423488) :
  MContract Tryz.prog 18 [.agg [iV f.s.n,.own 0 0 f.s.fr.length,.own 1 0 f.s.to.length,.own 2 0 f.s.id.length,.own 3 0 f.s.cs.length,.own 4 0 f.sz.length,.own 5 0 f.ac.length],iV k] (f.mu k) (iV (k+f.size)):=by
 obtain ⟨hf1,hf2,hf3,hf4,hf5⟩:=hf;have hz:f.size=f.s.size+f.sz.length+sumL f.ac:=rfl;refine Q1h (ts:=[4]) (rv:=.int .i64 (k+f.size)) Tryz.func18 rfl rfl ?_ rfl (by simp [Tryz.f18]) ?_ fun F hN hP=>?_
 ·have:(-9223372036854775808≤k+f.size)∧k+f.size≤9223372036854775807:=by omega
  simp [resV,this]
 ·intro j hj;simp only [SF.mu,qI,zD] at hj
  match j,hj with
  | 0,_=>simp [SF.mu]
  | 1,_=>simp [SF.mu]
  | 2,_=>simp [SF.mu]
  | 3,_=>simp [SF.mu]
  | 4,_=>simp [SF.mu]
  | 5,_=>simp [SF.mu]
 refine srQ hN fun K hK=>?_;simp [Q4t,SF.mu];refine hK _ ?_;clear hK K;refine Q4l mo (by rw [hN];decide) fun K hK=>?_;simp;refine Q1O (m:=[0,1,2,3]) (m31 f.s k hf1 (by omega) (by omega)) (by decide) (.cons rfl (.cons rfl (.cons rfl (.cons rfl .nil)))) (.cons (.aggL (.cons .val (.cons (.own (j:=0) (by decide)) (.cons (.own (j:=1) (by decide)) (.cons (.own (j:=2) (by decide)) (.cons (.own (j:=3) (by decide)) .nil)))))) (.cons .val .nil)) rfl (by simp) ?_;simp [Q3K,Cat.mu];refine hK _ ?_;clear hK K;rw [show k+f.s.fr.length+f.s.to.length+f.s.id.length+sumL f.s.cs=k+f.s.size by simp [Cat.size,Int.add_assoc]];refine Q4l mo (by rw [hN];decide) fun K hK=>?_;simp;refine Q1E (m32 f.sz (k+f.s.size) hf2 (by omega) (by omega)) rfl (by simp) ?_;simp;refine hK _ ?_;clear hK K;refine Q4l mo (by rw [hN];decide) fun K hK=>?_;simp;refine Q1E (m33 f.ac (k+f.s.size+f.sz.length) hf3 hf4 (by omega) (by omega)) rfl (by simp) ?_;simp;refine hK _ ?_;clear hK K;refine srQ hN fun K hK=>?_;simp;refine hK _ ?_;clear hK K;refine Qg (mret ?_ ?_)
 ·simp [hz,Int.add_assoc]
 exact .cons rfl (.cons rfl (.cons rfl (.cons rfl (.cons rfl (.cons rfl (.nil))))))
theorem c6 [Kd Tryz.prog] (u:Bool) (f:SF) (hf:f.ok):Contract Tryz.prog 12 [.agg (f.cells u)] (.agg (f.cells true)):=by
 obtain ⟨hf1,hf2,hf3,hf4,hf5⟩:=hf;refine Q16 Tryz.func12 rfl rfl y37 rfl rfl (by simp [Tryz.f12]) fun F hN hP=>?_;refine srQ hN fun K hK=>?_;simp [SF.cells];refine hK _ ?_;clear hK K;refine srQ hN fun K hK=>?_;simp;refine hK _ ?_;clear hK K;refine srQ hN fun K hK=>?_;simp;refine Q0 (c18 f.s u hf1) (.cons (.aggL Cat.pur) .nil) ?_;simp [unk,unA,unE,unC,flat,Cat.av];refine hK _ ?_;clear hK K;refine srQ hN fun K hK=>?_;simp;refine Q0 (c19 u f.sz hf2) (.cons .lst .nil) ?_;simp [unk,unA,unE,flat];refine hK _ ?_;clear hK K;refine srQ hN fun K hK=>?_;simp;refine Q0 (c20 u f.ac hf3 hf4) (.cons .lst .nil) ?_;simp [unk,unA,unE,flat];refine hK _ ?_;clear hK K;refine srQ hN fun K hK=>?_;simp;refine hK _ (Qg ⟨_,_,_,_,_,rfl,rfl,by simp,by simp,?_⟩);clear hK K;exact ⟨.agg rfl .nil,[iV f.s.n,lI f.s.fr,lI f.s.to,lI f.s.id,.lst true 1 (Ls f.s.cs),lI f.sz,.lst true 1 (Ls f.ac)],[4,5,6,7,8,9],by simp,by simp,UpL.refl _⟩
theorem Q5X {a b:Int} {f:Int→Int} (hf:∀ x,a=x→0≤x→f x≤b) (hb : -1≤b):nn a f≤b:=by
 unfold nn;split
 ·exact hb
 exact hf a rfl (by omega)
theorem lessS_le (xs:List (List Int)):∀ l:Int,l≤1048576→Q4T l xs≤1048576:=by
 induction xs with
 | nil=>intro l h;simpa [Q4T] using h
 | cons x r ih=>intro l h;simp only [Q4T];split<;>first|omega|(exact ih _ (Q2U h))
theorem Q45 {l:Int} {xs:List (List Int)} (h:l≤1048576):Q2s l xs≤1048576:=by
 unfold Q2s;split
 ·omega
 exact lessS_le _ _ (by omega)
theorem Q57 {l:Int} {c:Cat} (h:l≤1048576):Q4w l c≤1048576 :=
 Q5X (fun x hx _=>Q5X (fun y hy _=>Q5X (fun z hz _=>Q5X (fun w hw _=>by rw [← hw];exact Q45 (by rw [← hz];exact Q2U (by rw [← hy];exact Q2U (by rw [← hx];exact Q2U h)))) (by decide)) (by decide)) (by decide)) (by decide)
def szSF (l:Int) (f:SF):Int:=nn (Q4w l f.s) fun a=>nn (less a f.sz.length) fun b=>nn (Q2s b f.ac) fun e=>e
theorem c4 [Kd Tryz.prog] (u:Bool) (f:SF) (l:Int) (h1:0≤l) (h2:l≤1048576):Contract Tryz.prog 9 [.agg (f.cells u),iV l] (iV (szSF l f)):=by
 refine Q4 (rs:=[iV (szSF l f)]) Tryz.func9 rfl rfl rfl rfl (by simp [Tryz.f9]) fun F hN hP=>?_;refine srQ hN fun K hK=>?_;simp [SF.cells];refine hK _ ?_;clear hK K;refine srQ hN fun K hK=>?_;simp;refine Q0 (c13 u f.s l h1 h2) (.cons (.aggL Cat.pur) (.cons .val .nil)) ?_;simp [unk,unA,unE,flat];refine hK _ ?_;clear hK K;refine Q3 (srQ hN fun K hK=>?_);simp;refine hK _ ?_;clear hK K;refine Q7 rfl (fun g1=>?_) fun g1=>?_
 ·simp at g1;refine srQ hN fun K hK=>?_;simp;refine hK _ (Qg (Qc rfl ?_));clear hK K;simp only [szSF,nn];rw [if_pos g1]
 simp at g1;refine Q8 (srQ hN fun K hK=>?_);simp;refine Q0 (c14 u f.sz (Q4w l f.s) g1 (Q57 h2)) (.cons .lst (.cons .val .nil)) ?_;simp [unk,unA,unE,flat];refine hK _ ?_;clear hK K;refine Q3 (srQ hN fun K hK=>?_);simp;refine hK _ ?_;clear hK K;refine Q7 rfl (fun g2=>?_) fun g2=>?_
 ·simp at g2;refine srQ hN fun K hK=>?_;simp;refine hK _ (Qg (Qc rfl ?_));clear hK K;simp only [szSF,nn];rw [if_neg (Int.not_lt.2 g1),if_pos g2]
 simp at g2;refine Q8 (srQ hN fun K hK=>?_);simp;refine Q0 (c15 u f.ac (less (Q4w l f.s) f.sz.length) g2 (Q2U (Q57 h2))) (.cons .lst (.cons .val .nil)) ?_;simp [unk,unA,unE,flat];refine hK _ ?_;clear hK K;refine Q3 (srQ hN fun K hK=>?_);simp;refine hK _ ?_;clear hK K;refine Q7 rfl (fun g3=>?_) fun g3=>?_
 ·simp at g3;refine srQ hN fun K hK=>?_;simp;refine hK _ (Qg (Qc rfl ?_));clear hK K;simp only [szSF,nn];rw [if_neg (Int.not_lt.2 g1),if_neg (Int.not_lt.2 g2),if_pos g3]
 simp at g3;refine Q8 (srQ hN fun K hK=>?_);simp;refine hK _ (Qg (Qc rfl ?_));clear hK K;simp only [szSF,nn];rw [if_neg (Int.not_lt.2 g1),if_neg (Int.not_lt.2 g2),if_neg (Int.not_lt.2 g3)]
theorem c56 [Kd Tryz.prog] (x a b:Int):Contract Tryz.prog 163 [iV x,iV a,iV b] (.val (.bool (decide (a≤x) && decide (x≤b)))):=by
 refine Q4 (rs:=[.val (.bool (decide (a≤x) && decide (x≤b)))]) Tryz.func163 rfl rfl rfl rfl (by simp [Tryz.f163]) fun F hN hP=>?_;refine srQ hN fun K hK=>?_;simp;refine hK _ ?_;clear hK K;refine srQ hN fun K hK=>?_;simp;refine ⟨fun h=>hK _ (Qg (Qc rfl ?_)),fun h=>hK _ (Qg (Qc rfl ?_))⟩<;>clear hK K
 ·simp [h]
 simp;omega
theorem c57 [Kd Tryz.prog] (u:Bool) (xs:List Int) (n:Int):Contract Tryz.prog 127 [iV n,.lst u 1 (Is xs)] (.val (.bool (xs.all (inR n)))):=by
 refine Q4 (rs:=[.val (.bool (xs.all (inR n)))]) Tryz.func127 rfl rfl rfl rfl (by simp [Tryz.f127]) fun F hN hP=>?_;refine Q4j 1 fun h0=>?_;simp at h0;obtain ⟨hl0,hb0⟩:=h0.is;refine srQ hN fun K hK=>?_;simp;refine hK _ ?_;clear hK K;refine Q3 (srQ hN fun K hK=>?_);simp;refine hK _ (Q6 (Qr (fun i:Nat=>⟨[(0,iV n),(1,.lst u 1 (Is xs)),(5,iV i)],[],0⟩) (fun i=>i≤xs.length∧(xs.take i).all (inR n)=true) (fun i=>xs.length - i) 0 (by simp) (Wk.cut (by simp) (by simp) rfl) ?_));clear hK K
 rintro i ⟨hi,ht⟩
 refine Q3 (srQ hN fun K hK=>?_);simp;refine hK _ ?_;clear hK K;refine Q7 rfl (fun h=>?_) fun h=>?_
 ·simp at h;refine Q8 (Q3 (Q6 (srQ hN fun K hK=>?_)));simp [h];refine ⟨fun h1=>hK _ ?_,fun h1=>hK _ ?_⟩<;>clear hK K
  ·refine Q7 rfl (fun h2=>?_) fun h2=>?_
   ·simp at h2;refine srQ hN fun K hK=>?_;simp;refine hK _ (Qg (Qc rfl ?_));clear hK K;rw [Q8c h];simp [inR];omega
   simp at h2;refine Q8 (runQ hN fun K hK=>?_);simp;refine hK _ ?_;clear hK K;rw [Qh (n:=xs.length) (by omega) (by omega)];refine ⟨i+1,⟨by omega,Q8F h ht (by simp [inR];omega)⟩,by dsimp only;omega,Wk.cut (by simp) (by simp) rfl⟩
  refine Q7 rfl (fun _=>?_) fun h=>by simp at h
  refine srQ hN fun K hK=>?_;simp;refine hK _ (Qg (Qc rfl ?_));clear hK K;rw [Q8c h];simp [inR];omega
 simp at h;refine Qk ?_;simp;have hi':i=xs.length:=by omega
 subst hi';rw [List.take_length] at ht;refine srQ hN fun K hK=>?_;simp;refine hK _ (Qg (Qc rfl ?_));clear hK K;rw [ht]
theorem c58 [Kd Tryz.prog] (u:Bool) (xs:List Int) (hx:xs.length≤1048576):Contract Tryz.prog 88 [.lst u 1 (Is xs)] (lI xs):=by
 refine Q4 (rs:=[lI xs]) Tryz.func88 rfl rfl rfl rfl (by simp [Tryz.f88]) fun F hN hP=>?_;refine srQ hN fun K hK=>?_;simp;refine hK _ ?_;clear hK K;refine srQ hN fun K hK=>?_;simp;refine ⟨⟨?_,by omega,by omega⟩,hK _ ?_⟩
 ·intro e he c hc;obtain ⟨x,_,rfl⟩:=List.mem_map.1 he;simp at hc;subst hc;rfl
 clear hK K;refine Qg (Q3J rfl rfl (by simp) (by simp))
theorem c47 [Kd Tryz.prog] (u:Bool) (xs:List Int) (hx:xs.length≤1048576):Contract Tryz.prog 158 [.lst u 1 (Is xs)] (lI xs):=by
 refine Q4 (rs:=[lI xs]) Tryz.func158 rfl rfl rfl rfl (by simp [Tryz.f158]) fun F hN hP=>?_;refine srQ hN fun K hK=>?_;simp;refine hK _ ?_;clear hK K;refine srQ hN fun K hK=>?_;simp;refine ⟨⟨?_,by omega,by omega⟩,hK _ ?_⟩
 ·intro e he c hc;obtain ⟨x,_,rfl⟩:=List.mem_map.1 he;simp at hc;subst hc;rfl
 clear hK K;refine Qg (Q3J rfl rfl (by simp) (by simp))
theorem c59 [Kd Tryz.prog] (u:Bool) (xs:List (List Int)) (hx:xs.length≤1048576) (hx':∀ x∈xs,x.length≤1048576):Contract Tryz.prog 43 [.lst u 1 (Ls xs)] (.lst true 1 (Ls xs)):=by
 refine Q4 (rs:=[.lst true 1 (Ls xs)]) Tryz.func43 rfl rfl rfl rfl (by simp [Tryz.f43]) fun F hN hP=>?_;refine srQ hN fun K hK=>?_;simp;refine hK _ ?_;clear hK K;refine srQ hN fun K hK=>?_;simp;refine hK _ ?_;clear hK K;refine Q3 (srQ hN fun K hK=>?_);simp;refine hK _ (Q6 (Qr (fun i:Nat=>⟨[(0,.lst u 1 (Ls xs)),(3,.own 0 0 i),(4,iV i)],[(0,.row 1 (Ls (xs.take i)))],1⟩) (fun i=>i≤xs.length) (fun i=>xs.length - i) 0 (by simp) (Wk.nils [] (by simp) (by simp) (by simp [nlA]) (by simp [entN,Ls]) (by simp)) ?_));clear hK K;intro i hi;refine Q3 (srQ hN fun K hK=>?_);simp;refine hK _ ?_;clear hK K;refine Q7 rfl (fun h=>?_) fun h=>?_
 ·simp at h;refine Q8 (Q3 (Q6 (runQ hN fun K hK=>?_)));simp [h];refine Q0 (c58 true xs[i] (hx' _ (zJ h))) (.cons .lst .nil) ?_;simp [unk,unA,unE,flat];refine ⟨by omega,hK _ ?_⟩;clear hK K;refine runQ hN fun K hK=>?_;simp;refine hK _ ?_;clear hK K;rw [Qh (n:=xs.length) (by omega) (by omega)];rw [Nat.min_eq_left hi,zI (l:=Ls (List.take i xs)) (by simp;omega),Q7N h];refine ⟨i+1,by omega,by dsimp only;omega,rbQ hP [(3,0)]⟩
 simp at h;refine Qk ?_;simp;refine srQ hN fun K hK=>?_;simp;refine hK _ ?_;clear hK K;have hi':i=xs.length:=by omega
 subst hi';refine Qg (Q3J rfl rfl (by simp) (by simp))
theorem c48 [Kd Tryz.prog] (u:Bool) (xs:List (List Int)) (hx:xs.length≤1048576) (hx':∀ x∈xs,x.length≤1048576):Contract Tryz.prog 123 [.lst u 1 (Ls xs)] (.lst true 1 (Ls xs)):=by
 refine Q4 (rs:=[.lst true 1 (Ls xs)]) Tryz.func123 rfl rfl rfl rfl (by simp [Tryz.f123]) fun F hN hP=>?_;refine srQ hN fun K hK=>?_;simp;refine hK _ ?_;clear hK K;refine srQ hN fun K hK=>?_;simp;refine ⟨by omega,hK _ ?_⟩;clear hK K;refine Q3 (srQ hN fun K hK=>?_);simp;refine hK _ (Q6 (Qr (fun i:Nat=>⟨[(0,.lst u 1 (Ls xs)),(3,.own 0 0 i),(9,.lst u 1 (Ls xs)),(10,iV xs.length),(11,iV i)],[(0,.row 1 (Ls (xs.take i)))],1⟩) (fun i=>i≤xs.length) (fun i=>xs.length - i) 0 (by simp) (Wk.cut (by simp) (by simp [Ls]) rfl) ?_));clear hK K;intro i hi;refine srQ hN fun K hK=>?_;simp;refine hK _ ?_;clear hK K;refine Q3 (Q7 rfl (fun h=>?_) fun h=>?_)
 ·simp at h;refine Q8 (Q3 (Q6 (srQ hN fun K hK=>?_)));simp [h];refine hK _ ?_;clear hK K;refine runQ hN fun K hK=>?_;simp;refine Q0 (c47 true xs[i] (hx' _ (zJ h))) (.cons .lst .nil) ?_;simp [unk,unA,unE,flat];refine ⟨by omega,hK _ ?_⟩;clear hK K;refine runQ hN fun K hK=>?_;simp;refine hK _ ?_;clear hK K;rw [Qh (n:=xs.length) (by omega) (by omega)];rw [Nat.min_eq_left hi,zI (l:=Ls (List.take i xs)) (by simp;omega),Q7N h];refine ⟨i+1,by omega,by dsimp only;omega,rbQ hP [(3,0)]⟩
 simp at h;refine Qk ?_;simp;refine srQ hN fun K hK=>?_;simp;refine hK _ ?_;clear hK K;have hi':i=xs.length:=by omega
 subst hi';refine Qg (Q3J rfl rfl (by simp) (by simp))
@[simp] theorem pl29:Q4I Tryz.prog 32=some [(0,1),(1,1),(2,1),(3,1),(4,1)]:=by kernel_rfl
@[simp] theorem pl86:Q4I Tryz.prog 191=some [(0,1),(1,1)]:=by kernel_rfl
@[simp] theorem y86:tyi Tryz.prog 191=some ⟨true,2,16,[.int .i64 0,.int .i64 0]⟩:=by kernel_rfl
@[simp] theorem q86:eqT Tryz.prog 191=4:=by kernel_rfl
def iota (n:Nat):List Int:=(List.range n).map fun i:Nat=>(i:Int)
@[simp] theorem iota_length (n:Nat):(iota n).length=n:=by simp [iota]
theorem iota_succ (n:Nat):iota (n+1)=iota n++[(n:Int)]:=by simp [iota,List.range_succ]
theorem c61 [Kd Tryz.prog] (u:Bool) (c:Cat) (tl:List AV):Contract Tryz.prog 165 [.rptr (c.cells u++tl)] (iV c.fr.length):=by
 refine Q4 (rs:=[iV c.fr.length]) Tryz.func165 rfl rfl rfl rfl (by simp [Tryz.f165]) fun F hN hP=>?_;refine srQ hN fun K hK=>?_;simp [Cat.cells];refine hK _ ?_;clear hK K;refine srQ hN fun K hK=>?_;simp [Cat.cells];refine hK _ ?_;clear hK K;refine Qg (Qc rfl rfl)
theorem c67 [Kd Tryz.prog] (u:Bool) (xs:List Int) (m n:Int):Contract Tryz.prog 179 [.lst u 1 (Is xs),iV m,iV n] (.val (.bool (decide ((xs.length:Int)=m) && xs.all (inR n)))):=by
 refine Q4 (rs:=[.val (.bool (decide ((xs.length:Int)=m) && xs.all (inR n)))]) Tryz.func179 rfl rfl rfl rfl (by simp [Tryz.f179]) fun F hN hP=>?_;refine srQ hN fun K hK=>?_;simp;refine hK _ ?_;clear hK K;refine srQ hN fun K hK=>?_;simp;refine ⟨fun h=>?_,fun h=>hK _ (Qg (Qc rfl ?_))⟩
 ·refine Q0 (c57 u xs n) (.cons .val (.cons .lst .nil)) ?_;simp [unk,unA,unE,flat];refine hK _ (Qg (Qc rfl ?_));simp [h]
 simp [h]
theorem c62 [Kd Tryz.prog] (u:Bool) (xs:List Int) (m n:Int) (hn:B64 (n - 1)):Contract Tryz.prog 166 [.lst u 1 (Is xs),iV m,iV n] (.val (.bool (decide ((xs.length:Int)=m) && xs.all (inR n)))):=by
 refine Q4 (rs:=[.val (.bool (decide ((xs.length:Int)=m) && xs.all (inR n)))]) Tryz.func166 rfl rfl rfl rfl (by simp [Tryz.f166]) fun F hN hP=>?_;refine srQ hN fun K hK=>?_;simp;refine hK _ ?_;clear hK K;refine srQ hN fun K hK=>?_;simp;refine ⟨fun h=>?_,fun h=>hK _ (Qg (Qc rfl ?_))⟩
 ·refine Q0 (c22 u xs n hn) (.cons .lst (.cons .val .nil)) ?_;simp [unk,unA,unE,flat];refine hK _ (Qg (Qc rfl ?_));simp [h]
 simp [h]
theorem c41 [Kd Tryz.prog] (u:Bool) (c:Cat) (hc:c.ok):Contract Tryz.prog 87 [.agg (c.cells u)] (.agg (c.cells true)):=by
 obtain ⟨hc1,hc2,hc3,hc4,hc5,hc6⟩:=hc;refine Q16 Tryz.func87 rfl rfl y29 rfl rfl (by simp [Tryz.f87]) fun F hN hP=>?_;refine srQ hN fun K hK=>?_;simp [Cat.cells];refine hK _ ?_;clear hK K;refine srQ hN fun K hK=>?_;simp;refine Q0 (c58 u c.fr hc1) (.cons .lst .nil) ?_;simp [unk,unA,unE,unC,flat];refine Q0 (c58 u c.to hc2) (.cons .lst .nil) ?_;simp [unk,unA,unE,unC,flat];refine Q0 (c58 u c.id hc3) (.cons .lst .nil) ?_;simp [unk,unA,unE,unC,flat];refine Q0 (c59 u c.cs hc4 hc5) (.cons .lst .nil) ?_;simp [unk,unA,unE,unC,flat];refine hK _ (Qg ⟨_,_,_,_,_,rfl,rfl,by simp,by simp,?_⟩);clear hK K;exact ⟨.agg rfl .nil,[iV c.n,lI c.fr,lI c.to,lI c.id,.lst true 1 (Ls c.cs)],[2,3,4,5],by simp,by simp,UpL.refl _⟩
theorem c23 [Kd Tryz.prog] (u:Bool) (c:Cat) (tl:List AV) (hc:c.ok):Contract Tryz.prog 102 [.rptr (c.cells u++tl)] (.agg (c.cells true)):=by
 obtain ⟨hc1,hc2,hc3,hc4,hc5,hc6⟩:=hc;refine Q16 Tryz.func102 rfl rfl y29 rfl rfl (by simp [Tryz.f102]) fun F hN hP=>?_;refine srQ hN fun K hK=>?_;simp [Cat.cells];refine hK _ ?_;clear hK K;refine srQ hN fun K hK=>?_;simp;refine Q0 (c47 u c.fr hc1) (.cons .lst .nil) ?_;simp [unk,unA,unE,unC,flat];refine Q0 (c47 u c.to hc2) (.cons .lst .nil) ?_;simp [unk,unA,unE,unC,flat];refine Q0 (c47 u c.id hc3) (.cons .lst .nil) ?_;simp [unk,unA,unE,unC,flat];refine Q0 (c48 u c.cs hc4 hc5) (.cons .lst .nil) ?_;simp [unk,unA,unE,unC,flat];refine hK _ (Qg ⟨_,_,_,_,_,rfl,rfl,by simp,by simp,?_⟩);clear hK K;exact ⟨.agg rfl .nil,[iV c.n,lI c.fr,lI c.to,lI c.id,.lst true 1 (Ls c.cs)],[1,2,3,4],by simp,by simp,UpL.refl _⟩
end
section
attribute [local simp] Qd Qt Ql QS Qv
def ix (xs:List Int) (j:Int):Int:=xs.getD j.toNat 0
def rx (xss:List (List Int)) (j:Int):List Int:=xss.getD j.toNat []
theorem QP (xs:List Int) (i:Nat) (h:i<xs.length):xs[i]=ix xs i:=by simp [ix,qG,h]
theorem QX (xs:List (List Int)) (i:Nat) (h:i<xs.length):xs[i]=rx xs i:=by simp [rx,qG,h]
theorem QA (xs:List Int) (j:Int):ix xs (max j 0)=ix xs j:=by simp only [ix];congr 1;omega
theorem QB (xs:List (List Int)) (j:Int):rx xs (max j 0)=rx xs j:=by simp only [rx];congr 1;omega
theorem Q1o {xs:List Int} {n j:Int} (h:∀ x∈xs,inR n x=true) (h0:0≤j) (h1:j<xs.length):0≤ix xs j∧ix xs j<n:=by
 have hj:j.toNat<xs.length:=by omega
 have:=h _ (zJ hj);simp only [inR,Bool.and_eq_true,decide_eq_true_eq] at this;simp only [ix,qG,qJ hj,Option.getD_some];omega
def Cat.cell (c:Cat) (f g:Nat):Prop:=(ix c.to f ≠ ix c.fr g→ix (rx c.cs f) g = -1) ∧
 (ix c.to f=ix c.fr g→0≤ix (rx c.cs f) g∧ix (rx c.cs f) g<c.fr.length∧ix c.fr (ix (rx c.cs f) g)=ix c.fr f∧ix c.to (ix (rx c.cs f) g)=ix c.to g)
structure Cat.Sh (c:Cat):Prop where
 n0:0≤c.n
 n8:c.n≤8
 m40:c.fr.length≤40
 lt:c.to.length=c.fr.length
 fr:(∀ x∈c.fr,inR c.n x=true)
 to:(∀ x∈c.to,inR c.n x=true)
 lc:c.cs.length=c.fr.length
 li:(c.id.length:Int)=c.n
 id:(∀ x∈c.id,inR c.fr.length x=true)
 ids:∀ x:Nat,x<c.id.length→ix c.fr (ix c.id x)=x∧ix c.to (ix c.id x)=x
 rows:∀ f:Nat,f<c.fr.length→(rx c.cs f).length=c.fr.length∧∀ g:Nat,g<c.fr.length→c.cell f g
open Classical in
noncomputable def bo (p:Prop):Bool:=decide p
theorem bo_t {p:Prop} (h:p):Value.bool true=Value.bool (bo p):=by simp [bo,h]
theorem bo_f {p:Prop} (h:¬ p):Value.bool false=Value.bool (bo p):=by simp [bo,h]
theorem c69 [Kd Tryz.prog] (u:Bool) (c:Cat) (tl:List AV) (f g:Int) (h1:0≤f) (h2:f<c.cs.length) (h3:0≤g) (h4:g<(rx c.cs f).length):Contract Tryz.prog 181 [.rptr (c.cells u++tl),iV f,iV g] (iV (ix (rx c.cs f) g)):=by
 refine Q4 (rs:=[iV (ix (rx c.cs f) g)]) Tryz.func181 rfl rfl rfl rfl (by simp [Tryz.f181]) fun F hN hP=>?_;refine srQ hN fun K hK=>?_;simp;refine hK _ ?_;clear hK K;refine srQ hN fun K hK=>?_;simp [Cat.cells,QP,QX,QA,QB,h1,h2,h3,h4];refine hK _ ?_;clear hK K;refine Qg (Qc rfl rfl)
theorem c68 [Kd Tryz.prog] (u:Bool) (c:Cat) (tl:List AV) (f:Int) (h1:0≤f) (h2:f<c.fr.length) (h3:f<c.to.length):Contract Tryz.prog 180 [.rptr (c.cells u++tl),iV f] (.agg [iV (ix c.fr f),iV (ix c.to f)]):=by
 refine Q16 Tryz.func180 rfl rfl y86 rfl rfl (by simp [Tryz.f180]) fun F hN hP=>?_;refine srQ hN fun K hK=>?_;simp;refine hK _ ?_;clear hK K;refine srQ hN fun K hK=>?_;simp [Cat.cells,QP,QA,h1,h2,h3];refine hK _ (Qg ⟨_,_,_,_,_,rfl,rfl,by simp,by simp,?_⟩);clear hK K;exact ⟨.agg rfl .nil,[iV (ix c.fr f),iV (ix c.to f)],[],by simp,by simp,UpL.refl _⟩
theorem yes {C:Prop} (h:C):(true=true↔C):=⟨fun _=>h,fun _=>rfl⟩
def Cat.P1 (c:Cat):Prop:=0≤c.n∧c.n≤8∧c.fr.length≤40∧c.to.length=c.fr.length∧(∀ x∈c.fr,inR c.n x=true)∧(∀ x∈c.to,inR c.n x=true)∧c.cs.length=c.fr.length
def Cat.P2 (c:Cat):Prop:=(c.id.length:Int)=c.n∧(∀ x∈c.id,inR c.fr.length x=true)
def Cat.row (c:Cat) (f:Nat):Prop:=(rx c.cs f).length=c.fr.length∧∀ g:Nat,g<c.fr.length→c.cell f g
theorem Qp {P:Nat→Prop} {x:Nat} (h:∀ y,y<x→P y) (hx:P x):∀ y,y<x+1→P y:=by
 intro y hy;rcases Nat.lt_or_ge y x with h1|h1
 ·exact h y h1
 have:y=x:=by omega
 subst this;exact hx
theorem Cat.Sh.P1 {c:Cat} (h:c.Sh):c.P1:=⟨h.n0,h.n8,h.m40,h.lt,h.fr,h.to,h.lc⟩
theorem Cat.Sh.P2 {c:Cat} (h:c.Sh):c.P2:=⟨h.li,h.id⟩
@[simp] abbrev Ya (a:Cat) (b:Bool) (c:List (Nat × Ent)):List (Nat × Ent):=(0,.mix 5 [[iV a.n,.lst b 1 (Is a.fr),.lst b 1 (Is a.to),.lst b 1 (Is a.id),.lst b 1 (Ls a.cs)]])::c
@[simp] abbrev Yt (a:Cat) (b:List (Nat × AV)):List (Nat × AV):=(1,.adr 0 0 0)::(3,iV a.fr.length)::b
theorem c63 [Kd Tryz.prog] (u:Bool) (c:Cat):Contract Tryz.prog 175 [.agg (c.cells u)] (.val (.bool (bo c.Sh))):=by
 refine Q4 (rs:=[.val (.bool (bo c.Sh))]) Tryz.func175 rfl rfl rfl rfl (by simp [Tryz.f175]) fun F hN hP=>?_;refine srQ hN fun K hK=>?_;simp [Cat.cells];refine hK _ ?_;clear hK K;refine srQ hN fun K hK=>?_;simp;refine hK _ ?_;clear hK K;refine Q3 (srQ hN fun K hK=>?_);refine join hK (fun b=>⟨Yt c [(43,.val (.bool b))],Ya c u [],1⟩) (¬ c.P1) (fun hJ=>?_) fun b hb=>?_
 ·simp;refine Q0 (c56 c.n 0 8) (.cons .val (.cons .val (.cons .val .nil))) ?_;simp [unk,unA,unE,flat];refine ⟨fun a1 a2=>⟨fun a3=>?_,fun a3=>?_⟩,fun a1=>?_⟩
  ·refine Q0 (c67 u c.fr c.fr.length c.n) (.cons .lst (.cons .val (.cons .val .nil))) ?_;simp [unk,unA,unE,flat];refine ⟨fun a4=>?_,fun a4=>?_⟩
   ·refine Q0 (c67 u c.to c.fr.length c.n) (.cons .lst (.cons .val (.cons .val .nil))) ?_;simp [unk,unA,unE,flat];refine ⟨fun a5 a6=>?_,fun a5=>?_⟩
    ·exact hJ ((c.cs.length:Int) != c.fr.length) (by simp [Cat.P1];grind) _ (rbQ hP [(0,0)])
    intros;exact hJ (true) (yes fun hp=>by simp [Cat.P1] at hp;grind) _ (rbQ hP [(0,0)])
   intros;exact hJ (true) (yes fun hp=>by simp [Cat.P1] at hp;grind) _ (rbQ hP [(0,0)])
  ·exact hJ (true) (yes fun hp=>by have:=hp.2.2.1;omega) _ (rbQ hP [(0,0)])
  exact hJ (true) (yes fun hp=>by have:=hp.1;have:=hp.2.1;omega) _ (rbQ hP [(0,0)])
 clear hK K;refine Q7 rfl (fun h=>?_) fun h=>?_
 ·refine srQ hN fun K hK=>?_;simp;refine hK _ (Qg (Qc rfl (bo_f fun hs=>?_)));clear hK K;exact hb.1 h hs.P1
 have p1:c.P1:=zG fun hn=>by rw [hb.2 hn] at h;cases h
 refine Q8 (Q3 (srQ hN fun K hK=>?_));refine join hK (fun b=>⟨Yt c [(56,.val (.bool b))],Ya c u [],1⟩) (¬ c.P2) (fun hJ=>?_) fun b hb=>?_
 ·simp;refine ⟨fun a1=>?_,fun a1=>?_⟩
  ·refine Q0 (c57 u c.id c.fr.length) (.cons .val (.cons .lst .nil)) ?_;simp [unk,unA,unE,flat];exact hJ (!c.id.all (inR c.fr.length)) (by simp [Cat.P2,a1]) _ (rbQ hP [(0,0)])
  exact hJ (true) (yes fun hp=>a1 hp.1) _ (rbQ hP [(0,0)])
 clear hK K;refine Q7 rfl (fun h=>?_) fun h=>?_
 ·refine srQ hN fun K hK=>?_;simp;refine hK _ (Qg (Qc rfl (bo_f fun hs=>?_)));clear hK K;exact hb.1 h hs.P2
 have p2:c.P2:=zG fun hn=>by rw [hb.2 hn] at h;cases h
 have hl1:c.to.length=c.fr.length:=p1.2.2.2.1;have hl2:c.cs.length=c.fr.length:=p1.2.2.2.2.2.2;have hl3:(c.id.length:Int)=c.n:=p2.1;have hn8:c.n≤8:=p1.2.1;have hm40:c.fr.length≤40:=p1.2.2.1;refine Q8 (Q3 (srQ hN fun K hK=>?_));simp;refine hK _ (Q6 (Qr (fun x:Nat=>⟨Yt c [(4,iV x)],Ya c u [],1⟩) (fun x=>x≤c.id.length∧∀ y:Nat,y<x→ix c.fr (ix c.id y)=y∧ix c.to (ix c.id y)=y) (fun x=>c.id.length - x) 0 (by simp) (rbQ hP [(0,0)]) ?_));clear hK K
 rintro x ⟨hx,hi0⟩
 refine Q3 (srQ hN fun K hK=>?_);simp;refine hK _ ?_;clear hK K;refine Q7 rfl (fun h=>?_) fun h=>?_
 ·simp at h;have hx1:x<c.id.length:=by omega
  have b1:=Q1o p2.2 (j:=x) (by omega) (by omega);have b2:ix c.id x<c.to.length:=by omega
  refine Q8 (Q3 (Q6 (srQ hN fun K hK=>?_)));refine join hK (fun b=>⟨Yt c [(4,iV x),(86,.val (.bool b))],Ya c u [],1⟩) (¬ (ix c.fr (ix c.id x)=x∧ix c.to (ix c.id x)=x)) (fun hJ=>?_) fun b hb=>?_
  ·simp [QP,QX,QA,QB,hx1,b1.1,b1.2,b2];refine ⟨fun a1=>?_,fun a1=>?_⟩
   ·exact hJ (ix c.to (ix c.id x) != x) (by simp [a1]) _ (rbQ hP [(0,0)])
   exact hJ (true) (yes fun hp=>a1 hp.1) _ (rbQ hP [(0,0)])
  clear hK K;refine Q7 rfl (fun h=>?_) fun h=>?_
  ·refine srQ hN fun K hK=>?_;simp;refine hK _ (Qg (Qc rfl (bo_f fun hs=>?_)));clear hK K;exact hb.1 h (hs.ids x hx1)
  have hc:ix c.fr (ix c.id x)=x∧ix c.to (ix c.id x)=x:=zG fun hn=>by rw [hb.2 hn] at h;cases h
  refine Q8 (runQ hN fun K hK=>?_);simp;refine hK _ ?_;clear hK K;rw [Qh (n:=c.id.length) (by omega) (by omega)];refine ⟨x+1,⟨by omega,Qp hi0 hc⟩,by dsimp only;omega,(rbQ hP [(0,0)])⟩
 simp at h;have hx2:c.id.length≤x:=by omega
 clear h;refine Qk ?_;simp;refine Q3 (srQ hN fun K hK=>?_);simp;refine hK _ (Q6 ?_);clear hK K;have hi1:∀ y:Nat,y<c.id.length→ix c.fr (ix c.id y)=y∧ix c.to (ix c.id y)=y:=fun y hy=>hi0 y (by omega);refine Qr (fun f:Nat=>⟨Yt c [(5,iV f)],Ya c u [],1⟩) (fun f=>f≤c.fr.length∧∀ y:Nat,y<f→c.row y) (fun f=>c.fr.length - f) 0 (by simp) (rbQ hP [(0,0)]) ?_
 rintro f ⟨hf,hi2⟩
 refine Q3 (srQ hN fun K hK=>?_);simp;refine hK _ ?_;clear hK K;refine Q7 rfl (fun h=>?_) fun h=>?_
 ·simp at h;have hf1:f<c.fr.length:=h;clear h;refine Q8 (Q3 (Q6 (Q3 (srQ hN fun K hK=>?_))));simp [QP,QX,QA,QB,hl2,hf1];refine hK _ ?_;clear hK K;refine Q7 rfl (fun h=>?_) fun h=>?_
  ·simp at h;refine srQ hN fun K hK=>?_;simp;refine hK _ (Qg (Qc rfl (bo_f fun hs=>?_)));clear hK K;exact absurd (hs.rows f hf1).1 (by omega)
  simp at h;have hr:(rx c.cs f).length=c.fr.length:=by omega
  clear h;refine Q8 (srQ hN fun K hK=>?_);simp;refine hK _ (Q6 (Qr (fun g:Nat=>⟨Yt c [(5,iV f),(6,iV g)],Ya c u [],1⟩) (fun g=>g≤c.fr.length∧∀ y:Nat,y<g→c.cell f y) (fun g=>c.fr.length - g) 0 (by simp) (rbQ hP [(0,0)]) ?_));clear hK K
  rintro g ⟨hg,hi3⟩
  refine Q3 (srQ hN fun K hK=>?_);simp;refine hK _ ?_;clear hK K;refine Q7 rfl (fun h=>?_) fun h=>?_
  ·simp at h;have hg1:g<c.fr.length:=h;clear h;refine Q8 (Q3 (Q6 (srQ hN fun K hK=>?_)));simp [QP,QX,QA,QB,hl2,hf1,hr,hg1];refine hK _ ?_;clear hK K;refine Q3 (srQ hN fun K hK=>?_);simp [QP,QX,QA,QB,hl1,hf1,hg1];refine hK _ ?_;clear hK K;refine Q7 rfl (fun h1=>?_) fun h1=>?_
   ·simp at h1;refine Q3 (srQ hN fun K hK=>?_);simp;refine hK _ ?_;clear hK K;refine Q7 rfl (fun h2=>?_) fun h2=>?_
    ·simp at h2;refine srQ hN fun K hK=>?_;simp;refine hK _ (Qg (Qc rfl (bo_f fun hs=>?_)));clear hK K;exact h2 (((hs.rows f hf1).2 g hg1).1 h1)
    simp at h2;have hc:c.cell f g:=⟨fun _=>h2,fun e=>absurd e h1⟩;refine Q8 (Qk ?_);simp;refine runQ hN fun K hK=>?_;simp;refine hK _ ?_;clear hK K;rw [Qh (n:=c.fr.length) (by omega) (by omega)];refine ⟨g+1,⟨by omega,Qp hi3 hc⟩,by dsimp only;omega,(rbQ hP [(0,0)])⟩
   simp at h1;refine Q8 (srQ hN fun K hK=>?_);refine join hK (fun b=>⟨Yt c [(5,iV f),(6,iV g),(158,.val (.bool b))],Ya c u [],1⟩) (¬ c.cell f g) (fun hJ=>?_) fun b hb=>?_
   ·simp +contextual [QP,QX,QA,QB,hl1,hf1,hg1];have hcell:c.cell f g↔0≤ix (rx c.cs f) g∧ix (rx c.cs f) g<c.fr.length∧ix c.fr (ix (rx c.cs f) g)=ix c.fr f∧ix c.to (ix (rx c.cs f) g)=ix c.to g:=⟨fun q=>q.2 h1,fun q=>⟨fun e=>absurd h1 e,fun _=>q⟩⟩;rw [hcell] at hJ;refine ⟨fun a1=>⟨fun a2=>⟨fun a3=>?_,fun a3=>?_⟩,fun a2=>?_⟩,fun a1=>?_⟩
    ·exact hJ (ix c.to (ix (rx c.cs f) g) != ix c.to g) (by simp [a1,a2,a3]) _ (rbQ hP [(0,0)])
    ·exact hJ (true) (yes fun hp=>a3 hp.2.2.1) _ (rbQ hP [(0,0)])
    ·exact hJ (true) (yes fun hp=>by omega) _ (rbQ hP [(0,0)])
    exact hJ (true) (yes fun hp=>by omega) _ (rbQ hP [(0,0)])
   clear hK K;refine Q7 rfl (fun h=>?_) fun h=>?_
   ·refine srQ hN fun K hK=>?_;simp;refine hK _ (Qg (Qc rfl (bo_f fun hs=>?_)));clear hK K;exact hb.1 h ((hs.rows f hf1).2 g hg1)
   have hc:c.cell f g:=zG fun hn=>by rw [hb.2 hn] at h;cases h
   refine Q8 (runQ hN fun K hK=>?_);simp;refine hK _ ?_;clear hK K;rw [Qh (n:=c.fr.length) (by omega) (by omega)];refine ⟨g+1,⟨by omega,Qp hi3 hc⟩,by dsimp only;omega,(rbQ hP [(0,0)])⟩
  simp at h;have hg2:c.fr.length≤g:=by omega
  clear h;refine Qk ?_;simp;refine runQ hN fun K hK=>?_;simp;refine hK _ ?_;clear hK K;rw [Qh (n:=c.fr.length) (by omega) (by omega)];refine ⟨f+1,⟨by omega,Qp hi2 ⟨hr,fun y hy=>hi3 y (by omega)⟩⟩,by dsimp only;omega,(rbQ hP [(0,0)])⟩
 simp at h;have hf2:c.fr.length≤f:=by omega
 clear h;refine Qk ?_;simp;refine srQ hN fun K hK=>?_;simp;refine hK _ (Qg (Qc rfl (bo_t ?_)));clear hK K;exact ⟨p1.1,p1.2.1,p1.2.2.1,hl1,p1.2.2.2.2.1,p1.2.2.2.2.2.1,hl2,hl3,p2.2,hi1,fun y hy=>hi2 y (by omega)⟩
def Cat.Q1 (c:Cat):Prop:=0≤c.n∧c.n≤8∧c.fr.length≤40∧c.to.length=c.fr.length∧(∀ x∈c.fr,inR c.n x=true)∧(∀ x∈c.to,inR c.n x=true)
def Cat.Q2 (c:Cat):Prop:=(c.id.length:Int)=c.n∧(∀ x∈c.id,inR c.fr.length x=true)∧c.cs.length=c.fr.length
theorem Cat.Sh.Q1 {c:Cat} (h:c.Sh):c.Q1:=⟨h.n0,h.n8,h.m40,h.lt,h.fr,h.to⟩
theorem Cat.Sh.Q2 {c:Cat} (h:c.Sh):c.Q2:=⟨h.li,h.id,h.lc⟩
@[simp] abbrev Y6 (a:Cat) (b:Bool) (c:List AV) (d:List (Nat × AV)):List (Nat × AV):=(0,.rptr (iV a.n :: .lst b 1 (Is a.fr) :: .lst b 1 (Is a.to) :: .lst b 1 (Is a.id) :: .lst b 1 (Ls a.cs) :: c))::d
theorem c65 [Kd Tryz.prog] (u:Bool) (c:Cat) (tl:List AV):Contract Tryz.prog 177 [.rptr (c.cells u++tl)] (.val (.bool (bo c.Sh))):=by
 refine Q4 (rs:=[.val (.bool (bo c.Sh))]) Tryz.func177 rfl rfl rfl rfl (by simp [Tryz.f177]) fun F hN hP=>?_;simp only [Cat.cells,List.cons_append,List.nil_append];refine srQ hN fun K hK=>?_;simp [Cat.cells];refine hK _ ?_;clear hK K;refine srQ hN fun K hK=>?_;simp;refine Q0 (c61 u c tl) (.cons .rptr .nil) ?_;simp [unk,unA,unE,flat];refine hK _ ?_;clear hK K;refine Q3 (srQ hN fun K hK=>?_);refine join hK (fun b=>⟨Y6 c u tl [(3,iV c.fr.length),(54,.val (.bool b))],[],0⟩) (¬ c.Q1) (fun hJ=>?_) fun b hb=>?_
 ·simp [Cat.cells];refine Q0 (c46 c.n 0 8) (.cons .val (.cons .val (.cons .val .nil))) ?_;simp [unk,unA,unE,flat];refine ⟨fun a1 a2=>⟨fun a3=>⟨fun a7=>?_,fun a7=>?_⟩,fun a3=>?_⟩,fun a1=>?_⟩
  ·refine Q0 (c22 u c.fr c.n ⟨by omega,by omega⟩) (.cons .lst (.cons .val .nil)) ?_;simp [unk,unA,unE,flat];refine ⟨fun a4=>?_,fun a4=>?_⟩
   ·refine Q0 (c22 u c.to c.n ⟨by omega,by omega⟩) (.cons .lst (.cons .val .nil)) ?_;simp [unk,unA,unE,flat];exact hJ (!c.to.all (inR c.n)) (by simp [Cat.Q1];grind) _ (rbQ hP [])
   intros;exact hJ (true) (yes fun hp=>by simp [Cat.Q1] at hp;grind) _ (rbQ hP [])
  ·exact hJ (true) (yes fun hp=>by have:=hp.2.2.2.1;omega) _ (rbQ hP [])
  ·exact hJ (true) (yes fun hp=>by have:=hp.2.2.1;omega) _ (rbQ hP [])
  exact hJ (true) (yes fun hp=>by have:=hp.1;have:=hp.2.1;omega) _ (rbQ hP [])
 clear hK K;refine Q7 rfl (fun h=>?_) fun h=>?_
 ·refine srQ hN fun K hK=>?_;simp;refine hK _ (Qg (Qc rfl (bo_f fun hs=>?_)));clear hK K;exact hb.1 h hs.Q1
 have p1:c.Q1:=zG fun hn=>by rw [hb.2 hn] at h;cases h
 have hm40:c.fr.length≤40:=p1.2.2.1;refine Q8 (Q3 (srQ hN fun K hK=>?_));refine join hK (fun b=>⟨Y6 c u tl [(3,iV c.fr.length),(82,.val (.bool b))],[],0⟩) (¬ c.Q2) (fun hJ=>?_) fun b hb=>?_
 ·simp [Cat.cells];refine ⟨fun a1=>?_,fun a1=>?_⟩
  ·refine Q0 (c22 u c.id c.fr.length ⟨by omega,by omega⟩) (.cons .lst (.cons .val .nil)) ?_;simp [unk,unA,unE,flat];refine ⟨fun a2=>?_,fun a2=>?_⟩
   ·exact hJ ((c.cs.length:Int) != c.fr.length) (by simp [Cat.Q2];grind) _ (rbQ hP [])
   intros;exact hJ (true) (yes fun hp=>by simp [Cat.Q2] at hp;grind) _ (rbQ hP [])
  exact hJ (true) (yes fun hp=>a1 hp.1) _ (rbQ hP [])
 clear hK K;refine Q7 rfl (fun h=>?_) fun h=>?_
 ·refine srQ hN fun K hK=>?_;simp;refine hK _ (Qg (Qc rfl (bo_f fun hs=>?_)));clear hK K;exact hb.1 h hs.Q2
 have p2:c.Q2:=zG fun hn=>by rw [hb.2 hn] at h;cases h
 have hl1:c.to.length=c.fr.length:=p1.2.2.2.1;have hl2:c.cs.length=c.fr.length:=p2.2.2;have hl3:(c.id.length:Int)=c.n:=p2.1;have hn8:c.n≤8:=p1.2.1;refine Q8 (Q3 (srQ hN fun K hK=>?_));simp;refine hK _ (Q6 (Qr (fun x:Nat=>⟨Y6 c u tl [(3,iV c.fr.length),(86,.lst u 1 (Is c.id)),(87,iV c.id.length),(88,iV x)],[],0⟩) (fun x=>x≤c.id.length∧∀ y:Nat,y<x→ix c.fr (ix c.id y)=y∧ix c.to (ix c.id y)=y) (fun x=>c.id.length - x) 0 (by simp) (rbQ hP []) ?_));clear hK K
 rintro x ⟨hx,hi0⟩
 refine srQ hN fun K hK=>?_;simp;refine hK _ ?_;clear hK K;refine Q3 (Q7 rfl (fun h=>?_) fun h=>?_)
 ·simp at h;have hx1:x<c.id.length:=h;clear h;have b1:=Q1o p2.2.1 (j:=x) (by omega) (by omega);refine Q8 (Q3 (Q6 (srQ hN fun K hK=>?_)));simp [QP,QX,QA,QB,hx1];refine hK _ ?_;clear hK K;refine srQ hN fun K hK=>?_;simp;refine Q0 (c68 u c tl (ix c.id x) b1.1 b1.2 (by omega)) (.cons .rptr (.cons .val .nil)) ?_;simp [unk,unA,unE,unC,flat,Q1];refine hK _ ?_;clear hK K;refine Q7 rfl (fun h=>?_) fun h=>?_
  ·simp at h;refine srQ hN fun K hK=>?_;simp;refine hK _ (Qg (Qc rfl (bo_f fun hs=>?_)));clear hK K;have:=hs.ids x hx1;simp [this.1,this.2] at h
  simp at h;have hc:ix c.fr (ix c.id x)=x∧ix c.to (ix c.id x)=x:=h;refine Q8 (runQ hN fun K hK=>?_);simp;refine hK _ ?_;clear hK K;rw [Qh (n:=c.id.length) (by omega) (by omega)];refine ⟨x+1,⟨by omega,Qp hi0 hc⟩,by dsimp only;omega,(rbQ hP [])⟩
 simp at h;have hx2:c.id.length≤x:=by omega
 clear h;refine Qk ?_;simp;refine Q3 (srQ hN fun K hK=>?_);simp [hl2];refine hK _ (Q6 ?_);clear hK K;have hi1:∀ y:Nat,y<c.id.length→ix c.fr (ix c.id y)=y∧ix c.to (ix c.id y)=y:=fun y hy=>hi0 y (by omega);refine Qr (fun f:Nat=>⟨Y6 c u tl [(3,iV c.fr.length),(104,.lst u 1 (Ls c.cs)),(105,iV c.fr.length),(106,iV f)],[],0⟩) (fun f=>f≤c.fr.length∧∀ y:Nat,y<f→c.row y) (fun f=>c.fr.length - f) 0 (by simp) (rbQ hP []) ?_
 rintro f ⟨hf,hi2⟩
 refine srQ hN fun K hK=>?_;simp;refine hK _ ?_;clear hK K;refine Q3 (Q7 rfl (fun h=>?_) fun h=>?_)
 ·simp at h;have hf1:f<c.fr.length:=h;clear h;refine Q8 (Q3 (Q6 (srQ hN fun K hK=>?_)));simp [QP,QX,QA,QB,hl2,hf1];refine hK _ ?_;clear hK K;refine Q3 (srQ hN fun K hK=>?_);simp;refine hK _ ?_;clear hK K;refine Q7 rfl (fun h=>?_) fun h=>?_
  ·simp at h;refine srQ hN fun K hK=>?_;simp;refine hK _ (Qg (Qc rfl (bo_f fun hs=>?_)));clear hK K;exact absurd (hs.rows f hf1).1 (by omega)
  simp at h;have hr:(rx c.cs f).length=c.fr.length:=by omega
  clear h;refine Q8 (srQ hN fun K hK=>?_);simp [hr];refine hK _ (Q6 (Qr (fun g:Nat=>⟨Y6 c u tl [(3,iV c.fr.length),(6,iV f),(104,.lst u 1 (Ls c.cs)),(105,iV c.fr.length),(106,iV f),(115,lI (rx c.cs f)),(116,iV c.fr.length),(117,iV g)],[],0⟩) (fun g=>g≤c.fr.length∧∀ y:Nat,y<g→c.cell f y) (fun g=>c.fr.length - g) 0 (by simp) (rbQ hP []) ?_));clear hK K
  rintro g ⟨hg,hi3⟩
  refine srQ hN fun K hK=>?_;simp;refine hK _ ?_;clear hK K;refine Q3 (Q7 rfl (fun h=>?_) fun h=>?_)
  ·simp at h;have hg1:g<c.fr.length:=h;clear h;refine Q8 (Q3 (Q6 (srQ hN fun K hK=>?_)));simp [QP,QX,QA,QB,hr,hg1];refine hK _ ?_;clear hK K;refine Q3 (srQ hN fun K hK=>?_);simp [QP,QX,QA,QB,hl1,hf1,hg1];refine hK _ ?_;clear hK K;refine Q7 rfl (fun h1=>?_) fun h1=>?_
   ·simp at h1;refine Q3 (srQ hN fun K hK=>?_);simp;refine hK _ ?_;clear hK K;refine Q7 rfl (fun h2=>?_) fun h2=>?_
    ·simp at h2;refine srQ hN fun K hK=>?_;simp;refine hK _ (Qg (Qc rfl (bo_f fun hs=>?_)));clear hK K;exact h2 (((hs.rows f hf1).2 g hg1).1 h1)
    simp at h2;have hc:c.cell f g:=⟨fun _=>h2,fun e=>absurd e h1⟩;refine Q8 (Qk ?_);simp;refine runQ hN fun K hK=>?_;simp;refine hK _ ?_;clear hK K;rw [Qh (n:=c.fr.length) (by omega) (by omega)];refine ⟨g+1,⟨by omega,Qp hi3 hc⟩,by dsimp only;omega,(rbQ hP [])⟩
   simp at h1;refine Q8 (srQ hN fun K hK=>?_);refine join hK (fun b=>⟨Y6 c u tl [(3,iV c.fr.length),(104,.lst u 1 (Ls c.cs)),(105,iV c.fr.length),(106,iV f),(115,lI (rx c.cs f)),(116,iV c.fr.length),(117,iV g),(6,iV f),(164,.val (.bool b))],[],0⟩) (¬ c.cell f g) (fun hJ=>?_) fun b hb=>?_
   ·simp;have hcell:c.cell f g↔0≤ix (rx c.cs f) g∧ix (rx c.cs f) g<c.fr.length∧ix c.fr (ix (rx c.cs f) g)=ix c.fr f∧ix c.to (ix (rx c.cs f) g)=ix c.to g:=⟨fun q=>q.2 h1,fun q=>⟨fun e=>absurd h1 e,fun _=>q⟩⟩;rw [hcell] at hJ;refine Q0 (c46 (ix (rx c.cs f) g) 0 (c.fr.length - 1)) (by rw [QF ⟨by omega,by omega⟩];exact .cons .val (.cons .val (.cons .val .nil))) ?_;simp [unk,unA,unE,flat];refine ⟨fun a1 a2=>?_,fun a1=>?_⟩
    ·refine Q0 (c68 u c tl (ix (rx c.cs f) g) a1 (by omega) (by omega)) (.cons .rptr (.cons .val .nil)) ?_;simp [unk,unA,unE,unC,flat,Q1,QP,QX,QA,QB,hl1,hf1,hg1];exact hJ (!(ix c.fr (ix (rx c.cs f) g) == ix c.fr f) || !(ix c.to (ix (rx c.cs f) g) == ix c.to g)) (by simp [a1];grind) _ (rbQ hP [])
    exact hJ (true) (yes fun hp=>by omega) _ (rbQ hP [])
   clear hK K;refine Q7 rfl (fun h=>?_) fun h=>?_
   ·refine srQ hN fun K hK=>?_;simp;refine hK _ (Qg (Qc rfl (bo_f fun hs=>?_)));clear hK K;exact hb.1 h ((hs.rows f hf1).2 g hg1)
   have hc:c.cell f g:=zG fun hn=>by rw [hb.2 hn] at h;cases h
   refine Q8 (runQ hN fun K hK=>?_);simp;refine hK _ ?_;clear hK K;rw [Qh (n:=c.fr.length) (by omega) (by omega)];refine ⟨g+1,⟨by omega,Qp hi3 hc⟩,by dsimp only;omega,(rbQ hP [])⟩
  simp at h;have hg2:c.fr.length≤g:=by omega
  clear h;refine Qk ?_;simp;refine runQ hN fun K hK=>?_;simp;refine hK _ ?_;clear hK K;rw [Qh (n:=c.fr.length) (by omega) (by omega)];refine ⟨f+1,⟨by omega,Qp hi2 ⟨hr,fun y hy=>hi3 y (by omega)⟩⟩,by dsimp only;omega,(rbQ hP [])⟩
 simp at h;have hf2:c.fr.length≤f:=by omega
 clear h;refine Qk ?_;simp;refine srQ hN fun K hK=>?_;simp;refine hK _ (Qg (Qc rfl (bo_t ?_)));clear hK K;exact ⟨p1.1,p1.2.1,p1.2.2.1,hl1,p1.2.2.2.2.1,p1.2.2.2.2.2,hl2,hl3,p2.2.1,hi1,fun y hy=>hi2 y (by omega)⟩
end
section
attribute [local simp] Qd Qt Ql QS Qv
def first {α:Type} (p:Nat→Option α):Nat→Option α
 | 0=>none
 | n+1=>match first p n with
  | some a=>some a
  | none=>p n
theorem Qs {α:Type} {p:Nat→Option α}:∀ {n:Nat},(∀ j,j<n→p j=none)→first p n=none:=by
 intro n
 induction n with
 | zero=>intro _;rfl
 | succ n ih=>intro h;simp only [first];rw [ih fun j hj=>h j (by omega)];exact h n (by omega)
theorem Q17 {α:Type} {p:Nat→Option α} {i:Nat} {a:α} (h1:∀ j,j<i→p j=none) (h2:p i=some a):∀ {n:Nat},i<n→first p n=some a:=by
 intro n
 induction n with
 | zero=>intro h;omega
 | succ n ih =>
  intro h;simp only [first];rcases Nat.lt_or_ge i n with hlt|hge
  ·rw [ih hlt]
  have:i=n:=by omega
  subst this;rw [Qs h1];exact h2
theorem Q1g {α:Type} {p:Nat→Option α}:∀ {n:Nat},first p n=none→∀ j,j<n→p j=none:=by
 intro n
 induction n with
 | zero=>intro _ j hj;omega
 | succ n ih =>
  intro h j hj;simp only [first] at h;split at h
  ·cases h
  rename_i h0;rcases Nat.lt_or_ge j n with hlt|hge
  ·exact ih h0 j hlt
  have:j=n:=by omega
  subst this;exact h
def Cat.un (c:Cat) (f:Nat):Prop:=ix (rx c.cs (ix c.id (ix c.fr f))) f=f∧ix (rx c.cs f) (ix c.id (ix c.to f))=f
def Cat.as (c:Cat) (f g h:Nat):Prop:=ix c.to f=ix c.fr g→ix c.to g=ix c.fr h→ix (rx c.cs (ix (rx c.cs f) g)) h=ix (rx c.cs f) (ix (rx c.cs g) h)
open Classical in
noncomputable def Cat.f1 (c:Cat) (f:Nat):Option (Int × Int × Int × Int):=if c.un f then none else some (1,f,0,0)
open Classical in
noncomputable def Cat.f2 (c:Cat) (f g h:Nat):Option (Int × Int × Int × Int):=if c.as f g h then none else some (2,f,g,h)
noncomputable def Cat.fault (c:Cat):Option (Int × Int × Int × Int):=match first c.f1 c.fr.length with
 | some x=>some x
 | none=>first (fun f=>first (fun g=>first (fun h=>c.f2 f g h) c.fr.length) c.fr.length) c.fr.length
def Cat.Law (c:Cat):Prop:=(∀ f,f<c.fr.length→c.un f)∧∀ f,f<c.fr.length→∀ g,g<c.fr.length→∀ h,h<c.fr.length→c.as f g h
section
variable {c:Cat}
theorem Q78 {f:Nat} (hf:f<c.fr.length) (h1:∀ y,y<f→c.un y) (h2:¬ c.un f):c.fault=some (1,(f:Int),0,0):=by
 unfold Cat.fault;rw [Q17 (i:=f) (a:=(1,(f:Int),0,0)) (fun j hj=>by simp [Cat.f1,h1 j hj]) (by simp [Cat.f1,h2]) hf]
theorem Q79 {f g h:Nat} (hf:f<c.fr.length) (hg:g<c.fr.length) (hh:h<c.fr.length) (h0:∀ y,y<c.fr.length→c.un y) (h1:∀ y,y<f→∀ g,g<c.fr.length→∀ h,h<c.fr.length→c.as y g h)
  (h2:∀ y,y<g→∀ h,h<c.fr.length→c.as f y h) (h3:∀ y,y<h→c.as f g y) (h4:¬ c.as f g h):c.fault=some (2,(f:Int),(g:Int),(h:Int)):=by
 unfold Cat.fault;rw [Qs fun j hj=>by simp [Cat.f1,h0 j hj]];simp only;refine Q17 (i:=f) (fun j hj=>Qs fun g hg=>Qs fun h hh=>by simp [Cat.f2,h1 j hj g hg h hh]) ?_ hf;refine Q17 (i:=g) (fun j hj=>Qs fun h hh=>by simp [Cat.f2,h2 j hj h hh]) ?_ hg;refine Q17 (i:=h) (fun j hj=>by simp [Cat.f2,h3 j hj]) ?_ hh;simp [Cat.f2,h4]
theorem Q4q (h0:∀ y,y<c.fr.length→c.un y) (h1:∀ y,y<c.fr.length→∀ g,g<c.fr.length→∀ h,h<c.fr.length→c.as y g h):c.fault=none:=by
 unfold Cat.fault;rw [Qs fun j hj=>by simp [Cat.f1,h0 j hj]];exact Qs fun f hf=>Qs fun g hg=>Qs fun h hh=>by simp [Cat.f2,h1 f hf g hg h hh]
theorem Cat.Sh.fr' (hs:c.Sh) {j:Int} (h0:0≤j) (h1:j<c.fr.length):0≤ix c.fr j∧ix c.fr j<c.id.length:=by
 have:=Q1o hs.fr h0 h1;have:=hs.li;omega
theorem Cat.Sh.to' (hs:c.Sh) {j:Int} (h0:0≤j) (h1:j<c.fr.length):0≤ix c.to j∧ix c.to j<c.id.length:=by
 have:=Q1o hs.to h0 (by rw [hs.lt];exact h1);have:=hs.li;omega
theorem Cat.Sh.id' (hs:c.Sh) {j:Int} (h0:0≤j) (h1:j<c.id.length):0≤ix c.id j∧ix c.id j<c.fr.length:=Q1o hs.id h0 h1
theorem Cat.Sh.row' (hs:c.Sh) {j:Int} (h0:0≤j) (h1:j<c.fr.length):(rx c.cs j).length=c.fr.length:=by
 have:=(hs.rows j.toNat (by omega)).1
 rwa [zK h0] at this
theorem Cat.Sh.cell' (hs:c.Sh) {f g:Int} (h0:0≤f) (h1:f<c.fr.length) (h2:0≤g) (h3:g<c.fr.length):(ix c.to f ≠ ix c.fr g→ix (rx c.cs f) g = -1) ∧
  (ix c.to f=ix c.fr g→0≤ix (rx c.cs f) g∧ix (rx c.cs f) g<c.fr.length∧ix c.fr (ix (rx c.cs f) g)=ix c.fr f∧ix c.to (ix (rx c.cs f) g)=ix c.to g):=by
 have:=(hs.rows f.toNat (by omega)).2 g.toNat (by omega);simpa only [Cat.cell,zK h0,zK h2] using this
end
theorem nope {C:Prop} (h:¬ C):(false=true↔C):=⟨fun h1=>Bool.noConfusion h1,fun h2=>absurd h2 h⟩
def four (k:Option (Int × Int × Int × Int)):List AV :=
 [.val (.int .i64 (k.getD (0,0,0,0)).1),.val (.int .i64 (k.getD (0,0,0,0)).2.1),.val (.int .i64 (k.getD (0,0,0,0)).2.2.1),.val (.int .i64 (k.getD (0,0,0,0)).2.2.2)]
theorem fault_zero {c:Cat}:(c.fault.getD (0,0,0,0)).1=0↔c.Law:=by
 by_cases h1:∀ y,y<c.fr.length→c.un y
 ·by_cases h2:∀ y,y<c.fr.length→∀ g,g<c.fr.length→∀ h,h<c.fr.length→c.as y g h
  ·rw [Q4q h1 h2];exact ⟨fun _=>⟨h1,h2⟩,fun _=>rfl⟩
  have:c.fault ≠ none:=by
   intro h0;apply h2;unfold Cat.fault at h0;split at h0
   ·cases h0
   intro f hf g hg h hh;have:=Q1g (Q1g (Q1g h0 f hf) g hg) h hh;simpa [Cat.f2] using this
  refine ⟨fun h=>?_,fun h=>absurd h.2 h2⟩;exfalso;unfold Cat.fault at this h;rw [Qs fun j hj=>by simp [Cat.f1,h1 j hj]] at this h;simp only at this h;have key:∀ {α:Type} (p:Nat→Option α) (Q:α→Prop),(∀ i a,p i=some a→Q a)→∀ n a,first p n=some a→Q a:=by
   intro α p Q hp n
   induction n with
   | zero=>intro a h;cases h
   | succ n ih =>
    intro a h;simp only [first] at h;split at h
    ·rename_i x hx;cases h;exact ih _ hx
    exact hp _ _ h
  obtain ⟨x,hx⟩:=Option.ne_none_iff_exists'.1 this;have:x.1=2:=key _ (fun x=>x.1=2) (fun f a ha=>key _ (fun x=>x.1=2) (fun g a ha=>key _ (fun x=>x.1=2) (fun h a ha=>by
   simp only [Cat.f2] at ha;split at ha
   ·cases ha
   cases ha;rfl) _ _ ha) _ _ ha) _ _ hx
  rw [hx] at h;simp [this] at h
 refine ⟨fun h=>?_,fun h=>absurd h.1 h1⟩;exfalso;unfold Cat.fault at h;cases hq:first c.f1 c.fr.length with
 | none =>
  apply h1;intro y hy;have:=Q1g hq y hy;simpa [Cat.f1] using this
 | some x =>
  rw [hq] at h;have key:∀ n a,first c.f1 n=some a→a.1=1:=by
   intro n
   induction n with
   | zero=>intro a h;cases h
   | succ n ih =>
    intro a h;simp only [first] at h;split at h
    ·rename_i x hx;cases h;exact ih _ hx
    simp only [Cat.f1] at h;split at h
    ·cases h
    cases h;rfl
  have:=key _ _ hq;simp [this] at h
@[simp] abbrev YA (a:Cat) (b:List (Nat × AV)):List (Nat × AV):=(1,.adr 0 0 0)::(6,iV a.fr.length)::b
theorem c64 [Kd Tryz.prog] (u:Bool) (c:Cat) (hs:c.Sh):Contract Tryz.prog 176 [.agg (c.cells u)] (.tup (four c.fault)):=by
 refine Q4 (rs:=four c.fault) Tryz.func176 rfl rfl rfl rfl (by simp [Tryz.f176]) fun F hN hP=>?_;have hl1:=hs.lt;have hl2:=hs.lc;have hm40:=hs.m40;refine srQ hN fun K hK=>?_;simp [Cat.cells];refine hK _ ?_;clear hK K;refine srQ hN fun K hK=>?_;simp [Cat.cells];refine hK _ ?_;clear hK K;refine Q3 (srQ hN fun K hK=>?_);simp;refine hK _ (Q6 (Qr (fun f:Nat=>⟨YA c [(7,iV f)],Ya c u [],1⟩) (fun f=>f≤c.fr.length∧∀ y:Nat,y<f→c.un y) (fun f=>c.fr.length - f) 0 (by simp) (rbQ hP [(0,0)]) ?_));clear hK K
 rintro f ⟨hf0,hi0⟩
 refine Q3 (srQ hN fun K hK=>?_);simp;refine hK _ ?_;clear hK K;refine Q7 rfl (fun h=>?_) fun h=>?_
 ·simp at h;have hf:f<c.fr.length:=by omega
  clear h;have a1:=hs.fr' (j:=f) (by omega) (by omega);have a2:=hs.id' a1.1 a1.2;have a3:=hs.row' a2.1 a2.2;have a4:=hs.row' (j:=f) (by omega) (by omega);have a5:=hs.to' (j:=f) (by omega) (by omega);have a6:=hs.id' a5.1 a5.2;refine Q8 (Q3 (Q6 (srQ hN fun K hK=>?_)));refine join hK (fun b=>⟨YA c [(7,iV f),(56,.val (.bool b))],Ya c u [],1⟩) (¬ c.un f) (fun hJ=>?_) fun b hb=>?_
  ·simp [QP,QX,QA,QB,hl1,hl2,hf,a1.1,a1.2,a2.1,a2.2,a3,a4,a5.1,a5.2,a6.1,a6.2];refine ⟨fun b1=>?_,fun b1=>?_⟩
   ·exact hJ (ix (rx c.cs f) (ix c.id (ix c.to f)) != f) (by simp [Cat.un,b1]) _ (rbQ hP [(0,0)])
   exact hJ (true) (yes fun hp=>b1 hp.1) _ (rbQ hP [(0,0)])
  clear hK K;refine Q7 rfl (fun h=>?_) fun h=>?_
  ·refine srQ hN fun K hK=>?_;simp;refine hK _ (Qg ?_);clear hK K;rw [Q78 hf hi0 (hb.1 h)];refine ⟨.one rfl rfl (.one rfl rfl (.one rfl rfl (.one rfl rfl .nil))),_,[],rfl,by simp,UpL.refl _⟩
  have hc:c.un f:=zG fun hn=>by rw [hb.2 hn] at h;cases h
  refine Q8 (runQ hN fun K hK=>?_);simp;refine hK _ ?_;clear hK K;rw [Qh (n:=c.fr.length) (by omega) (by omega)];refine ⟨f+1,⟨by omega,Qp hi0 hc⟩,by dsimp only;omega,(rbQ hP [(0,0)])⟩
 simp at h;have hf2:c.fr.length≤f:=by omega
 clear h;have hi1:∀ y:Nat,y<c.fr.length→c.un y:=fun y hy=>hi0 y (by omega);refine Qk ?_;simp;refine Q3 (srQ hN fun K hK=>?_);simp;refine hK _ (Q6 (Qr (fun f:Nat=>⟨YA c [(8,iV f)],Ya c u [],1⟩) (fun f=>f≤c.fr.length∧∀ y:Nat,y<f→∀ g:Nat,g<c.fr.length→∀ h:Nat,h<c.fr.length→c.as y g h) (fun f=>c.fr.length - f) 0 (by simp) (rbQ hP [(0,0)]) ?_));clear hK K;clear hi0 hf2 hf0 f
 rintro f ⟨hf0,hi2⟩
 refine Q3 (srQ hN fun K hK=>?_);simp;refine hK _ ?_;clear hK K;refine Q7 rfl (fun h=>?_) fun h=>?_
 ·simp at h;have hf:f<c.fr.length:=by omega
  clear h;have rf:=hs.row' (j:=f) (by omega) (by omega);refine Q8 (Q3 (Q6 (srQ hN fun K hK=>?_)));simp;refine hK _ (Q6 (Qr (fun g:Nat=>⟨YA c [(8,iV f),(9,iV g)],Ya c u [],1⟩) (fun g=>g≤c.fr.length∧∀ y:Nat,y<g→∀ h:Nat,h<c.fr.length→c.as f y h) (fun g=>c.fr.length - g) 0 (by simp) (rbQ hP [(0,0)]) ?_));clear hK K
  rintro g ⟨hg0,hi3⟩
  refine Q3 (srQ hN fun K hK=>?_);simp;refine hK _ ?_;clear hK K;refine Q7 rfl (fun h=>?_) fun h=>?_
  ·simp at h;have hg:g<c.fr.length:=(by omega);clear h;have rg:=hs.row' (j:=g) (by omega) (by omega);refine Q8 (Q3 (Q6 (Q3 (srQ hN fun K hK=>?_))));simp [QP,QX,QA,QB,hl1,hf,hg];refine hK _ ?_;clear hK K;refine Q7 rfl (fun e1=>?_) fun e1=>?_
   ·simp at e1;have hc:∀ h:Nat,h<c.fr.length→c.as f g h:=fun h _ q=>absurd q e1;refine Qk ?_;simp;refine runQ hN fun K hK=>?_;simp;refine hK _ ?_;clear hK K;rw [Qh (n:=c.fr.length) (by omega) (by omega)];refine ⟨g+1,⟨by omega,Qp hi3 hc⟩,by dsimp only;omega,(rbQ hP [(0,0)])⟩
   simp at e1;have d0:=(hs.cell' (f:=f) (g:=g) (by omega) (by omega) (by omega) (by omega)).2 e1;have r0:=hs.row' d0.1 d0.2.1;refine Q8 (srQ hN fun K hK=>?_);simp;refine hK _ (Q6 (Qr (fun h:Nat=>⟨YA c [(8,iV f),(9,iV g),(10,iV h)],Ya c u [],1⟩) (fun h=>h≤c.fr.length∧∀ y:Nat,y<h→c.as f g y) (fun h=>c.fr.length - h) 0 (by simp) (rbQ hP [(0,0)]) ?_));clear hK K
   rintro h ⟨hh0,hi4⟩
   refine Q3 (srQ hN fun K hK=>?_);simp;refine hK _ ?_;clear hK K;refine Q7 rfl (fun g0=>?_) fun g0=>?_
   ·simp at g0;have hh:h<c.fr.length:=(by omega);clear g0;refine Q8 (Q3 (Q6 (srQ hN fun K hK=>?_)));refine join hK (fun b=>⟨YA c [(8,iV f),(9,iV g),(10,iV h),(127,.val (.bool b))],Ya c u [],1⟩) (¬ c.as f g h) (fun hJ=>?_) fun b hb=>?_
    ·by_cases e2:ix c.to g=ix c.fr h
     ·have d1:=(hs.cell' (f:=g) (g:=h) (by omega) (by omega) (by omega) (by omega)).2 e2;simp [QP,QX,QA,QB,e2,hl1,hl2,hf,hg,hh,rg,rf,d0.1,d0.2.1,r0,d1.1,d1.2.1];exact hJ (ix (rx c.cs (ix (rx c.cs f) g)) h != ix (rx c.cs f) (ix (rx c.cs g) h)) (by simp [Cat.as,e1,e2]) _ (rbQ hP [(0,0)])
     simp [QP,QX,QA,QB,e2,hl1,hg,hh];exact hJ (false) (nope fun hp=>hp fun _ q=>absurd q e2) _ (rbQ hP [(0,0)])
    clear hK K;refine Q7 rfl (fun g0=>?_) fun g0=>?_
    ·refine srQ hN fun K hK=>?_;simp;refine hK _ (Qg ?_);clear hK K;rw [Q79 hf hg hh hi1 hi2 hi3 hi4 (hb.1 g0)];refine ⟨.one rfl rfl (.one rfl rfl (.one rfl rfl (.one rfl rfl .nil))),_,[],rfl,by simp,UpL.refl _⟩
    have hc:c.as f g h:=zG fun hn=>by rw [hb.2 hn] at g0;cases g0
    refine Q8 (runQ hN fun K hK=>?_);simp;refine hK _ ?_;clear hK K;rw [Qh (n:=c.fr.length) (by omega) (by omega)];refine ⟨h+1,⟨by omega,Qp hi4 hc⟩,by dsimp only;omega,(rbQ hP [(0,0)])⟩
   simp at g0;have hh2:c.fr.length≤h:=(by omega);clear g0;have hc:∀ h:Nat,h<c.fr.length→c.as f g h:=fun y hy=>hi4 y (by omega);refine Qk ?_;simp;refine runQ hN fun K hK=>?_;simp;refine hK _ ?_;clear hK K;rw [Qh (n:=c.fr.length) (by omega) (by omega)];refine ⟨g+1,⟨by omega,Qp hi3 hc⟩,by dsimp only;omega,(rbQ hP [(0,0)])⟩
  simp at h;have hg2:c.fr.length≤g:=by omega
  clear h;refine Qk ?_;simp;refine runQ hN fun K hK=>?_;simp;refine hK _ ?_;clear hK K;rw [Qh (n:=c.fr.length) (by omega) (by omega)];refine ⟨f+1,⟨by omega,Qp hi2 fun g hg h hh=>hi3 g (by omega) h hh⟩,by dsimp only;omega,(rbQ hP [(0,0)])⟩
 simp at h;have hf2:c.fr.length≤f:=by omega
 clear h;refine Qk ?_;simp;refine srQ hN fun K hK=>?_;simp;refine hK _ (Qg ?_);clear hK K;rw [Q4q hi1 fun y hy=>hi2 y (by omega)];refine ⟨.one rfl rfl (.one rfl rfl (.one rfl rfl (.one rfl rfl .nil))),_,[],rfl,by simp,UpL.refl _⟩
theorem c66 [Kd Tryz.prog] (u:Bool) (c:Cat) (tl:List AV) (hs:c.Sh):Contract Tryz.prog 178 [.rptr (c.cells u++tl)] (.tup (four c.fault)):=by
 refine Q4 (rs:=four c.fault) Tryz.func178 rfl rfl rfl rfl (by simp [Tryz.f178]) fun F hN hP=>?_;have hl1:=hs.lt;have hl2:=hs.lc;have hm40:=hs.m40;simp only [Cat.cells,List.cons_append,List.nil_append];refine srQ hN fun K hK=>?_;simp;refine hK _ ?_;clear hK K;refine srQ hN fun K hK=>?_;simp;refine Q0 (c61 u c tl) (.cons .rptr .nil) ?_;simp [unk,unA,unE,flat];refine hK _ ?_;clear hK K;refine Q3 (srQ hN fun K hK=>?_);simp;refine hK _ (Q6 (Qr (fun f:Nat=>⟨Y6 c u tl [(6,iV c.fr.length),(7,iV f)],[],0⟩) (fun f=>f≤c.fr.length∧∀ y:Nat,y<f→c.un y) (fun f=>c.fr.length - f) 0 (by simp) (rbQ hP []) ?_));clear hK K
 rintro f ⟨hf0,hi0⟩
 refine Q3 (srQ hN fun K hK=>?_);simp;refine hK _ ?_;clear hK K;refine Q7 rfl (fun h=>?_) fun h=>?_
 ·simp at h;have hf:f<c.fr.length:=by omega
  clear h;have a1:=hs.fr' (j:=f) (by omega) (by omega);have a2:=hs.id' a1.1 a1.2;have a3:=hs.row' a2.1 a2.2;have a4:=hs.row' (j:=f) (by omega) (by omega);have a5:=hs.to' (j:=f) (by omega) (by omega);have a6:=hs.id' a5.1 a5.2;refine Q8 (Q3 (Q6 (srQ hN fun K hK=>?_)));refine join hK (fun b=>⟨Y6 c u tl [(6,iV c.fr.length),(7,iV f),(55,.val (.bool b))],[],0⟩) (¬ c.un f) (fun hJ=>?_) fun b hb=>?_
  ·simp [QP,QX,QA,QB,hl1,hf,a1.1,a1.2,a2.1,a2.2];refine Q0 (c69 u c tl (ix c.id (ix c.fr f)) (f) (a2.1) (by omega) (by omega) (by omega)) (.cons .rptr (.cons .val (.cons .val .nil))) ?_;simp [unk,unA,unE,flat,QP,QX,QA,QB,hl1,hf,a5.1,a5.2];refine ⟨fun b1=>?_,fun b1=>?_⟩
   ·refine Q0 (c69 u c tl (f) (ix c.id (ix c.to f)) (by omega) (by omega) (a6.1) (by omega)) (.cons .rptr (.cons .val (.cons .val .nil))) ?_;simp [unk,unA,unE,flat];exact hJ (ix (rx c.cs f) (ix c.id (ix c.to f)) != f) (by simp [Cat.un,b1]) _ (rbQ hP [])
   exact hJ (true) (yes fun hp=>b1 hp.1) _ (rbQ hP [])
  clear hK K;refine Q7 rfl (fun h=>?_) fun h=>?_
  ·refine srQ hN fun K hK=>?_;simp;refine hK _ (Qg ?_);clear hK K;rw [Q78 hf hi0 (hb.1 h)];refine ⟨.one rfl rfl (.one rfl rfl (.one rfl rfl (.one rfl rfl .nil))),_,[],rfl,by simp,UpL.refl _⟩
  have hc:c.un f:=zG fun hn=>by rw [hb.2 hn] at h;cases h
  refine Q8 (runQ hN fun K hK=>?_);simp;refine hK _ ?_;clear hK K;rw [Qh (n:=c.fr.length) (by omega) (by omega)];refine ⟨f+1,⟨by omega,Qp hi0 hc⟩,by dsimp only;omega,(rbQ hP [])⟩
 simp at h;have hf2:c.fr.length≤f:=by omega
 clear h;have hi1:∀ y:Nat,y<c.fr.length→c.un y:=fun y hy=>hi0 y (by omega);refine Qk ?_;simp;refine Q3 (srQ hN fun K hK=>?_);simp;refine hK _ (Q6 (Qr (fun f:Nat=>⟨Y6 c u tl [(6,iV c.fr.length),(8,iV f)],[],0⟩) (fun f=>f≤c.fr.length∧∀ y:Nat,y<f→∀ g:Nat,g<c.fr.length→∀ h:Nat,h<c.fr.length→c.as y g h) (fun f=>c.fr.length - f) 0 (by simp) (rbQ hP []) ?_));clear hK K;clear hi0 hf2 hf0 f
 rintro f ⟨hf0,hi2⟩
 refine Q3 (srQ hN fun K hK=>?_);simp;refine hK _ ?_;clear hK K;refine Q7 rfl (fun h=>?_) fun h=>?_
 ·simp at h;have hf:f<c.fr.length:=by omega
  clear h;have rf:=hs.row' (j:=f) (by omega) (by omega);refine Q8 (Q3 (Q6 (srQ hN fun K hK=>?_)));simp;refine hK _ (Q6 (Qr (fun g:Nat=>⟨Y6 c u tl [(6,iV c.fr.length),(8,iV f),(9,iV g)],[],0⟩) (fun g=>g≤c.fr.length∧∀ y:Nat,y<g→∀ h:Nat,h<c.fr.length→c.as f y h) (fun g=>c.fr.length - g) 0 (by simp) (rbQ hP []) ?_));clear hK K
  rintro g ⟨hg0,hi3⟩
  refine Q3 (srQ hN fun K hK=>?_);simp;refine hK _ ?_;clear hK K;refine Q7 rfl (fun h=>?_) fun h=>?_
  ·simp at h;have hg:g<c.fr.length:=(by omega);clear h;have rg:=hs.row' (j:=g) (by omega) (by omega);refine Q8 (Q3 (Q6 (Q3 (srQ hN fun K hK=>?_))));simp;refine Q0 (c69 u c tl (f) (g) (by omega) (by omega) (by omega) (by omega)) (.cons .rptr (.cons .val (.cons .val .nil))) ?_;simp [unk,unA,unE,flat];refine hK _ ?_;clear hK K;refine Q7 rfl (fun e0=>?_) fun e0=>?_
   ·simp at e0;have e1:¬ ix c.to f=ix c.fr g:=fun q=>by have:=((hs.cell' (f:=f) (g:=g) (by omega) (by omega) (by omega) (by omega)).2 q).1;omega
    have hc:∀ h:Nat,h<c.fr.length→c.as f g h:=fun h _ q=>absurd q e1;refine Qk ?_;simp;refine runQ hN fun K hK=>?_;simp;refine hK _ ?_;clear hK K;rw [Qh (n:=c.fr.length) (by omega) (by omega)];refine ⟨g+1,⟨by omega,Qp hi3 hc⟩,by dsimp only;omega,(rbQ hP [])⟩
   simp at e0;have e1:ix c.to f=ix c.fr g:=zG fun q=>by have:=(hs.cell' (f:=f) (g:=g) (by omega) (by omega) (by omega) (by omega)).1 q;omega
   have d0:=(hs.cell' (f:=f) (g:=g) (by omega) (by omega) (by omega) (by omega)).2 e1;have r0:=hs.row' d0.1 d0.2.1;refine Q8 (srQ hN fun K hK=>?_);simp;refine hK _ (Q6 (Qr (fun h:Nat=>⟨Y6 c u tl [(6,iV c.fr.length),(8,iV f),(9,iV g),(10,iV h)],[],0⟩) (fun h=>h≤c.fr.length∧∀ y:Nat,y<h→c.as f g y) (fun h=>c.fr.length - h) 0 (by simp) (rbQ hP []) ?_));clear hK K
   rintro h ⟨hh0,hi4⟩
   refine Q3 (srQ hN fun K hK=>?_);simp;refine hK _ ?_;clear hK K;refine Q7 rfl (fun g0=>?_) fun g0=>?_
   ·simp at g0;have hh:h<c.fr.length:=(by omega);clear g0;refine Q8 (Q3 (Q6 (srQ hN fun K hK=>?_)));refine join hK (fun b=>⟨Y6 c u tl [(6,iV c.fr.length),(8,iV f),(9,iV g),(10,iV h),(98,.val (.bool b))],[],0⟩) (¬ c.as f g h) (fun hJ=>?_) fun b hb=>?_
    ·simp;refine Q0 (c69 u c tl (g) (h) (by omega) (by omega) (by omega) (by omega)) (.cons .rptr (.cons .val (.cons .val .nil))) ?_;simp [unk,unA,unE,flat]
     by_cases e2:ix c.to g=ix c.fr h
     ·have d1:=(hs.cell' (f:=g) (g:=h) (by omega) (by omega) (by omega) (by omega)).2 e2;simp [d1.1,Int.not_lt.2 d1.1];refine Q0 (c69 u c tl (f) (g) (by omega) (by omega) (by omega) (by omega)) (.cons .rptr (.cons .val (.cons .val .nil))) ?_;simp [unk,unA,unE,flat];refine Q0 (c69 u c tl (ix (rx c.cs f) g) (h) (d0.1) (by omega) (by omega) (by omega)) (.cons .rptr (.cons .val (.cons .val .nil))) ?_;simp [unk,unA,unE,flat];refine Q0 (c69 u c tl (g) (h) (by omega) (by omega) (by omega) (by omega)) (.cons .rptr (.cons .val (.cons .val .nil))) ?_;simp [unk,unA,unE,flat];refine Q0 (c69 u c tl (f) (ix (rx c.cs g) h) (by omega) (by omega) (d1.1) (by omega)) (.cons .rptr (.cons .val (.cons .val .nil))) ?_;simp [unk,unA,unE,flat];exact hJ (ix (rx c.cs (ix (rx c.cs f) g)) h != ix (rx c.cs f) (ix (rx c.cs g) h)) (by simp [Cat.as,e1,e2]) _ (rbQ hP [])
     have d1:=(hs.cell' (f:=g) (g:=h) (by omega) (by omega) (by omega) (by omega)).1 e2;simp [d1];exact hJ (false) (nope fun hp=>hp fun _ q=>absurd q e2) _ (rbQ hP [])
    clear hK K;refine Q7 rfl (fun g0=>?_) fun g0=>?_
    ·refine srQ hN fun K hK=>?_;simp;refine hK _ (Qg ?_);clear hK K;rw [Q79 hf hg hh hi1 hi2 hi3 hi4 (hb.1 g0)];refine ⟨.one rfl rfl (.one rfl rfl (.one rfl rfl (.one rfl rfl .nil))),_,[],rfl,by simp,UpL.refl _⟩
    have hc:c.as f g h:=zG fun hn=>by rw [hb.2 hn] at g0;cases g0
    refine Q8 (runQ hN fun K hK=>?_);simp;refine hK _ ?_;clear hK K;rw [Qh (n:=c.fr.length) (by omega) (by omega)];refine ⟨h+1,⟨by omega,Qp hi4 hc⟩,by dsimp only;omega,(rbQ hP [])⟩
   simp at g0;have hh2:c.fr.length≤h:=(by omega);clear g0;have hc:∀ h:Nat,h<c.fr.length→c.as f g h:=fun y hy=>hi4 y (by omega);refine Qk ?_;simp;refine runQ hN fun K hK=>?_;simp;refine hK _ ?_;clear hK K;rw [Qh (n:=c.fr.length) (by omega) (by omega)];refine ⟨g+1,⟨by omega,Qp hi3 hc⟩,by dsimp only;omega,(rbQ hP [])⟩
  simp at h;have hg2:c.fr.length≤g:=by omega
  clear h;refine Qk ?_;simp;refine runQ hN fun K hK=>?_;simp;refine hK _ ?_;clear hK K;rw [Qh (n:=c.fr.length) (by omega) (by omega)];refine ⟨f+1,⟨by omega,Qp hi2 fun g hg h hh=>hi3 g (by omega) h hh⟩,by dsimp only;omega,(rbQ hP [])⟩
 simp at h;have hf2:c.fr.length≤f:=by omega
 clear h;refine Qk ?_;simp;refine srQ hN fun K hK=>?_;simp;refine hK _ (Qg ?_);clear hK K;rw [Q4q hi1 fun y hy=>hi2 y (by omega)];refine ⟨.one rfl rfl (.one rfl rfl (.one rfl rfl (.one rfl rfl .nil))),_,[],rfl,by simp,UpL.refl _⟩
end
section
attribute [local simp] Qd Qt Ql QS Qv
def Cat.Is (c:Cat):Prop:=c.Sh∧c.Law
theorem Q8H {a:Int} {p:Prop} (h:a=0↔p):Value.bool (a == 0)=Value.bool (bo p):=by
 by_cases hp:p
 ·simp [bo,hp,h.2 hp]
 have:a ≠ 0:=fun q=>hp (h.1 q);simp [bo,hp,this]
theorem Q70 {p:Prop} (h:(!bo p)=true):¬ p:=by simpa [bo] using h
theorem Q71 {p:Prop} (h:(!bo p)=false):p:=by simpa [bo] using h
theorem c55 [Kd Tryz.prog] (u:Bool) (c:Cat):Contract Tryz.prog 162 [.agg (c.cells u)] (.val (.bool (bo c.Is))):=by
 refine Q4 (rs:=[.val (.bool (bo c.Is))]) Tryz.func162 rfl rfl rfl rfl (by simp [Tryz.f162]) fun F hN hP=>?_;refine srQ hN fun K hK=>?_;simp [Cat.cells];refine hK _ ?_;clear hK K;refine Q3 (srQ hN fun K hK=>?_);simp;refine Q0 (c63 u c) (.cons (.aggL Cat.pur) .nil) ?_;simp [unk,unA,unE,flat];refine hK _ ?_;clear hK K;refine Q7 rfl (fun h=>?_) fun h=>?_
 ·refine srQ hN fun K hK=>?_;simp;refine hK _ (Qg (Qc rfl (bo_f fun hs=>?_)));clear hK K;exact Q70 h hs.1
 have hs:c.Sh:=Q71 h;refine Q8 (srQ hN fun K hK=>?_);simp;refine Q0 (c64 u c hs) (.cons (.aggL Cat.pur) .nil) ?_;simp [unk,unA,unE,unT,flat,four];refine hK _ ?_;clear hK K;refine srQ hN fun K hK=>?_;simp;refine hK _ (Qg (Qc rfl (Q8H ?_)));clear hK K;exact ⟨fun q=>⟨hs,fault_zero.1 q⟩,fun q=>fault_zero.2 q.2⟩
theorem c60 [Kd Tryz.prog] (u:Bool) (c:Cat) (tl:List AV):Contract Tryz.prog 164 [.rptr (c.cells u++tl)] (.val (.bool (bo c.Is))):=by
 refine Q4 (rs:=[.val (.bool (bo c.Is))]) Tryz.func164 rfl rfl rfl rfl (by simp [Tryz.f164]) fun F hN hP=>?_;refine srQ hN fun K hK=>?_;simp;refine hK _ ?_;clear hK K;refine Q3 (srQ hN fun K hK=>?_);simp;refine Q0 (c65 u c tl) (.cons .rptr .nil) ?_;simp [unk,unA,unE,flat];refine hK _ ?_;clear hK K;refine Q7 rfl (fun h=>?_) fun h=>?_
 ·refine srQ hN fun K hK=>?_;simp;refine hK _ (Qg (Qc rfl (bo_f fun hs=>?_)));clear hK K;exact Q70 h hs.1
 have hs:c.Sh:=Q71 h;refine Q8 (srQ hN fun K hK=>?_);simp;refine Q0 (c66 u c tl hs) (.cons .rptr .nil) ?_;simp [unk,unA,unE,unT,flat,four];refine hK _ ?_;clear hK K;refine srQ hN fun K hK=>?_;simp;refine hK _ (Qg (Qc rfl (Q8H ?_)));clear hK K;exact ⟨fun q=>⟨hs,fault_zero.1 q⟩,fun q=>fault_zero.2 q.2⟩
def SF.actOk (f:SF) (a:Nat):Prop:=((rx f.ac a).length:Int)=ix f.sz (ix f.s.fr a)∧∀ x∈rx f.ac a,inR (ix f.sz (ix f.s.to a)) x=true
structure SF.Sh (f:SF):Prop where
 cat:f.s.Is
 ls:(f.sz.length:Int)=f.s.n
 la:f.ac.length=f.s.fr.length
 sz:∀ x∈f.sz,inR 17 x=true
 act:∀ a:Nat,a<f.ac.length→f.actOk a
def SF.P1 (f:SF):Prop:=f.s.Is∧(f.sz.length:Int)=f.s.n∧f.ac.length=f.s.fr.length
def SF.Q1 (f:SF):Prop:=f.s.Is∧(f.sz.length:Int)=f.s.n∧(∀ x∈f.sz,inR 17 x=true)∧f.ac.length=f.s.fr.length
theorem SF.Sh.P1 {f:SF} (h:f.Sh):f.P1:=⟨h.cat,h.ls,h.la⟩
theorem SF.Sh.Q1 {f:SF} (h:f.Sh):f.Q1:=⟨h.cat,h.ls,h.sz,h.la⟩
theorem ix_mem {xs:List Int} {P:Int→Prop} (h:∀ j:Nat,j<xs.length→P (ix xs j)):∀ x∈xs,P x:=by
 intro x hx;obtain ⟨i,hi,rfl⟩:=List.getElem_of_mem hx;have:=h i hi
 rwa [← QP xs i hi] at this
@[simp] abbrev YG (a:SF) (b:Bool) (c:List (AV)):List (AV):=iV a.s.n::.lst b 1 (Is a.s.fr)::.lst b 1 (Is a.s.to)::.lst b 1 (Is a.s.id)::.lst b 1 (Ls a.s.cs)::.lst b 1 (Is a.sz)::.lst b 1 (Ls a.ac)::c
@[simp] abbrev Y4 (a:SF) (b:Bool) (c:List (Nat × Ent)):List (Nat × Ent):=(0,.mix 7 [(YG a b [])])::c
theorem c39 [Kd Tryz.prog] (u:Bool) (f:SF):Contract Tryz.prog 124 [.agg (f.cells u)] (.val (.bool (bo f.Sh))):=by
 refine Q4 (rs:=[.val (.bool (bo f.Sh))]) Tryz.func124 rfl rfl rfl rfl (by simp [Tryz.f124]) fun F hN hP=>?_;refine srQ hN fun K hK=>?_;simp [SF.cells];refine hK _ ?_;clear hK K;refine Q3 (srQ hN fun K hK=>?_);refine join hK (fun b=>⟨[(1,.adr 0 0 0),(27,.val (.bool b))],Y4 f u [],1⟩) (¬ f.P1) (fun hJ=>?_) fun b hb=>?_
 ·simp;refine Q0 (c55 u f.s) (.cons (.aggL Cat.pur) .nil) ?_;simp [unk,unA,unE,flat];refine ⟨fun b1=>⟨fun b2=>?_,fun b2=>?_⟩,fun b1=>?_⟩
  ·exact hJ ((f.ac.length:Int) != f.s.fr.length) (by simp [SF.P1,b2];simp [bo] at b1;grind) _ (rbQ hP [(0,0)])
  ·exact hJ (true) (yes fun hp=>b2 hp.2.1) _ (rbQ hP [(0,0)])
  exact hJ (true) (yes fun hp=>by simp [bo,hp.1] at b1) _ (rbQ hP [(0,0)])
 clear hK K;refine Q7 rfl (fun h=>?_) fun h=>?_
 ·refine srQ hN fun K hK=>?_;simp;refine hK _ (Qg (Qc rfl (bo_f fun hs=>?_)));clear hK K;exact hb.1 h hs.P1
 have p1:f.P1:=zG fun hn=>by rw [hb.2 hn] at h;cases h
 have hS:f.s.Sh:=p1.1.1;have hl1:=hS.lt;have hl2:=hS.li;have hl3:(f.sz.length:Int)=f.s.n:=p1.2.1;have hl4:f.ac.length=f.s.fr.length:=p1.2.2;have hn8:=hS.n8;have hm40:=hS.m40;refine Q8 (Q3 (srQ hN fun K hK=>?_));simp;refine hK _ (Q6 (Qr (fun x:Nat=>⟨[(1,.adr 0 0 0),(3,iV x)],Y4 f u [],1⟩) (fun x=>x≤f.sz.length∧∀ y:Nat,y<x→inR 17 (ix f.sz y)=true) (fun x=>f.sz.length - x) 0 (by simp) (rbQ hP [(0,0)]) ?_));clear hK K
 rintro x ⟨hx,hi0⟩
 refine Q3 (srQ hN fun K hK=>?_);simp;refine hK _ ?_;clear hK K;refine Q7 rfl (fun h=>?_) fun h=>?_
 ·simp at h;have hx1:x<f.sz.length:=by omega
  clear h;refine Q8 (Q3 (Q6 (srQ hN fun K hK=>?_)));simp [QP,QX,QA,QB,hx1];refine Q0 (c56 (ix f.sz x) 0 16) (.cons .val (.cons .val (.cons .val .nil))) ?_;simp [unk,unA,unE,flat];refine hK _ ?_;clear hK K;refine Q7 rfl (fun h=>?_) fun h=>?_
  ·simp at h;refine srQ hN fun K hK=>?_;simp;refine hK _ (Qg (Qc rfl (bo_f fun hs=>?_)));clear hK K;have:=Q1o hs.sz (j:=x) (by omega) (by omega)
   grind
  simp at h;have hc:inR 17 (ix f.sz x)=true:=by simp [inR];omega
  refine Q8 (runQ hN fun K hK=>?_);simp;refine hK _ ?_;clear hK K;rw [Qh (n:=f.sz.length) (by omega) (by omega)];refine ⟨x+1,⟨by omega,Qp hi0 hc⟩,by dsimp only;omega,(rbQ hP [(0,0)])⟩
 simp at h;have hx2:f.sz.length≤x:=by omega
 clear h;have hi1:∀ y∈f.sz,inR 17 y=true:=ix_mem fun y hy=>hi0 y (by omega);refine Qk ?_;simp;refine Q3 (srQ hN fun K hK=>?_);simp;refine hK _ (Q6 (Qr (fun a:Nat=>⟨[(1,.adr 0 0 0),(4,iV a)],Y4 f u [],1⟩) (fun a=>a≤f.ac.length∧∀ y:Nat,y<a→f.actOk y) (fun a=>f.ac.length - a) 0 (by simp) (rbQ hP [(0,0)]) ?_));clear hK K
 rintro a ⟨ha0,hi2⟩
 refine Q3 (srQ hN fun K hK=>?_);simp;refine hK _ ?_;clear hK K;refine Q7 rfl (fun h=>?_) fun h=>?_
 ·simp at h;have ha:a<f.ac.length:=by omega
  clear h;have a1:=hS.fr' (j:=a) (by omega) (by omega);have a2:=hS.to' (j:=a) (by omega) (by omega);refine Q8 (Q3 (Q6 (srQ hN fun K hK=>?_)));refine join hK (fun b=>⟨[(1,.adr 0 0 0),(4,iV a),(84,.val (.bool b))],Y4 f u [],1⟩) (¬ f.actOk a) (fun hJ=>?_) fun b hb=>?_
  ·simp [QP,QX,QA,QB,ha,hl1,a1.1,a2.1,show (a:Int)<f.s.fr.length by omega,show a<f.s.fr.length by omega,show ix f.s.fr a<f.sz.length by omega,show ix f.s.to a<f.sz.length by omega];refine ⟨fun b1=>?_,fun b1=>?_⟩
   ·refine Q0 (c57 true (rx f.ac a) (ix f.sz (ix f.s.to a))) (.cons .val (.cons .lst .nil)) ?_;simp [unk,unA,unE,flat];exact hJ (!(rx f.ac a).all (inR (ix f.sz (ix f.s.to a)))) (by simp [SF.actOk,b1]) _ (rbQ hP [(0,0)])
   exact hJ (true) (yes fun hp=>b1 hp.1) _ (rbQ hP [(0,0)])
  clear hK K;refine Q7 rfl (fun h=>?_) fun h=>?_
  ·refine srQ hN fun K hK=>?_;simp;refine hK _ (Qg (Qc rfl (bo_f fun hs=>?_)));clear hK K;exact hb.1 h (hs.act a ha)
  have hc:f.actOk a:=zG fun hn=>by rw [hb.2 hn] at h;cases h
  refine Q8 (runQ hN fun K hK=>?_);simp;refine hK _ ?_;clear hK K;rw [Qh (n:=f.ac.length) (by omega) (by omega)];refine ⟨a+1,⟨by omega,Qp hi2 hc⟩,by dsimp only;omega,(rbQ hP [(0,0)])⟩
 simp at h;have ha2:f.ac.length≤a:=by omega
 clear h;refine Qk ?_;simp;refine srQ hN fun K hK=>?_;simp;refine hK _ (Qg (Qc rfl (bo_t ?_)));clear hK K;exact ⟨p1.1,hl3,hl4,hi1,fun y hy=>hi2 y (by omega)⟩
@[simp] abbrev Yo (a:SF) (b:Bool) (c:List (Nat × AV)):List (Nat × AV):=(0,.rptr (YG a b []))::(3,.rptr (YG a b []))::c
theorem c44 [Kd Tryz.prog] (u:Bool) (f:SF):Contract Tryz.prog 128 [.rptr (f.cells u)] (.val (.bool (bo f.Sh))):=by
 refine Q4 (rs:=[.val (.bool (bo f.Sh))]) Tryz.func128 rfl rfl rfl rfl (by simp [Tryz.f128]) fun F hN hP=>?_;simp only [SF.cells];refine srQ hN fun K hK=>?_;simp;refine hK _ ?_;clear hK K;refine srQ hN fun K hK=>?_;simp;refine hK _ ?_;clear hK K;refine Q3 (srQ hN fun K hK=>?_);refine join hK (fun b=>⟨Yo f u [(41,.val (.bool b))],[],0⟩) (¬ f.Q1) (fun hJ=>?_) fun b hb=>?_
 ·simp;refine Q0 (c60 u f.s [.lst u 1 (Is f.sz),.lst u 1 (Ls f.ac)]) (.cons .rptr .nil) ?_;simp [unk,unA,unE,flat];refine ⟨fun b1=>⟨fun b2=>?_,fun b2=>?_⟩,fun b1=>?_⟩
  ·refine Q0 (c22 u f.sz 17 ⟨by omega,by omega⟩) (.cons .lst (.cons .val .nil)) ?_;simp [unk,unA,unE,flat];refine ⟨fun b3=>?_,fun b3=>?_⟩
   ·refine Q0 (c61 u f.s [.lst u 1 (Is f.sz),.lst u 1 (Ls f.ac)]) (.cons .rptr .nil) ?_;simp [unk,unA,unE,flat];exact hJ ((f.ac.length:Int) != f.s.fr.length) (by simp [SF.Q1,b2];simp [bo] at b1;grind) _ (rbQ hP [])
   intros;exact hJ (true) (yes fun hp=>by simp [SF.Q1] at hp;grind) _ (rbQ hP [])
  ·exact hJ (true) (yes fun hp=>b2 hp.2.1) _ (rbQ hP [])
  exact hJ (true) (yes fun hp=>by simp [bo,hp.1] at b1) _ (rbQ hP [])
 clear hK K;refine Q7 rfl (fun h=>?_) fun h=>?_
 ·refine srQ hN fun K hK=>?_;simp;refine hK _ (Qg (Qc rfl (bo_f fun hs=>?_)));clear hK K;exact hb.1 h hs.Q1
 have p1:f.Q1:=zG fun hn=>by rw [hb.2 hn] at h;cases h
 have hS:f.s.Sh:=p1.1.1;have hl1:=hS.lt;have hl2:=hS.li;have hl3:(f.sz.length:Int)=f.s.n:=p1.2.1;have hl4:f.ac.length=f.s.fr.length:=p1.2.2.2;have hn8:=hS.n8;have hm40:=hS.m40;refine Q8 (Q3 (srQ hN fun K hK=>?_));simp;refine hK _ (Q6 (Qr (fun a:Nat=>⟨Yo f u [(45,.lst u 1 (Ls f.ac)),(46,iV f.ac.length),(47,iV a)],[],0⟩) (fun a=>a≤f.ac.length∧∀ y:Nat,y<a→f.actOk y) (fun a=>f.ac.length - a) 0 (by simp) (rbQ hP []) ?_));clear hK K
 rintro a ⟨ha0,hi2⟩
 refine srQ hN fun K hK=>?_;simp;refine hK _ ?_;clear hK K;refine Q3 (Q7 rfl (fun h=>?_) fun h=>?_)
 ·simp at h;have ha:a<f.ac.length:=by omega
  clear h;have a1:=hS.fr' (j:=a) (by omega) (by omega);have a2:=hS.to' (j:=a) (by omega) (by omega);have a3:=Q1o p1.2.2.1 (j:=ix f.s.to a) (by omega) (by omega);refine Q8 (Q3 (Q6 (srQ hN fun K hK=>?_)));simp [QP,QX,QA,QB,ha];refine hK _ ?_;clear hK K;refine srQ hN fun K hK=>?_;simp [QP,QX,QA,QB,ha,hl1,a1.1,a2.1,show (a:Int)<f.s.fr.length by omega,show a<f.s.fr.length by omega,show ix f.s.fr a<f.sz.length by omega,show ix f.s.to a<f.sz.length by omega];refine Q0 (c62 true (rx f.ac a) (ix f.sz (ix f.s.fr a)) (ix f.sz (ix f.s.to a)) ⟨by omega,by omega⟩) (.cons .lst (.cons .val (.cons .val .nil))) ?_;simp [unk,unA,unE,flat];refine hK _ ?_;clear hK K;refine Q7 rfl (fun h=>?_) fun h=>?_
  ·have hn:¬ f.actOk a:=(by simp [SF.actOk];simp at h;grind);refine srQ hN fun K hK=>?_;simp;refine hK _ (Qg (Qc rfl (bo_f fun hs=>?_)));clear hK K;exact hn (hs.act a ha)
  have hc:f.actOk a:=by simp [SF.actOk];simp at h;grind
  refine Q8 (runQ hN fun K hK=>?_);simp;refine hK _ ?_;clear hK K;rw [Qh (n:=f.ac.length) (by omega) (by omega)];refine ⟨a+1,⟨by omega,Qp hi2 hc⟩,by dsimp only;omega,(rbQ hP [])⟩
 simp at h;have ha2:f.ac.length≤a:=by omega
 clear h;refine Qk ?_;simp;refine srQ hN fun K hK=>?_;simp;refine hK _ (Qg (Qc rfl (bo_t ?_)));clear hK K;exact ⟨p1.1,hl3,hl4,p1.2.2.1,fun y hy=>hi2 y (by omega)⟩
def SF.un (f:SF) (x e:Nat):Prop:=ix (rx f.ac (ix f.s.id x)) e=e
def SF.as (f:SF) (a b e:Nat):Prop:=ix f.s.to a=ix f.s.fr b→ix (rx f.ac (ix (rx f.s.cs a) b)) e=ix (rx f.ac b) (ix (rx f.ac a) e)
def SF.lu (f:SF) (x:Nat):Nat:=(rx f.ac (ix f.s.id x)).length
def SF.la (f:SF) (a:Nat):Nat:=(rx f.ac a).length
open Classical in
noncomputable def SF.f1 (f:SF) (x e:Nat):Option (Int × Int × Int × Int):=if f.un x e then none else some (1,(x:Int),(e:Int),0)
open Classical in
noncomputable def SF.f2 (f:SF) (a b e:Nat):Option (Int × Int × Int × Int):=if f.as a b e then none else some (2,(a:Int),(b:Int),(e:Int))
noncomputable def SF.fault (f:SF):Option (Int × Int × Int × Int):=match first (fun x=>first (fun e=>f.f1 x e) (f.lu x)) f.s.id.length with
 | some x=>some x
 | none=>first (fun a=>first (fun b=>first (fun e=>f.f2 a b e) (f.la a)) f.s.fr.length) f.s.fr.length
def SF.Law (f:SF):Prop:=(∀ x,x<f.s.id.length→∀ e,e<f.lu x→f.un x e)∧∀ a,a<f.s.fr.length→∀ b,b<f.s.fr.length→∀ e,e<f.la a→f.as a b e
section
variable {f:SF}
theorem Q6i {x e:Nat} (hx:x<f.s.id.length) (he:e<f.lu x) (h1:∀ y,y<x→∀ e,e<f.lu y→f.un y e) (h2:∀ y,y<e→f.un x y) (h3:¬ f.un x e):f.fault=some (1,(x:Int),(e:Int),0):=by
 unfold SF.fault;rw [Q17 (i:=x) (a:=(1,(x:Int),(e:Int),0)) (fun j hj=>Qs fun e he=>by simp [SF.f1,h1 j hj e he]) (Q17 (i:=e) (fun j hj=>by simp [SF.f1,h2 j hj]) (by simp [SF.f1,h3]) he) hx]
theorem sf_un0 (h0:∀ x,x<f.s.id.length→∀ e,e<f.lu x→f.un x e):first (fun x=>first (fun e=>f.f1 x e) (f.lu x)) f.s.id.length=none :=
 Qs fun j hj=>Qs fun e he=>by simp [SF.f1,h0 j hj e he]
theorem Q6j {a b e:Nat} (ha:a<f.s.fr.length) (hb:b<f.s.fr.length) (he:e<f.la a) (h0:∀ x,x<f.s.id.length→∀ e,e<f.lu x→f.un x e) (h1:∀ y,y<a→∀ b,b<f.s.fr.length→∀ e,e<f.la y→f.as y b e)
  (h2:∀ y,y<b→∀ e,e<f.la a→f.as a y e) (h3:∀ y,y<e→f.as a b y) (h4:¬ f.as a b e):f.fault=some (2,(a:Int),(b:Int),(e:Int)):=by
 unfold SF.fault;rw [sf_un0 h0];simp only;refine Q17 (i:=a) (fun j hj=>Qs fun g hg=>Qs fun h hh=>by simp [SF.f2,h1 j hj g hg h hh]) ?_ ha;refine Q17 (i:=b) (fun j hj=>Qs fun h hh=>by simp [SF.f2,h2 j hj h hh]) ?_ hb;refine Q17 (i:=e) (fun j hj=>by simp [SF.f2,h3 j hj]) ?_ he;simp [SF.f2,h4]
theorem Q3N (h0:∀ x,x<f.s.id.length→∀ e,e<f.lu x→f.un x e) (h1:∀ y,y<f.s.fr.length→∀ b,b<f.s.fr.length→∀ e,e<f.la y→f.as y b e):f.fault=none:=by
 unfold SF.fault;rw [sf_un0 h0];exact Qs fun a ha=>Qs fun g hg=>Qs fun h hh=>by simp [SF.f2,h1 a ha g hg h hh]
theorem Q2d {α:Type} (Q:α→Prop) {p:Nat→Option α} (hp:∀ i a,p i=some a→Q a):∀ n a,first p n=some a→Q a:=by
 intro n
 induction n with
 | zero=>intro a h;cases h
 | succ n ih =>
  intro a h;simp only [first] at h;split at h
  ·rename_i x hx;cases h;exact ih _ hx
  exact hp _ _ h
theorem sfault_zero:(f.fault.getD (0,0,0,0)).1=0↔f.Law:=by
 refine ⟨fun h=>?_,fun h=>by rw [Q3N h.1 h.2];rfl⟩;unfold SF.fault at h;cases hq:first (fun x=>first (fun e=>f.f1 x e) (f.lu x)) f.s.id.length with
 | some x =>
  rw [hq] at h;have:=Q2d (fun x:Int × Int × Int × Int=>x.1=1) (fun x a ha=>Q2d (fun x:Int × Int × Int × Int=>x.1=1) (fun e a ha=>by
   simp only [SF.f1] at ha;split at ha
   ·cases ha
   cases ha;rfl) _ _ ha) _ _ hq
  simp [this] at h
 | none =>
  rw [hq] at h;simp only at h;cases hr:first (fun a=>first (fun b=>first (fun e=>f.f2 a b e) (f.la a)) f.s.fr.length) f.s.fr.length with
  | some x =>
   rw [hr] at h;have:=Q2d (fun x:Int × Int × Int × Int=>x.1=2) (fun x a ha=>Q2d (fun x:Int × Int × Int × Int=>x.1=2) (fun e a ha=>Q2d (fun x:Int × Int × Int × Int=>x.1=2) (fun e a ha=>by
    simp only [SF.f2] at ha;split at ha
    ·cases ha
    cases ha;rfl) _ _ ha) _ _ ha) _ _ hr
   simp [this] at h
  | none =>
   refine ⟨fun x hx e he=>?_,fun a ha b hb e he=>?_⟩
   ·have:=Q1g (Q1g hq x hx) e he;simpa [SF.f1] using this
   have:=Q1g (Q1g (Q1g hr a ha) b hb) e he;simpa [SF.f2] using this
theorem SF.Sh.len' (hs:f.Sh) {j:Int} (h0:0≤j) (h1:j<f.s.fr.length):((rx f.ac j).length:Int)=ix f.sz (ix f.s.fr j):=by
 have:=(hs.act j.toNat (by have:=hs.la;omega)).1
 rwa [zK h0] at this
theorem SF.Sh.val' (hs:f.Sh) {j e:Int} (h0:0≤j) (h1:j<f.s.fr.length) (h2:0≤e) (h3:e<(rx f.ac j).length):0≤ix (rx f.ac j) e∧ix (rx f.ac j) e<ix f.sz (ix f.s.to j):=by
 have:=(hs.act j.toNat (by have:=hs.la;omega)).2;rw [zK h0] at this;exact Q1o this h2 h3
end
@[simp] abbrev Yj (a:SF) (b:Bool) (c:List (Nat × Ent)):List (Nat × Ent):=(1,.mix 5 [[iV a.s.n,.lst b 1 (Is a.s.fr),.lst b 1 (Is a.s.to),.lst b 1 (Is a.s.id),.lst b 1 (Ls a.s.cs)]])::c
theorem c40 [Kd Tryz.prog] (u:Bool) (f:SF) (hs:f.Sh):Contract Tryz.prog 125 [.agg (f.cells u)] (.tup (four f.fault)):=by
 refine Q4 (rs:=four f.fault) Tryz.func125 rfl rfl rfl rfl (by simp [Tryz.f125]) fun F hN hP=>?_;have hC:=hs.cat.1;have hl1:=hC.lt;have hl2:=hC.li;have hl3:=hs.ls;have hl4:=hs.la;have hl5:=hC.lc;have hm40:=hC.m40;have hn8:=hC.n8;refine srQ hN fun K hK=>?_;simp [SF.cells];refine hK _ ?_;clear hK K;refine srQ hN fun K hK=>?_;simp;refine hK _ ?_;clear hK K;refine Q3 (srQ hN fun K hK=>?_);simp;refine hK _ (Q6 (Qr (fun x:Nat=>⟨[(1,.adr 0 0 0),(6,.adr 1 0 0),(7,iV x)],Y4 f u (Yj f u []),2⟩) (fun x=>x≤f.s.id.length∧∀ y:Nat,y<x→∀ e:Nat,e<f.lu y→f.un y e) (fun x=>f.s.id.length - x) 0 (by simp) (Wk.rel [(0,0),(1,1)] (by simp) (by simp) (by rw [hP];simp) (by simp) (by simp) (by simp) (by simp [hhOk,back])) ?_));clear hK K
 rintro x ⟨hx0,hi0⟩
 refine Q3 (srQ hN fun K hK=>?_);simp;refine hK _ ?_;clear hK K;refine Q7 rfl (fun h=>?_) fun h=>?_
 ·simp at h;have hx:x<f.s.id.length:=by omega
  clear h;have c1:=hC.id' (j:=x) (by omega) (by omega);have c2:=hC.ids x hx;have c3:=hs.len' c1.1 c1.2;rw [c2.1] at c3;have c4:(f.lu x:Int)=ix f.sz x:=c3;have c5:=Q1o hs.sz (j:=x) (by omega) (by omega);refine Q8 (Q3 (Q6 (srQ hN fun K hK=>?_)));simp;refine hK _ (Q6 (Qr (fun e:Nat=>⟨[(1,.adr 0 0 0),(6,.adr 1 0 0),(7,iV x),(8,iV e)],Y4 f u (Yj f u []),2⟩) (fun e=>e≤f.lu x∧∀ y:Nat,y<e→f.un x y) (fun e=>f.lu x - e) 0 (by simp) (Wk.rel [(0,0),(1,1)] (by simp) (by simp) (by rw [hP];simp) (by simp) (by simp) (by simp) (by simp [hhOk,back])) ?_));clear hK K
  rintro e ⟨he0,hi2⟩
  refine Q3 (srQ hN fun K hK=>?_);simp [QP,QX,QA,QB,show x<f.sz.length by omega];refine hK _ ?_;clear hK K;refine Q7 rfl (fun h=>?_) fun h=>?_
  ·simp at h;have he:e<f.lu x:=by first|omega|(simp only [SF.lu];omega)
   clear h;have he3:e<(rx f.ac (ix f.s.id x)).length:=he;refine Q8 (Q3 (Q6 (srQ hN fun K hK=>?_)));simp [QP,QX,QA,QB,hl1,hl4,hl5,hx,c1.1,c1.2,he3];refine hK _ ?_;clear hK K;refine Q7 rfl (fun h=>?_) fun h=>?_
   ·simp at h;have hn:¬ f.un x e:=h;refine srQ hN fun K hK=>?_;simp;refine hK _ (Qg ?_);clear hK K;rw [Q6i hx he hi0 hi2 hn];refine ⟨.one rfl rfl (.one rfl rfl (.one rfl rfl (.one rfl rfl .nil))),_,[],rfl,by simp,UpL.refl _⟩
   simp at h;have hc:f.un x e:=h;refine Q8 (runQ hN fun K hK=>?_);simp;refine hK _ ?_;clear hK K;rw [Qh (n:=f.lu x) (by omega) (by omega)];refine ⟨e+1,⟨by omega,Qp hi2 hc⟩,by dsimp only;omega,(Wk.rel [(0,0),(1,1)] (by simp) (by simp) (by rw [hP];simp) (by simp) (by simp) (by simp) (by simp [hhOk,back]))⟩
  simp at h;have he2:f.lu x≤e:=by first|omega|(simp only [SF.lu];omega)
  clear h;refine Qk ?_;simp;refine runQ hN fun K hK=>?_;simp;refine hK _ ?_;clear hK K;rw [Qh (n:=f.s.id.length) (by omega) (by omega)];refine ⟨x+1,⟨by omega,Qp hi0 fun y hy=>hi2 y (by omega)⟩,by dsimp only;omega,(Wk.rel [(0,0),(1,1)] (by simp) (by simp) (by rw [hP];simp) (by simp) (by simp) (by simp) (by simp [hhOk,back]))⟩
 simp at h;have hx2:f.s.id.length≤x:=by omega
 clear h;have hi1:∀ y:Nat,y<f.s.id.length→∀ e:Nat,e<f.lu y→f.un y e:=fun y hy=>hi0 y (by omega);refine Qk ?_;simp;refine Q3 (srQ hN fun K hK=>?_);simp;refine hK _ (Q6 (Qr (fun a:Nat=>⟨[(1,.adr 0 0 0),(6,.adr 1 0 0),(9,iV a)],Y4 f u (Yj f u []),2⟩) (fun a=>a≤f.s.fr.length∧∀ y:Nat,y<a→∀ b:Nat,b<f.s.fr.length→∀ e:Nat,e<f.la y→f.as y b e) (fun a=>f.s.fr.length - a) 0 (by simp) (Wk.rel [(0,0),(1,1)] (by simp) (by simp) (by rw [hP];simp) (by simp) (by simp) (by simp) (by simp [hhOk,back])) ?_));clear hK K;clear hi0 hx2 hx0 x
 rintro a ⟨ha0,hi3⟩
 refine Q3 (srQ hN fun K hK=>?_);simp;refine hK _ ?_;clear hK K;refine Q7 rfl (fun h=>?_) fun h=>?_
 ·simp at h;have ha:a<f.s.fr.length:=by omega
  clear h;have c1:=hC.fr' (j:=a) (by omega) (by omega);have c2:=hC.row' (j:=a) (by omega) (by omega);have c3:(f.la a:Int)=ix f.sz (ix f.s.fr a):=hs.len' (j:=a) (by omega) (by omega);have c5:=Q1o hs.sz (j:=ix f.s.fr a) (by omega) (by omega);refine Q8 (Q3 (Q6 (srQ hN fun K hK=>?_)));simp;refine hK _ (Q6 (Qr (fun b:Nat=>⟨[(1,.adr 0 0 0),(6,.adr 1 0 0),(9,iV a),(10,iV b)],Y4 f u (Yj f u []),2⟩) (fun b=>b≤f.s.fr.length∧∀ y:Nat,y<b→∀ e:Nat,e<f.la a→f.as a y e) (fun b=>f.s.fr.length - b) 0 (by simp) (Wk.rel [(0,0),(1,1)] (by simp) (by simp) (by rw [hP];simp) (by simp) (by simp) (by simp) (by simp [hhOk,back])) ?_));clear hK K
  rintro b ⟨hb0,hi4⟩
  refine Q3 (srQ hN fun K hK=>?_);simp;refine hK _ ?_;clear hK K;refine Q7 rfl (fun h=>?_) fun h=>?_
  ·simp at h;have hb:b<f.s.fr.length:=(by omega);clear h;refine Q8 (Q3 (Q6 (Q3 (srQ hN fun K hK=>?_))));simp [QP,QX,QA,QB,hl1,hl4,hl5,ha,hb];refine hK _ ?_;clear hK K;refine Q7 rfl (fun e1=>?_) fun e1=>?_
   ·simp at e1;have hc:∀ e:Nat,e<f.la a→f.as a b e:=fun e _ q=>absurd q e1;refine Qk ?_;simp;refine runQ hN fun K hK=>?_;simp;refine hK _ ?_;clear hK K;rw [Qh (n:=f.s.fr.length) (by omega) (by omega)];refine ⟨b+1,⟨by omega,Qp hi4 hc⟩,by dsimp only;omega,(Wk.rel [(0,0),(1,1)] (by simp) (by simp) (by rw [hP];simp) (by simp) (by simp) (by simp) (by simp [hhOk,back]))⟩
   simp at e1;have d0:=(hC.cell' (f:=a) (g:=b) (by omega) (by omega) (by omega) (by omega)).2 e1;have d1:=hs.len' (j:=b) (by omega) (by omega);have d2:=hs.len' d0.1 d0.2.1;rw [d0.2.2.1] at d2;rw [← e1] at d1;refine Q8 (srQ hN fun K hK=>?_);simp;refine hK _ (Q6 (Qr (fun e:Nat=>⟨[(1,.adr 0 0 0),(6,.adr 1 0 0),(9,iV a),(10,iV b),(11,iV e)],Y4 f u (Yj f u []),2⟩) (fun e=>e≤f.la a∧∀ y:Nat,y<e→f.as a b y) (fun e=>f.la a - e) 0 (by simp) (Wk.rel [(0,0),(1,1)] (by simp) (by simp) (by rw [hP];simp) (by simp) (by simp) (by simp) (by simp [hhOk,back])) ?_));clear hK K
   rintro e ⟨he0,hi5⟩
   refine Q3 (srQ hN fun K hK=>?_);simp [QP,QX,QA,QB,hl1,hl4,hl5,ha,c1.1,c1.2,show ix f.s.fr a<f.sz.length by omega];refine hK _ ?_;clear hK K;refine Q7 rfl (fun h=>?_) fun h=>?_
   ·simp at h;have he:e<f.la a:=by first|omega|(simp only [SF.la];omega)
    clear h;have he3:e<(rx f.ac a).length:=he;have d3:=hs.val' (j:=a) (e:=e) (by omega) (by omega) (by omega) (by simp only [SF.la] at he;omega);refine Q8 (Q3 (Q6 (srQ hN fun K hK=>?_)));simp [QP,QX,QA,QB,hl1,hl4,hl5,c2,ha,hb,d0.1,d3.1,he3,d0.2.1,show ix (rx f.ac a) e<(rx f.ac b).length by omega,show e<(rx f.ac (ix (rx f.s.cs a) b)).length by omega];refine hK _ ?_;clear hK K;refine Q7 rfl (fun h=>?_) fun h=>?_
    ·simp at h;have hn:¬ f.as a b e:=fun q=>h (q e1);refine srQ hN fun K hK=>?_;simp;refine hK _ (Qg ?_);clear hK K;rw [Q6j ha hb he hi1 hi3 hi4 hi5 hn];refine ⟨.one rfl rfl (.one rfl rfl (.one rfl rfl (.one rfl rfl .nil))),_,[],rfl,by simp,UpL.refl _⟩
    simp at h;have hc:f.as a b e:=fun _=>h;refine Q8 (runQ hN fun K hK=>?_);simp;refine hK _ ?_;clear hK K;rw [Qh (n:=f.la a) (by omega) (by omega)];refine ⟨e+1,⟨by omega,Qp hi5 hc⟩,by dsimp only;omega,(Wk.rel [(0,0),(1,1)] (by simp) (by simp) (by rw [hP];simp) (by simp) (by simp) (by simp) (by simp [hhOk,back]))⟩
   simp at h;have he2:f.la a≤e:=by first|omega|(simp only [SF.la];omega)
   clear h;have hc:∀ e:Nat,e<f.la a→f.as a b e:=fun y hy=>hi5 y (by omega);refine Qk ?_;simp;refine runQ hN fun K hK=>?_;simp;refine hK _ ?_;clear hK K;rw [Qh (n:=f.s.fr.length) (by omega) (by omega)];refine ⟨b+1,⟨by omega,Qp hi4 hc⟩,by dsimp only;omega,(Wk.rel [(0,0),(1,1)] (by simp) (by simp) (by rw [hP];simp) (by simp) (by simp) (by simp) (by simp [hhOk,back]))⟩
  simp at h;have hb2:f.s.fr.length≤b:=by omega
  clear h;refine Qk ?_;simp;refine runQ hN fun K hK=>?_;simp;refine hK _ ?_;clear hK K;rw [Qh (n:=f.s.fr.length) (by omega) (by omega)];refine ⟨a+1,⟨by omega,Qp hi3 fun y hy=>hi4 y (by omega)⟩,by dsimp only;omega,(Wk.rel [(0,0),(1,1)] (by simp) (by simp) (by rw [hP];simp) (by simp) (by simp) (by simp) (by simp [hhOk,back]))⟩
 simp at h;have ha2:f.s.fr.length≤a:=by omega
 clear h;refine Qk ?_;simp;refine srQ hN fun K hK=>?_;simp;refine hK _ (Qg ?_);clear hK K;rw [Q3N hi1 fun y hy=>hi3 y (by omega)];refine ⟨.one rfl rfl (.one rfl rfl (.one rfl rfl (.one rfl rfl .nil))),_,[],rfl,by simp,UpL.refl _⟩
@[simp] abbrev Y9 (a:SF) (b:Bool) (c:List (Nat × AV)):List (Nat × AV):=(0,.rptr (YG a b []))::(6,.rptr (YG a b []))::c
theorem c45 [Kd Tryz.prog] (u:Bool) (f:SF) (hs:f.Sh):Contract Tryz.prog 129 [.rptr (f.cells u)] (.tup (four f.fault)):=by
 refine Q4 (rs:=four f.fault) Tryz.func129 rfl rfl rfl rfl (by simp [Tryz.f129]) fun F hN hP=>?_;have hC:=hs.cat.1;have hl1:=hC.lt;have hl2:=hC.li;have hl3:=hs.ls;have hl4:=hs.la;have hl5:=hC.lc;have hm40:=hC.m40;have hn8:=hC.n8;simp only [SF.cells];refine srQ hN fun K hK=>?_;simp;refine hK _ ?_;clear hK K;refine srQ hN fun K hK=>?_;simp;refine hK _ ?_;clear hK K;refine Q3 (srQ hN fun K hK=>?_);simp;refine hK _ (Q6 (Qr (fun x:Nat=>⟨Y9 f u [(23,.lst u 1 (Is f.s.id)),(24,iV f.s.id.length),(25,iV x)],[],0⟩) (fun x=>x≤f.s.id.length∧∀ y:Nat,y<x→∀ e:Nat,e<f.lu y→f.un y e) (fun x=>f.s.id.length - x) 0 (by simp) (rbQ hP []) ?_));clear hK K
 rintro x ⟨hx0,hi0⟩
 refine srQ hN fun K hK=>?_;simp;refine hK _ ?_;clear hK K;refine Q3 (Q7 rfl (fun h=>?_) fun h=>?_)
 ·simp at h;have hx:x<f.s.id.length:=by omega
  clear h;have c1:=hC.id' (j:=x) (by omega) (by omega);have c2:=hC.ids x hx;have c3:=hs.len' c1.1 c1.2;rw [c2.1] at c3;have c4:(f.lu x:Int)=ix f.sz x:=c3;have c5:=Q1o hs.sz (j:=x) (by omega) (by omega);refine Q8 (Q3 (Q6 (srQ hN fun K hK=>?_)));simp [QP,QX,QA,QB,hl1,hl4,hl5,hx];refine hK _ ?_;clear hK K;refine srQ hN fun K hK=>?_;simp [QP,QX,QA,QB,hl1,hl4,hl5,c1.1,c1.2];refine hK _ (Q6 (Qr (fun e:Nat=>⟨Y9 f u [(23,.lst u 1 (Is f.s.id)),(24,iV f.s.id.length),(25,iV x),(7,iV x),(36,lI (rx f.ac (ix f.s.id x))),(37,.val (.int .i64 (rx f.ac (ix f.s.id x)).length)),(38,iV e)],[],0⟩) (fun e=>e≤f.lu x∧∀ y:Nat,y<e→f.un x y) (fun e=>f.lu x - e) 0 (by simp) (rbQ hP []) ?_));clear hK K
  rintro e ⟨he0,hi2⟩
  refine srQ hN fun K hK=>?_;simp;refine hK _ ?_;clear hK K;refine Q3 (Q7 rfl (fun h=>?_) fun h=>?_)
  ·simp at h;have he:e<f.lu x:=by first|omega|(simp only [SF.lu];omega)
   clear h;have he3:e<(rx f.ac (ix f.s.id x)).length:=he;refine Q8 (Q3 (Q6 (srQ hN fun K hK=>?_)));simp [QP,QX,QA,QB,hl1,hl4,hl5,he3];refine hK _ ?_;clear hK K;refine srQ hN fun K hK=>?_;simp;refine hK _ ?_;clear hK K;refine Q7 rfl (fun h=>?_) fun h=>?_
   ·simp at h;have hn:¬ f.un x e:=h;refine srQ hN fun K hK=>?_;simp;refine hK _ (Qg ?_);clear hK K;rw [Q6i hx he hi0 hi2 hn];refine ⟨.one rfl rfl (.one rfl rfl (.one rfl rfl (.one rfl rfl .nil))),_,[],rfl,by simp,UpL.refl _⟩
   simp at h;have hc:f.un x e:=h;refine Q8 (runQ hN fun K hK=>?_);simp;refine hK _ ?_;clear hK K;rw [Qh (n:=f.lu x) (by omega) (by omega)];refine ⟨e+1,⟨by omega,Qp hi2 hc⟩,by dsimp only;omega,(rbQ hP [])⟩
  simp at h;have he2:f.lu x≤e:=by first|omega|(simp only [SF.lu];omega)
  clear h;refine Qk ?_;simp;refine runQ hN fun K hK=>?_;simp;refine hK _ ?_;clear hK K;rw [Qh (n:=f.s.id.length) (by omega) (by omega)];refine ⟨x+1,⟨by omega,Qp hi0 fun y hy=>hi2 y (by omega)⟩,by dsimp only;omega,(rbQ hP [])⟩
 simp at h;have hx2:f.s.id.length≤x:=by omega
 clear h;have hi1:∀ y:Nat,y<f.s.id.length→∀ e:Nat,e<f.lu y→f.un y e:=fun y hy=>hi0 y (by omega);refine Qk ?_;simp;refine Q3 (srQ hN fun K hK=>?_);simp [hl5];refine hK _ (Q6 (Qr (fun a:Nat=>⟨Y9 f u [(53,.lst u 1 (Ls f.s.cs)),(54,iV f.s.fr.length),(55,iV a)],[],0⟩) (fun a=>a≤f.s.fr.length∧∀ y:Nat,y<a→∀ b:Nat,b<f.s.fr.length→∀ e:Nat,e<f.la y→f.as y b e) (fun a=>f.s.fr.length - a) 0 (by simp) (rbQ hP []) ?_));clear hK K;clear hi0 hx2 hx0 x
 rintro a ⟨ha0,hi3⟩
 refine srQ hN fun K hK=>?_;simp;refine hK _ ?_;clear hK K;refine Q3 (Q7 rfl (fun h=>?_) fun h=>?_)
 ·simp at h;have ha:a<f.s.fr.length:=by omega
  clear h;have c1:=hC.fr' (j:=a) (by omega) (by omega);have c2:=hC.row' (j:=a) (by omega) (by omega);have c3:(f.la a:Int)=ix f.sz (ix f.s.fr a):=hs.len' (j:=a) (by omega) (by omega);have c5:=Q1o hs.sz (j:=ix f.s.fr a) (by omega) (by omega);refine Q8 (Q3 (Q6 (srQ hN fun K hK=>?_)));simp [QP,QX,QA,QB,hl1,hl4,hl5,ha];refine hK _ ?_;clear hK K;refine srQ hN fun K hK=>?_;simp [c2];refine hK _ (Q6 (Qr (fun b:Nat=>⟨Y9 f u [(53,.lst u 1 (Ls f.s.cs)),(54,iV f.s.fr.length),(55,iV a),(11,iV a),(60,lI (rx f.s.cs a)),(61,iV f.s.fr.length),(62,iV b)],[],0⟩) (fun b=>b≤f.s.fr.length∧∀ y:Nat,y<b→∀ e:Nat,e<f.la a→f.as a y e) (fun b=>f.s.fr.length - b) 0 (by simp) (rbQ hP []) ?_));clear hK K
  rintro b ⟨hb0,hi4⟩
  refine srQ hN fun K hK=>?_;simp;refine hK _ ?_;clear hK K;refine Q3 (Q7 rfl (fun h=>?_) fun h=>?_)
  ·simp at h;have hb:b<f.s.fr.length:=(by omega);clear h;refine Q8 (Q3 (Q6 (srQ hN fun K hK=>?_)));simp [QP,QX,QA,QB,hl1,hl4,hl5,c2,hb];refine hK _ ?_;clear hK K;refine Q3 (srQ hN fun K hK=>?_);simp;refine hK _ ?_;clear hK K;refine Q7 rfl (fun e0=>?_) fun e0=>?_
   ·simp at e0;have e1:¬ ix f.s.to a=ix f.s.fr b:=fun q=>by have:=((hC.cell' (f:=a) (g:=b) (by omega) (by omega) (by omega) (by omega)).2 q).1;omega
    have hc:∀ e:Nat,e<f.la a→f.as a b e:=fun e _ q=>absurd q e1;refine Qk ?_;simp;refine runQ hN fun K hK=>?_;simp;refine hK _ ?_;clear hK K;rw [Qh (n:=f.s.fr.length) (by omega) (by omega)];refine ⟨b+1,⟨by omega,Qp hi4 hc⟩,by dsimp only;omega,(rbQ hP [])⟩
   simp at e0;have e1:ix f.s.to a=ix f.s.fr b:=zG fun q=>by have:=(hC.cell' (f:=a) (g:=b) (by omega) (by omega) (by omega) (by omega)).1 q;omega
   have d0:=(hC.cell' (f:=a) (g:=b) (by omega) (by omega) (by omega) (by omega)).2 e1;have d1:=hs.len' (j:=b) (by omega) (by omega);have d2:=hs.len' d0.1 d0.2.1;rw [d0.2.2.1] at d2;rw [← e1] at d1;refine Q8 (srQ hN fun K hK=>?_);simp [QP,QX,QA,QB,hl1,hl4,hl5,ha];refine hK _ (Q6 (Qr (fun e:Nat=>⟨Y9 f u [(53,.lst u 1 (Ls f.s.cs)),(54,iV f.s.fr.length),(55,iV a),(11,iV a),(60,lI (rx f.s.cs a)),(61,iV f.s.fr.length),(62,iV b),(13,iV b),(14,iV (ix (rx f.s.cs a) b)),(75,lI (rx f.ac a)),(76,.val (.int .i64 (rx f.ac a).length)),(77,iV e)],[],0⟩) (fun e=>e≤f.la a∧∀ y:Nat,y<e→f.as a b y) (fun e=>f.la a - e) 0 (by simp) (rbQ hP []) ?_));clear hK K
   rintro e ⟨he0,hi5⟩
   refine srQ hN fun K hK=>?_;simp;refine hK _ ?_;clear hK K;refine Q3 (Q7 rfl (fun h=>?_) fun h=>?_)
   ·simp at h;have he:e<f.la a:=by first|omega|(simp only [SF.la];omega)
    clear h;have he3:e<(rx f.ac a).length:=he;have d3:=hs.val' (j:=a) (e:=e) (by omega) (by omega) (by omega) (by simp only [SF.la] at he;omega);refine Q8 (Q3 (Q6 (srQ hN fun K hK=>?_)));simp [QP,QX,QA,QB,hl1,hl4,hl5,he3];refine hK _ ?_;clear hK K;refine srQ hN fun K hK=>?_;simp [QP,QX,QA,QB,hl1,hl4,hl5,hb,d0.1,d3.1,d0.2.1,show ix (rx f.ac a) e<(rx f.ac b).length by omega,show e<(rx f.ac (ix (rx f.s.cs a) b)).length by omega];refine hK _ ?_;clear hK K;refine Q7 rfl (fun h=>?_) fun h=>?_
    ·simp at h;have hn:¬ f.as a b e:=fun q=>h (q e1);refine srQ hN fun K hK=>?_;simp;refine hK _ (Qg ?_);clear hK K;rw [Q6j ha hb he hi1 hi3 hi4 hi5 hn];refine ⟨.one rfl rfl (.one rfl rfl (.one rfl rfl (.one rfl rfl .nil))),_,[],rfl,by simp,UpL.refl _⟩
    simp at h;have hc:f.as a b e:=fun _=>h;refine Q8 (runQ hN fun K hK=>?_);simp;refine hK _ ?_;clear hK K;rw [Qh (n:=f.la a) (by omega) (by omega)];refine ⟨e+1,⟨by omega,Qp hi5 hc⟩,by dsimp only;omega,(rbQ hP [])⟩
   simp at h;have he2:f.la a≤e:=by first|omega|(simp only [SF.la];omega)
   clear h;have hc:∀ e:Nat,e<f.la a→f.as a b e:=fun y hy=>hi5 y (by omega);refine Qk ?_;simp;refine runQ hN fun K hK=>?_;simp;refine hK _ ?_;clear hK K;rw [Qh (n:=f.s.fr.length) (by omega) (by omega)];refine ⟨b+1,⟨by omega,Qp hi4 hc⟩,by dsimp only;omega,(rbQ hP [])⟩
  simp at h;have hb2:f.s.fr.length≤b:=by omega
  clear h;refine Qk ?_;simp;refine runQ hN fun K hK=>?_;simp;refine hK _ ?_;clear hK K;rw [Qh (n:=f.s.fr.length) (by omega) (by omega)];refine ⟨a+1,⟨by omega,Qp hi3 fun y hy=>hi4 y (by omega)⟩,by dsimp only;omega,(rbQ hP [])⟩
 simp at h;have ha2:f.s.fr.length≤a:=by omega
 clear h;refine Qk ?_;simp;refine srQ hN fun K hK=>?_;simp;refine hK _ (Qg ?_);clear hK K;rw [Q3N hi1 fun y hy=>hi3 y (by omega)];refine ⟨.one rfl rfl (.one rfl rfl (.one rfl rfl (.one rfl rfl .nil))),_,[],rfl,by simp,UpL.refl _⟩
def SF.Is (f:SF):Prop:=f.Sh∧f.Law
theorem SF.pur {h:HP} {u v:Bool} {c:SF}:PurL h (c.cells u) (c.cells v):=.cons .val (.cons .lst (.cons .lst (.cons .lst (.cons .lst (.cons .lst (.cons .lst .nil))))))
theorem c16 [Kd Tryz.prog] (u:Bool) (f:SF):Contract Tryz.prog 85 [.agg (f.cells u)] (.val (.bool (bo f.Is))):=by
 refine Q4 (rs:=[.val (.bool (bo f.Is))]) Tryz.func85 rfl rfl rfl rfl (by simp [Tryz.f85]) fun F hN hP=>?_;refine srQ hN fun K hK=>?_;simp [SF.cells];refine hK _ ?_;clear hK K;refine Q3 (srQ hN fun K hK=>?_);simp;refine Q0 (c39 u f) (.cons (.aggL SF.pur) .nil) ?_;simp [unk,unA,unE,flat];refine hK _ ?_;clear hK K;refine Q7 rfl (fun h=>?_) fun h=>?_
 ·refine srQ hN fun K hK=>?_;simp;refine hK _ (Qg (Qc rfl (bo_f fun hs=>?_)));clear hK K;exact Q70 h hs.1
 have hs:f.Sh:=Q71 h;refine Q8 (srQ hN fun K hK=>?_);simp;refine Q0 (c40 u f hs) (.cons (.aggL SF.pur) .nil) ?_;simp [unk,unA,unE,unT,flat,four];refine hK _ ?_;clear hK K;refine srQ hN fun K hK=>?_;simp;refine hK _ (Qg (Qc rfl (Q8H ?_)));clear hK K;exact ⟨fun q=>⟨hs,sfault_zero.1 q⟩,fun q=>sfault_zero.2 q.2⟩
theorem c21 [Kd Tryz.prog] (u:Bool) (f:SF):Contract Tryz.prog 89 [.rptr (f.cells u)] (.val (.bool (bo f.Is))):=by
 refine Q4 (rs:=[.val (.bool (bo f.Is))]) Tryz.func89 rfl rfl rfl rfl (by simp [Tryz.f89]) fun F hN hP=>?_;refine srQ hN fun K hK=>?_;simp;refine hK _ ?_;clear hK K;refine Q3 (srQ hN fun K hK=>?_);simp;refine Q0 (c44 u f) (.cons .rptr .nil) ?_;simp [unk,unA,unE,flat];refine hK _ ?_;clear hK K;refine Q7 rfl (fun h=>?_) fun h=>?_
 ·refine srQ hN fun K hK=>?_;simp;refine hK _ (Qg (Qc rfl (bo_f fun hs=>?_)));clear hK K;exact Q70 h hs.1
 have hs:f.Sh:=Q71 h;refine Q8 (srQ hN fun K hK=>?_);simp;refine Q0 (c45 u f hs) (.cons .rptr .nil) ?_;simp [unk,unA,unE,unT,flat,four];refine hK _ ?_;clear hK K;refine srQ hN fun K hK=>?_;simp;refine hK _ (Qg (Qc rfl (Q8H ?_)));clear hK K;exact ⟨fun q=>⟨hs,sfault_zero.1 q⟩,fun q=>sfault_zero.2 q.2⟩
end
section
attribute [local simp] Qd Qt Ql QS Qv
@[simp] theorem z29:tyi Tryz.prog 48=some ⟨true,15,328,[.int .i64 0,.slice none 0 0,.slice none 0 0,.slice none 0 0,.slice none 0 0,.slice none 0 0,.slice none 0 0,.int .i64 0,.slice none 0 0,.slice none 0 0,.slice none 0 0,.slice none 0 0,.slice none 0 0,.slice none 0 0,.slice none 0 0]⟩:=by kernel_rfl
@[simp] theorem z35:tyi Tryz.prog 52=some ⟨true,15,328,[.int .i64 0,.slice none 0 0,.slice none 0 0,.slice none 0 0,.slice none 0 0,.slice none 0 0,.slice none 0 0,.int .i64 0,.slice none 0 0,.slice none 0 0,.slice none 0 0,.slice none 0 0,.slice none 0 0,.slice none 0 0,.slice none 0 0]⟩:=by kernel_rfl
@[simp] theorem zf29_0:fld Tryz.prog 48 0=some (0,7,true):=by kernel_rfl
@[simp] theorem zf29_1:fld Tryz.prog 48 1=some (7,7,true):=by kernel_rfl
@[simp] theorem zf29_2:fld Tryz.prog 48 2=some (14,1,false):=by kernel_rfl
@[simp] theorem zf35_0:fld Tryz.prog 52 0=some (0,7,true):=by kernel_rfl
@[simp] theorem zf35_1:fld Tryz.prog 52 1=some (7,7,true):=by kernel_rfl
@[simp] theorem zf35_2:fld Tryz.prog 52 2=some (14,1,false):=by kernel_rfl
@[simp] theorem zp33:Q4I Tryz.prog 34=some [(0,5),(5,1),(6,1)]:=by kernel_rfl
@[simp] theorem ze98:elm Tryz.prog 102=some 71:=by kernel_rfl
@[simp] theorem ze77:elm Tryz.prog 138=some 81:=by kernel_rfl
@[simp] theorem z53:tyi Tryz.prog 81=some ⟨false,1,8,[.pointer none]⟩:=by kernel_rfl
@[simp] theorem z55:tyi Tryz.prog 71=some ⟨false,1,8,[.pointer none]⟩:=by kernel_rfl
theorem Q5m {l:Int} {n:Nat} (h:0≤less l n):(n:Int)≤l∧less l n=l - n:=by
 unfold less at h ⊢;split at h
 ·omega
 rename_i h1;rw [if_neg h1];omega
theorem Q5Y {a:Int} {f:Int→Int} (h:0≤nn a f):0≤a∧0≤f a∧nn a f=f a:=by
 unfold nn at h ⊢;split at h
 ·omega
 rename_i h1;rw [if_neg h1];exact ⟨by omega,h,rfl⟩
theorem lessS_ok (xs:List (List Int)):∀ l:Int,0≤Q4T l xs→(sumL xs:Int)≤l∧(∀ x∈xs,(x.length:Int)≤l)∧Q4T l xs=l - sumL xs:=by
 induction xs with
 | nil=>intro l h;simp only [Q4T] at h ⊢;simp [sumL];exact h
 | cons x r ih =>
  intro l h;simp only [Q4T] at h ⊢;split at h
  ·omega
  rename_i h1;rw [if_neg h1];obtain ⟨a1,a2⟩:=Q5m (l:=l) (n:=x.length) (by omega);rw [a2] at h ⊢;obtain ⟨b1,b2,b3⟩:=ih _ h;have hs:sumL (x :: r)=x.length+sumL r:=by simp [sumL]
  refine ⟨by rw [hs];push_cast;omega,fun y hy=>?_,by rw [b3,hs];push_cast;omega⟩;rcases List.mem_cons.1 hy with rfl|hy
  ·exact a1
  have:=b2 y hy;omega
theorem Q5l {l:Int} {xs:List (List Int)} (h:0≤Q2s l xs):(xs.length:Int)≤l∧(sumL xs:Int)≤l∧(∀ x∈xs,(x.length:Int)≤l)∧Q2s l xs≤l:=by
 unfold Q2s at h ⊢;split at h
 ·omega
 rename_i h1;rw [if_neg h1];obtain ⟨b1,b2,b3⟩:=lessS_ok xs _ h;exact ⟨by omega,by omega,fun x hx=>by have:=b2 x hx;omega,by omega⟩
theorem szCat_ok {l:Int} {c:Cat} (hl:l≤1048576) (h:0≤Q4w l c):c.ok:=by
 unfold Q4w at h;obtain ⟨a1,a2,_⟩:=Q5Y h;obtain ⟨b1,b2,_⟩:=Q5Y a2;obtain ⟨c1,c2,_⟩:=Q5Y b2;obtain ⟨d1,d2,_⟩:=Q5Y c2;obtain ⟨e1,e2⟩:=Q5m a1;obtain ⟨f1,f2⟩:=Q5m b1;obtain ⟨g1,g2⟩:=Q5m c1;obtain ⟨h1,h2,h3,_⟩:=Q5l d1;exact ⟨by omega,by omega,by omega,by omega,fun x hx=>by have:=h3 x hx;omega,by omega⟩
theorem Q9c {l:Int} {f:SF} (hl:l≤1048576) (h:0≤szSF l f):f.ok:=by
 unfold szSF at h;obtain ⟨a1,a2,_⟩:=Q5Y h;obtain ⟨b1,b2,_⟩:=Q5Y a2;obtain ⟨c1,c2,_⟩:=Q5Y b2;have hc:=Q57 (l:=l) (c:=f.s) hl;obtain ⟨e1,e2⟩:=Q5m b1;obtain ⟨h1,h2,h3,_⟩:=Q5l c1;exact ⟨szCat_ok hl a1,by omega,by omega,fun x hx=>by have:=h3 x hx;omega,by omega⟩
theorem Q3O {l:Int} {f:SF} (h:l≤1048576):szSF l f≤1048576:=Q5X (fun x hx _=>Q5X (fun y hy _=>Q5X (fun z hz _=>by rw [← hz];exact Q45 (by rw [← hy];exact Q2U (by rw [← hx];exact Q57 h))) (by decide)) (by decide)) (by decide)
theorem Cat.ok_size {f:Cat} (h:f.ok):f.size≤1099514773504:=by
 obtain ⟨hfr,hto,hid,hcs1,hcs2,hcs3⟩:=h;simp only [Cat.size];omega
theorem SF.ok_size {f:SF} (h:f.ok):f.size≤2199027449856:=by
 obtain ⟨hs,hsz,hac1,hac2,hac3⟩:=h;have s_s:=Cat.ok_size hs;simp only [SF.size];omega
theorem heldSF [Kd Tryz.prog] (u:Bool) (f:SF) (k:Int) (hf:f.ok) (h2:0≤k) (h3:k+f.size≤1152921504606846976):Contract Tryz.prog 21 [.agg ((f.mark k).cells u),iV k] (iV (k+f.size)):=by
 obtain ⟨hs,hsz,hac1,hac2,hac3⟩:=hf;have hz:f.size=f.s.size+f.sz.length+sumL f.ac:=rfl;refine Q4 (rs:=[iV (k+f.size)]) Tryz.func21 rfl rfl rfl rfl (by simp [Tryz.f21]) fun F hN hP=>?_;refine srQ hN fun K hK=>?_;simp [SF.cells,Cat.mark,SF.mark];refine hK _ ?_;clear hK K;refine srQ hN fun K hK=>?_;simp;refine Q0 (c36 u f.s (k) hs (by omega) (by omega)) (.cons (.aggL (.cons .val (.cons .lst (.cons .lst (.cons .lst (.cons .lst .nil)))))) (.cons .val .nil)) ?_;simp [unk,unA,unE,flat];refine hK _ ?_;clear hK K;refine Q3 (srQ hN fun K hK=>?_);simp;refine hK _ ?_;clear hK K;refine Q7 rfl (fun g=>?_) fun g=>?_
 ·simp at g;omega
 refine Q8 (srQ hN fun K hK=>?_);simp;refine Q0 (c53 u (run (k+f.s.size) f.sz.length) (k+f.s.size) (by simpa using hsz) (by omega) (by omega)) (.cons .lst (.cons .val .nil)) ?_;simp [unk,unA,unE,flat];refine hK _ ?_;clear hK K;refine Q3 (srQ hN fun K hK=>?_);simp;refine hK _ ?_;clear hK K;refine Q7 rfl (fun g=>?_) fun g=>?_
 ·simp at g;omega
 refine Q8 (srQ hN fun K hK=>?_);simp;refine Q0 (c54 u f.ac (k+f.s.size+f.sz.length) hac1 hac2 (by omega) (by omega)) (.cons .lst (.cons .val .nil)) ?_;simp [unk,unA,unE,flat];refine hK _ ?_;clear hK K;refine Q3 (srQ hN fun K hK=>?_);simp;refine hK _ ?_;clear hK K;refine Q7 rfl (fun g=>?_) fun g=>?_
 ·simp at g;omega
 refine Q8 (srQ hN fun K hK=>?_);simp;refine hK _ (Qg (Qc rfl ?_));clear hK K;simp [hz,Int.add_assoc]
structure SM where
 s:SF
 t:SF
 p:List (List Int)
def SM.cells (u:Bool) (f:SM):List AV:=[iV f.s.s.n,.lst u 1 (Is f.s.s.fr),.lst u 1 (Is f.s.s.to),.lst u 1 (Is f.s.s.id),.lst u 1 (Ls f.s.s.cs),.lst u 1 (Is f.s.sz),.lst u 1 (Ls f.s.ac),iV f.t.s.n,.lst u 1 (Is f.t.s.fr),.lst u 1 (Is f.t.s.to),.lst u 1 (Is f.t.s.id),.lst u 1 (Ls f.t.s.cs),.lst u 1 (Is f.t.sz),.lst u 1 (Ls f.t.ac),.lst u 1 (Ls f.p)]
theorem SM.pur {h:HP} {u v:Bool} {c:SM}:PurL h (c.cells u) (c.cells v):=.cons .val (.cons .lst (.cons .lst (.cons .lst (.cons .lst (.cons .lst (.cons .lst (.cons .val (.cons .lst (.cons .lst (.cons .lst (.cons .lst (.cons .lst (.cons .lst (.cons .lst .nil))))))))))))))
def SM.mark (k:Int) (f:SM):SM:=⟨f.s.mark (k),f.t.mark (k+f.s.size),runs (k+f.s.size+f.t.size) f.p⟩
def SM.size (f:SM):Nat:=f.s.size+f.t.size+sumL f.p
def SM.ok (f:SM):Prop:=f.s.ok∧f.t.ok∧f.p.length≤1048576∧(∀ xs∈f.p,xs.length≤1048576)∧sumL f.p≤1099511627776
def SM.mu (f:SM) (k:Int):List Mu:=[⟨1,Is f.s.s.fr,Is (f.mark k).s.s.fr⟩,⟨1,Is f.s.s.to,Is (f.mark k).s.s.to⟩,⟨1,Is f.s.s.id,Is (f.mark k).s.s.id⟩,⟨1,Ls f.s.s.cs,Ls (f.mark k).s.s.cs⟩,⟨1,Is f.s.sz,Is (f.mark k).s.sz⟩,⟨1,Ls f.s.ac,Ls (f.mark k).s.ac⟩,⟨1,Is f.t.s.fr,Is (f.mark k).t.s.fr⟩,⟨1,Is f.t.s.to,Is (f.mark k).t.s.to⟩,⟨1,Is f.t.s.id,Is (f.mark k).t.s.id⟩,⟨1,Ls f.t.s.cs,Ls (f.mark k).t.s.cs⟩,⟨1,Is f.t.sz,Is (f.mark k).t.sz⟩,⟨1,Ls f.t.ac,Ls (f.mark k).t.ac⟩,⟨1,Ls f.p,Ls (f.mark k).p⟩]
theorem SM.ok_size {f:SM} (h:f.ok):f.size≤5497566527488:=by
 obtain ⟨hs,ht,hp1,hp2,hp3⟩:=h;have s_s:=SF.ok_size hs;have s_t:=SF.ok_size ht;simp only [SM.size];omega
theorem eqSM [Kd Tryz.prog] (u v:Bool) (f:SM):Contract Tryz.prog 27 [.agg (f.cells u),.agg (f.cells v)] (.val (.bool true)):=by
 refine Q4 (rs:=[.val (.bool true)]) Tryz.func27 rfl rfl rfl rfl (by simp [Tryz.f27]) fun F hN hP=>?_;refine srQ hN fun K hK=>?_;simp [SM.cells];refine hK _ ?_;clear hK K;refine Q3 (srQ hN fun K hK=>?_);simp;refine Q0 (c9 u v f.s) (.cons (.aggL SF.pur) (.cons (.aggL SF.pur) .nil)) ?_;simp [unk,unA,unE,flat];refine hK _ (Q7 rfl (fun h=>by simp at h) fun _=>?_);clear hK K;refine Q8 (Q3 (srQ hN fun K hK=>?_));simp;refine Q0 (c9 u v f.t) (.cons (.aggL SF.pur) (.cons (.aggL SF.pur) .nil)) ?_;simp [unk,unA,unE,flat];refine hK _ (Q7 rfl (fun h=>by simp at h) fun _=>?_);clear hK K;refine Q8 (Q3 (srQ hN fun K hK=>?_));simp;refine Q0 (c30 u v f.p) (.cons .lst (.cons .lst .nil)) ?_;simp [unk,unA,unE,flat];refine hK _ (Q7 rfl (fun h=>by simp at h) fun _=>?_);clear hK K;refine Q8 (srQ hN fun K hK=>?_);simp;refine hK _ ?_;clear hK K;refine Qg (Qc rfl rfl)
theorem toSM [Kd Tryz.prog] (u:Bool) (f:SM) (hf:f.ok):Contract Tryz.prog 25 [.agg (f.cells u)] (.agg (f.cells true)):=by
 obtain ⟨hs,ht,hp1,hp2,hp3⟩:=hf;refine Q16 Tryz.func25 rfl rfl z35 rfl rfl (by simp [Tryz.f25]) fun F hN hP=>?_;refine srQ hN fun K hK=>?_;simp [SM.cells];refine hK _ ?_;clear hK K;refine srQ hN fun K hK=>?_;simp;refine hK _ ?_;clear hK K;refine srQ hN fun K hK=>?_;simp;refine Q0 (c6 u f.s hs) (.cons (.aggL SF.pur) .nil) ?_;simp [unk,unA,unE,flat,unC,SF.cells];refine hK _ ?_;clear hK K;refine srQ hN fun K hK=>?_;simp;refine Q0 (c6 u f.t ht) (.cons (.aggL SF.pur) .nil) ?_;simp [unk,unA,unE,flat,unC,SF.cells];refine hK _ ?_;clear hK K;refine srQ hN fun K hK=>?_;simp;refine Q0 (c20 u f.p hp1 hp2) (.cons .lst .nil) ?_;simp [unk,unA,unE,flat];refine hK _ ?_;clear hK K;refine srQ hN fun K hK=>?_;simp;refine hK _ (Qg ⟨_,_,_,_,_,rfl,rfl,by simp,by simp,?_⟩);clear hK K;exact ⟨.agg rfl .nil,[iV f.s.s.n,lI f.s.s.fr,lI f.s.s.to,lI f.s.s.id,.lst true 1 (Ls f.s.s.cs),lI f.s.sz,.lst true 1 (Ls f.s.ac),iV f.t.s.n,lI f.t.s.fr,lI f.t.s.to,lI f.t.s.id,.lst true 1 (Ls f.t.s.cs),lI f.t.sz,.lst true 1 (Ls f.t.ac),.lst true 1 (Ls f.p)],[4,5,6,7,8,9,11,12,13,14,15,16,17],by simp,by simp,UpL.refl _⟩
def szSM (l:Int) (f:SM):Int:=nn (szSF l f.s) fun a0=>nn (szSF a0 f.t) fun a1=>nn (Q2s a1 f.p) fun a2=>a2
theorem szSM_le {l:Int} {f:SM} (h:l≤1048576):szSM l f≤1048576:=Q5X (fun x0 h0 _=>Q5X (fun x1 h1 _=>Q5X (fun x2 h2 _=>by rw [← h2];exact Q45 (by rw [← h1];exact Q3O (by rw [← h0];exact Q3O h))) (by decide)) (by decide)) (by decide)
theorem szSM_ok {l:Int} {f:SM} (hl:l≤1048576) (h:0≤szSM l f):f.ok:=by
 unfold szSM at h;obtain ⟨p0,q0,_⟩:=Q5Y h;have b0:=Q3O (f:=f.s) hl;obtain ⟨p1,q1,_⟩:=Q5Y q0;have b1:=Q3O (f:=f.t) b0;obtain ⟨p2,q2,_⟩:=Q5Y q1;obtain ⟨e2,e2a,e2b,_⟩:=Q5l p2;have b2:=Q45 (xs:=f.p) b1;exact ⟨Q9c hl p0,Q9c b0 p1,by omega,fun x hx=>by have:=e2b x hx;omega,by omega⟩
theorem cszSM [Kd Tryz.prog] (u:Bool) (f:SM) (l:Int) (h1:0≤l) (h2:l≤1048576):Contract Tryz.prog 23 [.agg (f.cells u),iV l] (iV (szSM l f)):=by
 refine Q4 (rs:=[iV (szSM l f)]) Tryz.func23 rfl rfl rfl rfl (by simp [Tryz.f23]) fun F hN hP=>?_;refine srQ hN fun K hK=>?_;simp [SM.cells];refine hK _ ?_;clear hK K;refine srQ hN fun K hK=>?_;simp;refine Q0 (c4 u f.s (l) h1 (h2)) (.cons (.aggL SF.pur) (.cons .val .nil)) ?_;simp [unk,unA,unE,flat];refine hK _ ?_;clear hK K;refine Q3 (srQ hN fun K hK=>?_);simp;refine hK _ ?_;clear hK K;refine Q7 rfl (fun g1=>?_) fun g1=>?_
 ·simp at g1;refine srQ hN fun K hK=>?_;simp;refine hK _ (Qg (Qc rfl ?_));clear hK K;simp only [szSM,nn];rw [if_pos g1]
 simp at g1;refine Q8 (srQ hN fun K hK=>?_);simp;refine Q0 (c4 u f.t (szSF (l) f.s) g1 (Q3O (h2))) (.cons (.aggL SF.pur) (.cons .val .nil)) ?_;simp [unk,unA,unE,flat];refine hK _ ?_;clear hK K;refine Q3 (srQ hN fun K hK=>?_);simp;refine hK _ ?_;clear hK K;refine Q7 rfl (fun g2=>?_) fun g2=>?_
 ·simp at g2;refine srQ hN fun K hK=>?_;simp;refine hK _ (Qg (Qc rfl ?_));clear hK K;simp only [szSM,nn];rw [if_neg (Int.not_lt.2 g1),if_pos g2]
 simp at g2;refine Q8 (srQ hN fun K hK=>?_);simp;refine Q0 (c15 u f.p (szSF (szSF (l) f.s) f.t) g2 (Q3O (Q3O (h2)))) (.cons .lst (.cons .val .nil)) ?_;simp [unk,unA,unE,flat];refine hK _ ?_;clear hK K;refine Q3 (srQ hN fun K hK=>?_);simp;refine hK _ ?_;clear hK K;refine Q7 rfl (fun g3=>?_) fun g3=>?_
 ·simp at g3;refine srQ hN fun K hK=>?_;simp;refine hK _ (Qg (Qc rfl ?_));clear hK K;simp only [szSM,nn];rw [if_neg (Int.not_lt.2 g1),if_neg (Int.not_lt.2 g2),if_pos g3]
 simp at g3;refine Q8 (srQ hN fun K hK=>?_);simp;refine hK _ (Qg (Qc rfl ?_));clear hK K;simp only [szSM,nn];rw [if_neg (Int.not_lt.2 g1),if_neg (Int.not_lt.2 g2),if_neg (Int.not_lt.2 g3)]
theorem markSM [Kd Tryz.prog] (f:SM) (k:Int) (hf:f.ok) (h2:0≤k) (h3:k+f.size≤576460752303423488) :
  MContract Tryz.prog 28 [.agg [iV f.s.s.n,.own 0 0 f.s.s.fr.length,.own 1 0 f.s.s.to.length,.own 2 0 f.s.s.id.length,.own 3 0 f.s.s.cs.length,.own 4 0 f.s.sz.length,.own 5 0 f.s.ac.length,iV f.t.s.n,.own 6 0 f.t.s.fr.length,.own 7 0 f.t.s.to.length,.own 8 0 f.t.s.id.length,.own 9 0 f.t.s.cs.length,.own 10 0 f.t.sz.length,.own 11 0 f.t.ac.length,.own 12 0 f.p.length],iV k] (f.mu k) (iV (k+f.size)):=by
 obtain ⟨hs,ht,hp1,hp2,hp3⟩:=hf;have hz:f.size=f.s.size+f.t.size+sumL f.p:=rfl;refine Q1h (ts:=[4]) (rv:=.int .i64 (k+f.size)) Tryz.func28 rfl rfl ?_ rfl (by simp [Tryz.f28]) ?_ fun F hN hP=>?_
 ·have:(-9223372036854775808≤k+f.size)∧k+f.size≤9223372036854775807:=by omega
  simp [resV,this]
 ·intro j hj;simp only [SM.mu,qI,zD] at hj
  match j,hj with
  | 0,_=>simp [SM.mu,SM.mark,SF.mark,Cat.mark]
  | 1,_=>simp [SM.mu,SM.mark,SF.mark,Cat.mark]
  | 2,_=>simp [SM.mu,SM.mark,SF.mark,Cat.mark]
  | 3,_=>simp [SM.mu,SM.mark,SF.mark,Cat.mark]
  | 4,_=>simp [SM.mu,SM.mark,SF.mark,Cat.mark]
  | 5,_=>simp [SM.mu,SM.mark,SF.mark,Cat.mark]
  | 6,_=>simp [SM.mu,SM.mark,SF.mark,Cat.mark]
  | 7,_=>simp [SM.mu,SM.mark,SF.mark,Cat.mark]
  | 8,_=>simp [SM.mu,SM.mark,SF.mark,Cat.mark]
  | 9,_=>simp [SM.mu,SM.mark,SF.mark,Cat.mark]
  | 10,_=>simp [SM.mu,SM.mark,SF.mark,Cat.mark]
  | 11,_=>simp [SM.mu,SM.mark,SF.mark,Cat.mark]
  | 12,_=>simp [SM.mu,SM.mark,SF.mark,Cat.mark]
 refine srQ hN fun K hK=>?_;simp [Q4t,SM.mu];refine hK _ ?_;clear hK K;refine Q4l mo (by rw [hN];decide) fun K hK=>?_;simp;refine Q1O (m:=[0,1,2,3,4,5]) (m10 f.s (k) hs (by omega) (by omega)) (by decide) (.cons rfl (.cons rfl (.cons rfl (.cons rfl (.cons rfl (.cons rfl .nil)))))) (.cons (.aggL (.cons .val (.cons (.own (j:=0) (by decide)) (.cons (.own (j:=1) (by decide)) (.cons (.own (j:=2) (by decide)) (.cons (.own (j:=3) (by decide)) (.cons (.own (j:=4) (by decide)) (.cons (.own (j:=5) (by decide)) .nil)))))))) (.cons .val .nil)) rfl (by simp) ?_;simp [Q3K,SF.mu];refine hK _ ?_;clear hK K;refine Q4l mo (by rw [hN];decide) fun K hK=>?_;simp;refine Q1O (m:=[6,7,8,9,10,11]) (m10 f.t (k+f.s.size) ht (by omega) (by omega)) (by decide) (.cons rfl (.cons rfl (.cons rfl (.cons rfl (.cons rfl (.cons rfl .nil)))))) (.cons (.aggL (.cons .val (.cons (.own (j:=0) (by decide)) (.cons (.own (j:=1) (by decide)) (.cons (.own (j:=2) (by decide)) (.cons (.own (j:=3) (by decide)) (.cons (.own (j:=4) (by decide)) (.cons (.own (j:=5) (by decide)) .nil)))))))) (.cons .val .nil)) rfl (by simp) ?_;simp [Q3K,SF.mu];refine hK _ ?_;clear hK K;refine Q4l mo (by rw [hN];decide) fun K hK=>?_;simp;refine Q1E (m33 f.p (k+f.s.size+f.t.size) hp1 hp2 (by omega) (by omega)) rfl (by simp) ?_;simp;refine hK _ ?_;clear hK K;refine srQ hN fun K hK=>?_;simp;refine hK _ ?_;clear hK K;refine Qg (mret ?_ ?_)
 ·simp [hz,Int.add_assoc]
 exact (.cons rfl (.cons rfl (.cons rfl (.cons rfl (.cons rfl (.cons rfl (.cons rfl (.cons rfl (.cons rfl (.cons rfl (.cons rfl (.cons rfl (.cons rfl .nil)))))))))))))
end
section
attribute [local simp] Qd Qt Ql QS Qv
def cmpL:List Int→List Int→Int
 | [],[]=>0
 | [],_ :: _=>-1
 | _ :: _,[]=>1
 | a :: x,b :: y=>if a=b then cmpL x y else if a<b then -1 else 1
theorem cmpL_zero:∀ {x y:List Int},cmpL x y=0↔x=y:=by
 intro x
 induction x with
 | nil=>intro y;cases y<;>simp [cmpL]
 | cons a x ih =>
  intro y;cases y with
  | nil=>simp [cmpL]
  | cons b y =>
   simp only [cmpL]
   by_cases h:a=b
   ·rw [if_pos h,ih];simp [h]
   rw [if_neg h];split<;>simp [h]
theorem Q77 {x y:List Int} {i:Nat} (h1:i≤x.length) (h2:i≤y.length) (h:x.take i=y.take i):cmpL x y=cmpL (x.drop i) (y.drop i):=by
 induction i generalizing x y with
 | zero=>simp
 | succ i ih =>
  cases x with
  | nil=>simp at h1
  | cons a x =>
   cases y with
   | nil=>simp at h2
   | cons b y =>
    simp only [List.take_succ_cons,List.cons.injEq] at h;simp only [List.drop_succ_cons,cmpL];rw [if_pos h.1];exact ih (by simpa using h1) (by simpa using h2) h.2
theorem bo_iff {p q:Prop} (h:p↔q):bo p=bo q:=by rw [propext h]
theorem bo_dec {p:Prop} [Decidable p]:bo p=decide p:=by by_cases h:p<;>simp [bo,h]
def SF.part (f g:SF) (p:List (List Int)) (x:Nat):Prop:=((rx p x).length:Int)=ix f.sz x∧∀ y∈rx p x,inR (ix g.sz x) y=true
structure SM.Sh (m:SM):Prop where
 hs:m.s.Is
 ht:m.t.Is
 eq:m.s.s=m.t.s
 lp:m.p.length=m.s.sz.length
 pt:∀ x:Nat,x<m.p.length→m.s.part m.t m.p x
def SM.nat (m:SM) (a e:Nat):Prop:=ix (rx m.p (ix m.s.s.to a)) (ix (rx m.s.ac a) e)=ix (rx m.t.ac a) (ix (rx m.p (ix m.s.s.fr a)) e)
open Classical in
noncomputable def SM.f1 (m:SM) (a e:Nat):Option (Int × Int):=if m.nat a e then none else some ((a:Int),(e:Int))
noncomputable def SM.fault (m:SM):Option (Int × Int):=first (fun a=>first (fun e=>m.f1 a e) (m.s.la a)) m.s.s.fr.length
def SM.Law (m:SM):Prop:=∀ a,a<m.s.s.fr.length→∀ e,e<m.s.la a→m.nat a e
def SM.Is (m:SM):Prop:=m.Sh∧m.Law
section
variable {m:SM}
theorem Q7t {a e:Nat} (ha:a<m.s.s.fr.length) (he:e<m.s.la a) (h1:∀ y,y<a→∀ e,e<m.s.la y→m.nat y e) (h2:∀ y,y<e→m.nat a y) (h3:¬ m.nat a e):m.fault=some ((a:Int),(e:Int)):=by
 unfold SM.fault;exact Q17 (i:=a) (fun j hj=>Qs fun e he=>by simp [SM.f1,h1 j hj e he]) (Q17 (i:=e) (fun j hj=>by simp [SM.f1,h2 j hj]) (by simp [SM.f1,h3]) he) ha
theorem Q3I (h:m.Law):m.fault=none:=Qs fun a ha=>Qs fun e he=>by simp [SM.f1,h a ha e he]
theorem mfault_neg:(m.fault.getD (-1,0)).1<0↔m.Law:=by
 refine ⟨fun h=>?_,fun h=>by rw [Q3I h];decide⟩;cases hq:m.fault with
 | some x =>
  have:=Q2d (fun x:Int × Int=>0≤x.1) (fun a x hx=>Q2d (fun x:Int × Int=>0≤x.1) (fun e x hx=>by
   simp only [SM.f1] at hx;split at hx
   ·cases hx
   cases hx;exact Int.natCast_nonneg _) _ _ hx) _ _ hq
  rw [hq] at h;simp only [Option.getD_some] at h;omega
 | none =>
  intro a ha e he;have:=Q1g (Q1g hq a ha) e he;simpa [SM.f1] using this
end
def two (k:Option (Int × Int)):List AV:=[.val (.int .i64 (k.getD (-1,0)).1),.val (.int .i64 (k.getD (-1,0)).2)]
@[simp] theorem bo_true {p:Prop}:bo p=true↔p:=by simp [bo]
@[simp] theorem bo_false {p:Prop}:bo p=false↔¬ p:=by simp [bo]
theorem bo_eq {b:Bool} {p:Prop} (h:b=true↔p):Value.bool b=Value.bool (bo p):=by
 cases b
 ·have:¬ p:=fun hp=>by have:=h.2 hp;cases this
  simp [bo,this]
 simp [bo,h.1 rfl]
theorem Cat.eq_iff {c d:Cat}:c=d↔c.n=d.n∧c.fr=d.fr∧c.to=d.to∧c.id=d.id∧c.cs=d.cs:=by cases c;cases d;simp
theorem SF.eq_iff {c d:SF}:c=d↔c.s=d.s∧c.sz=d.sz∧c.ac=d.ac:=by cases c;cases d;simp
theorem n54 [Kd Tryz.prog] (ux uy:Bool) (xs ys:List Int):Contract Tryz.prog 134 [.lst ux 1 (Is xs),.lst uy 1 (Is ys)] (.val (.bool (decide (xs=ys)))):=by
 refine Q4 (rs:=[.val (.bool (decide (xs=ys)))]) Tryz.func134 rfl rfl rfl rfl (by simp [Tryz.f134]) fun F hN hP=>?_;refine Q4j 0 fun h0=>?_;simp at h0;obtain ⟨hl0,hb0⟩:=h0.is;refine srQ hN fun K hK=>?_;simp;refine hK _ ?_;clear hK K;refine Q3 (w_sr mo (by rw [hN];decide) fun K hK=>?_);simp;refine hK _ (Q7 rfl (fun h=>?_) fun h=>?_)<;>clear hK K
 ·simp at h;refine srQ hN fun K hK=>?_;simp;refine hK _ (Qg (Qc rfl ?_));clear hK K;simp
  rintro rfl;exact h rfl
 simp at h;refine Q8 ?_;simp only [Q3S];refine Q3 (w_sr mo (by rw [hN];decide) fun K hK=>?_);simp;refine hK _ (Q6 ?_);clear hK K;refine Qr (fun i:Nat=>⟨[(0,.lst ux 1 (Is xs)),(1,.lst uy 1 (Is ys)),(5,iV i)],[],0⟩) (fun i=>i≤xs.length∧xs.take i=ys.take i) (fun i=>xs.length - i) 0 (by simp) (Wk.cut (by simp) rfl rfl) ?_
 rintro i ⟨hi,hti⟩
 refine Q3 (w_sr mo (by rw [hN];decide) fun K hK=>?_);simp;refine hK _ (Q7 rfl (fun h=>?_) fun h=>?_)<;>clear hK K
 ·simp at h;refine Q8 ?_;simp only [Q3S];refine Q3 (Q6 (w_sr mo (by rw [hN];decide) fun K hK=>?_));have h2:i<ys.length:=by omega
  simp [h,h2];refine hK _ (Q7 rfl (fun h=>?_) fun h=>?_)<;>clear hK K
  ·simp at h;refine srQ hN fun K hK=>?_;simp;refine hK _ (Qg (Qc rfl ?_));clear hK K;simp
   rintro rfl;exact h rfl
  simp at h;refine Q8 ?_;simp;refine runQ hN fun K hK=>?_;simp;refine hK _ ?_;clear hK K;refine ⟨i+1,⟨by omega,Q8u (by omega) h2 hti h⟩,by dsimp only;omega,Wk.cut ?_ rfl rfl⟩;rw [Qh (n:=xs.length) (by omega) hl0];simp
 simp at h;refine Qk ?_;simp;refine srQ hN fun K hK=>?_;simp;refine hK _ (Qg (Qc rfl ?_));clear hK K;rw [zI (by omega),zI (by omega)] at hti;simp [hti]
theorem n55 [Kd Tryz.prog] (u v:Bool) (xs ys:List (List Int)):Contract Tryz.prog 135 [.lst u 1 (Ls xs),.lst v 1 (Ls ys)] (.val (.bool (decide (xs=ys)))):=by
 refine Q4 (rs:=[.val (.bool (decide (xs=ys)))]) Tryz.func135 rfl rfl rfl rfl (by simp [Tryz.f135]) fun F hN hP=>?_;refine Q4j 0 fun h0=>?_;have hl0:xs.length≤9223372036854775807:=by simpa using Q6x h0
 refine srQ hN fun K hK=>?_;simp;refine hK _ ?_;clear hK K;refine Q3 (srQ hN fun K hK=>?_);simp;refine hK _ ?_;clear hK K;refine Q7 rfl (fun h=>?_) fun h=>?_
 ·simp at h;refine srQ hN fun K hK=>?_;simp;refine hK _ (Qg (Qc rfl ?_));clear hK K;simp
  rintro rfl
  exact h rfl
 simp at h;have hl:xs.length=ys.length:=by omega
 clear h;refine Q8 (Q3 (srQ hN fun K hK=>?_));simp;refine hK _ (Q6 (Qr (fun i:Nat=>⟨[(0,.lst u 1 (Ls xs)),(1,.lst v 1 (Ls ys)),(5,iV i)],[],0⟩) (fun i=>i≤xs.length∧xs.take i=ys.take i) (fun i=>xs.length - i) 0 (by simp) (Wk.cut (by simp) (by simp) rfl) ?_));clear hK K
 rintro i ⟨hi,ht⟩
 refine Q3 (srQ hN fun K hK=>?_);simp;refine hK _ ?_;clear hK K;refine Q7 rfl (fun h=>?_) fun h=>?_
 ·simp at h;have h2:i<ys.length:=by omega
  refine Q8 (Q3 (Q6 (srQ hN fun K hK=>?_)));simp [h,h2];refine Q0 (n54 true true xs[i] ys[i]) (.cons .lst (.cons .lst .nil)) ?_;simp [unk,unA,unE,flat];refine hK _ ?_;clear hK K;refine Q7 rfl (fun h3=>?_) fun h3=>?_
  ·simp at h3;refine srQ hN fun K hK=>?_;simp;refine hK _ (Qg (Qc rfl ?_));clear hK K;simp
   rintro rfl
   exact h3 rfl
  simp at h3;refine Q8 (runQ hN fun K hK=>?_);simp;refine hK _ ?_;clear hK K;rw [Qh (n:=xs.length) (by omega) (by omega)];refine ⟨i+1,⟨by omega,?_⟩,by dsimp only;omega,rbQ hP []⟩;rw [zH h,zH h2,ht,h3]
 simp at h;have hi2:i=xs.length:=by omega
 refine Qk ?_;simp;refine srQ hN fun K hK=>?_;simp;refine hK _ (Qg (Qc rfl ?_));clear hK K;rw [hi2,List.take_length,hl,List.take_length] at ht;simp [ht]
theorem n53 [Kd Tryz.prog] (u v:Bool) (c d:Cat):Contract Tryz.prog 133 [.agg (c.cells u),.agg (d.cells v)] (.val (.bool (bo (c=d)))):=by
 refine Q4 (rs:=[.val (.bool (bo (c=d)))]) Tryz.func133 rfl rfl rfl rfl (by simp [Tryz.f133]) fun F hN hP=>?_;refine srQ hN fun K hK=>?_;simp [Cat.cells];refine hK _ ?_;clear hK K;refine srQ hN fun K hK=>?_;refine join hK (fun b=>⟨[(4,.val (.bool b))],[],0⟩) (c=d) (fun hJ=>?_) fun b hb=>?_
 ·simp;refine ⟨fun a0=>?_,fun a0=>?_⟩
  ·refine Q0 (n54 u v c.fr d.fr) (.cons .lst (.cons .lst .nil)) ?_;simp [unk,unA,unE,flat];refine ⟨fun a1=>?_,fun a1=>?_⟩
   ·refine Q0 (n54 u v c.to d.to) (.cons .lst (.cons .lst .nil)) ?_;simp [unk,unA,unE,flat];refine ⟨fun a2=>?_,fun a2=>?_⟩
    ·refine Q0 (n54 u v c.id d.id) (.cons .lst (.cons .lst .nil)) ?_;simp [unk,unA,unE,flat];refine ⟨fun a3=>?_,fun a3=>?_⟩
     ·refine Q0 (n55 u v c.cs d.cs) (.cons .lst (.cons .lst .nil)) ?_;simp [unk,unA,unE,flat];exact hJ (decide (c.cs=d.cs)) (by rw [Cat.eq_iff];simp [a0,a1,a2,a3]) _ (rbQ hP [])
     exact hJ (false) (nope fun hp=>a3 (by rw [hp])) _ (rbQ hP [])
    exact hJ (false) (nope fun hp=>a2 (by rw [hp])) _ (rbQ hP [])
   exact hJ (false) (nope fun hp=>a1 (by rw [hp])) _ (rbQ hP [])
  exact hJ (false) (nope fun hp=>a0 (by rw [hp])) _ (rbQ hP [])
 clear hK K;refine Qg (Qc rfl (bo_eq hb))
theorem n20 [Kd Tryz.prog] (u v:Bool) (c d:SF):Contract Tryz.prog 92 [.agg (c.cells u),.agg (d.cells v)] (.val (.bool (bo (c=d)))):=by
 refine Q4 (rs:=[.val (.bool (bo (c=d)))]) Tryz.func92 rfl rfl rfl rfl (by simp [Tryz.f92]) fun F hN hP=>?_;refine srQ hN fun K hK=>?_;simp [SF.cells];refine hK _ ?_;clear hK K;refine srQ hN fun K hK=>?_;refine join hK (fun b=>⟨[(4,.val (.bool b))],[],0⟩) (c=d) (fun hJ=>?_) fun b hb=>?_
 ·simp;refine Q0 (n53 u v c.s d.s) (.cons (.aggL Cat.pur) (.cons (.aggL Cat.pur) .nil)) ?_;simp [unk,unA,unE,flat];refine ⟨fun a0=>?_,fun a0=>?_⟩
  ·refine Q0 (n54 u v c.sz d.sz) (.cons .lst (.cons .lst .nil)) ?_;simp [unk,unA,unE,flat];refine ⟨fun a1=>?_,fun a1=>?_⟩
   ·refine Q0 (n55 u v c.ac d.ac) (.cons .lst (.cons .lst .nil)) ?_;simp [unk,unA,unE,flat];exact hJ (decide (c.ac=d.ac)) (by rw [SF.eq_iff];simp [a0,a1]) _ (rbQ hP [])
   exact hJ (false) (nope fun hp=>a1 (by rw [hp])) _ (rbQ hP [])
  exact hJ (false) (nope fun hp=>a0 (by rw [hp])) _ (rbQ hP [])
 clear hK K;refine Qg (Qc rfl (bo_eq hb))
theorem n50 [Kd Tryz.prog] (u v:Bool) (f g:SF):Contract Tryz.prog 104 [.agg (f.cells u),.agg (g.cells v)] (.val (.bool (bo (f.Is∧g.Is∧f.s=g.s)))):=by
 refine Q4 (rs:=[.val (.bool (bo (f.Is∧g.Is∧f.s=g.s)))]) Tryz.func104 rfl rfl rfl rfl (by simp [Tryz.f104]) fun F hN hP=>?_;refine srQ hN fun K hK=>?_;simp [SF.cells];refine hK _ ?_;clear hK K;refine srQ hN fun K hK=>?_;refine join hK (fun b=>⟨[(4,.val (.bool b))],[],0⟩) (f.Is∧g.Is∧f.s=g.s) (fun hJ=>?_) fun b hb=>?_
 ·simp;refine Q0 (c16 u f) (.cons (.aggL SF.pur) .nil) ?_;simp [unk,unA,unE,flat];refine ⟨fun a0=>?_,fun a0=>?_⟩
  ·refine Q0 (c16 v g) (.cons (.aggL SF.pur) .nil) ?_;simp [unk,unA,unE,flat];refine ⟨fun a1=>?_,fun a1=>?_⟩
   ·refine Q0 (n53 u v f.s g.s) (.cons (.aggL Cat.pur) (.cons (.aggL Cat.pur) .nil)) ?_;simp [unk,unA,unE,flat];exact hJ (bo (f.s=g.s)) (by simp [a0,a1]) _ (rbQ hP [])
   exact hJ (false) (nope fun hp=>a1 hp.2.1) _ (rbQ hP [])
  exact hJ (false) (nope fun hp=>a0 hp.1) _ (rbQ hP [])
 clear hK K;refine Qg (Qc rfl (bo_eq hb))
@[simp] abbrev Yx (a:SF) (b:Bool) (c:List (Nat × Ent)):List (Nat × Ent):=(1,.mix 7 [(YG a b [])])::c
theorem n51 [Kd Tryz.prog] (u v w:Bool) (f g:SF) (p:List (List Int)) (hl:f.sz.length=g.sz.length) (hm:f.sz.length≤1048576):Contract Tryz.prog 105 [.agg (f.cells u),.agg (g.cells v),.lst w 1 (Ls p)] (.val (.bool (bo (p.length=f.sz.length∧∀ x:Nat,x<p.length→f.part g p x)))):=by
 refine Q4 (rs:=[.val (.bool (bo (p.length=f.sz.length∧∀ x:Nat,x<p.length→f.part g p x)))]) Tryz.func105 rfl rfl rfl rfl (by simp [Tryz.f105]) fun F hN hP=>?_;refine srQ hN fun K hK=>?_;simp [SF.cells];refine hK _ ?_;clear hK K;refine Q3 (srQ hN fun K hK=>?_);simp;refine hK _ ?_;clear hK K;refine Q7 rfl (fun h=>?_) fun h=>?_
 ·simp at h;refine srQ hN fun K hK=>?_;simp;refine hK _ (Qg (Qc rfl (bo_f fun hp=>?_)));clear hK K;exact h (by omega)
 simp at h;have hl2:p.length=f.sz.length:=by omega
 clear h;refine Q8 (Q3 (srQ hN fun K hK=>?_));simp;refine hK _ (Q6 (Qr (fun x:Nat=>⟨[(2,.lst w 1 (Ls p)),(3,.adr 0 0 0),(4,.adr 1 0 0),(7,iV x)],Y4 f u (Yx g v []),2⟩) (fun x=>x≤p.length∧∀ y:Nat,y<x→f.part g p y) (fun x=>p.length - x) 0 (by simp) (Wk.rel [(0,0),(1,1)] (by simp) (by simp) (by rw [hP];simp) (by simp) (by simp) (by simp) (by simp [hhOk,back])) ?_));clear hK K
 rintro x ⟨hx0,hi⟩
 refine Q3 (srQ hN fun K hK=>?_);simp;refine hK _ ?_;clear hK K;refine Q7 rfl (fun h=>?_) fun h=>?_
 ·simp at h;have hx:x<p.length:=by omega
  clear h;refine Q8 (Q3 (Q6 (srQ hN fun K hK=>?_)));refine join hK (fun b=>⟨[(2,.lst w 1 (Ls p)),(3,.adr 0 0 0),(4,.adr 1 0 0),(7,iV x),(43,.val (.bool b))],Y4 f u (Yx g v []),2⟩) (¬ f.part g p x) (fun hJ=>?_) fun b hb=>?_
  ·simp [QP,QX,QA,QB,hx,show x<f.sz.length by omega,show x<g.sz.length by omega];refine ⟨fun a=>?_,fun a=>?_⟩
   ·refine Q0 (c57 true (rx p x) (ix g.sz x)) (.cons .val (.cons .lst .nil)) ?_;simp [unk,unA,unE,flat];exact hJ (!(rx p x).all (inR (ix g.sz x))) (by simp [SF.part,a]) _ (Wk.rel [(0,0),(1,1)] (by simp) (by simp) (by rw [hP];simp) (by simp) (by simp) (by simp) (by simp [hhOk,back]))
   exact hJ (true) (yes fun hp=>a hp.1) _ (Wk.rel [(0,0),(1,1)] (by simp) (by simp) (by rw [hP];simp) (by simp) (by simp) (by simp) (by simp [hhOk,back]))
  clear hK K;refine Q7 rfl (fun h=>?_) fun h=>?_
  ·refine srQ hN fun K hK=>?_;simp;refine hK _ (Qg (Qc rfl (bo_f fun hp=>?_)));clear hK K;exact hb.1 h (hp.2 x hx)
  have hc:f.part g p x:=zG fun hn=>by rw [hb.2 hn] at h;cases h
  refine Q8 (runQ hN fun K hK=>?_);simp;refine hK _ ?_;clear hK K;rw [Qh (n:=p.length) (by omega) (by omega)];refine ⟨x+1,⟨by omega,Qp hi hc⟩,by dsimp only;omega,(Wk.rel [(0,0),(1,1)] (by simp) (by simp) (by rw [hP];simp) (by simp) (by simp) (by simp) (by simp [hhOk,back]))⟩
 simp at h;have hx2:p.length≤x:=by omega
 clear h;refine Qk ?_;simp;refine srQ hN fun K hK=>?_;simp;refine hK _ (Qg (Qc rfl (bo_t ?_)));clear hK K;exact ⟨hl2,fun y hy=>hi y (by omega)⟩
theorem SM.Sh.lens {m:SM} (hm:m.Sh):m.t.sz.length=m.s.sz.length∧m.t.ac.length=m.s.ac.length∧m.s.ac.length=m.s.s.fr.length∧(m.s.sz.length:Int)=m.s.s.n∧m.s.s.n≤8∧m.s.s.fr.length≤40∧m.s.s.to.length=m.s.s.fr.length∧(m.s.s.id.length:Int)=m.s.s.n:=by
 have h1:=hm.hs.1.ls;have h2:=hm.ht.1.ls;have h3:=hm.hs.1.la;have h4:=hm.ht.1.la;have h5:=hm.hs.1.cat.1;rw [← hm.eq] at h2 h4;exact ⟨by omega,by omega,h3,h1,h5.n8,h5.m40,h5.lt,h5.li⟩
theorem SM.Sh.part' {m:SM} (hm:m.Sh) {j:Int} (h0:0≤j) (h1:j<m.p.length):((rx m.p j).length:Int)=ix m.s.sz j∧∀ e:Int,0≤e→e<(rx m.p j).length→0≤ix (rx m.p j) e∧ix (rx m.p j) e<ix m.t.sz j:=by
 have:=hm.pt j.toNat (by omega);simp only [SF.part,zK h0] at this;exact ⟨this.1,fun e e0 e1=>Q1o this.2 e0 e1⟩
@[simp] abbrev Ym (a:SM) (b c:Bool) (d:List (Nat × Ent)):List (Nat × Ent):=(0,.mix 7 [[iV a.s.s.n,.lst b 1 (Is a.s.s.fr),.lst b 1 (Is a.s.s.to),.lst b 1 (Is a.s.s.id),.lst b 1 (Ls a.s.s.cs),.lst b 1 (Is a.s.sz),.lst b 1 (Ls a.s.ac)]])::(1,.mix 7 [[iV a.t.s.n,.lst c 1 (Is a.t.s.fr),.lst c 1 (Is a.t.s.to),.lst c 1 (Is a.t.s.id),.lst c 1 (Ls a.t.s.cs),.lst c 1 (Is a.t.sz),.lst c 1 (Ls a.t.ac)]])::d
theorem n52 [Kd Tryz.prog] (u v w:Bool) (m:SM) (hm:m.Sh):Contract Tryz.prog 106 [.agg (m.s.cells u),.agg (m.t.cells v),.lst w 1 (Ls m.p)] (.tup (two m.fault)):=by
 refine Q4 (rs:=two m.fault) Tryz.func106 rfl rfl rfl rfl (by simp [Tryz.f106]) fun F hN hP=>?_;obtain ⟨l1,l2,l3,l4,l5,l6,l7,l8⟩:=hm.lens;have hS:=hm.hs.1;have hT:=hm.ht.1;have hC:=hS.cat.1;have hp:=hm.lp;refine srQ hN fun K hK=>?_;simp [SF.cells];refine hK _ ?_;clear hK K;refine Q3 (srQ hN fun K hK=>?_);simp;refine hK _ (Q6 (Qr (fun a:Nat=>⟨[(2,.lst w 1 (Ls m.p)),(3,.adr 0 0 0),(4,.adr 1 0 0),(8,iV a)],Ym m u v [],2⟩) (fun a=>a≤m.s.s.fr.length∧∀ y:Nat,y<a→∀ e:Nat,e<m.s.la y→m.nat y e) (fun a=>m.s.s.fr.length - a) 0 (by simp) (Wk.rel [(0,0),(1,1)] (by simp) (by simp) (by rw [hP];simp) (by simp) (by simp) (by simp) (by simp [hhOk,back])) ?_));clear hK K
 rintro a ⟨ha0,hi0⟩
 refine Q3 (srQ hN fun K hK=>?_);simp;refine hK _ ?_;clear hK K;refine Q7 rfl (fun h=>?_) fun h=>?_
 ·simp at h;have ha:a<m.s.s.fr.length:=by omega
  clear h;have c1:=hC.fr' (j:=a) (by omega) (by omega);have c2:=hC.to' (j:=a) (by omega) (by omega);have c3:=hS.len' (j:=a) (by omega) (by omega);have c4:(m.s.la a:Int)=ix m.s.sz (ix m.s.s.fr a):=c3;have c5:=Q1o hS.sz (j:=ix m.s.s.fr a) (by omega) (by omega);have p1:=hm.part' (j:=ix m.s.s.fr a) (by omega) (by omega);have p2:=hm.part' (j:=ix m.s.s.to a) (by omega) (by omega);have t3:=hT.len' (j:=a) (by omega) (by rw [← hm.eq];omega);rw [← hm.eq] at t3;refine Q8 (Q3 (Q6 (srQ hN fun K hK=>?_)));simp [QP,QX,QA,QB,ha,show a<m.s.s.to.length by omega];refine hK _ ?_;clear hK K;refine srQ hN fun K hK=>?_;simp;refine hK _ (Q6 (Qr (fun e:Nat=>⟨[(2,.lst w 1 (Ls m.p)),(3,.adr 0 0 0),(4,.adr 1 0 0),(8,iV a),(9,iV (ix m.s.s.fr a)),(10,iV (ix m.s.s.to a)),(11,iV e)],Ym m u v [],2⟩) (fun e=>e≤m.s.la a∧∀ y:Nat,y<e→m.nat a y) (fun e=>m.s.la a - e) 0 (by simp) (Wk.rel [(0,0),(1,1)] (by simp) (by simp) (by rw [hP];simp) (by simp) (by simp) (by simp) (by simp [hhOk,back])) ?_));clear hK K
  rintro e ⟨he0,hi1⟩
  refine Q3 (srQ hN fun K hK=>?_);simp [QP,QX,QA,QB,c1.1,show ix m.s.s.fr a<m.s.sz.length by omega];refine hK _ ?_;clear hK K;refine Q7 rfl (fun h=>?_) fun h=>?_
  ·simp at h;have he:e<m.s.la a:=by first|omega|(simp only [SF.la];omega)
   clear h;have he3:e<(rx m.s.ac a).length:=he;have v1:=hS.val' (j:=a) (e:=e) (by omega) (by omega) (by omega) (by omega);have v2:=p1.2 e (by omega) (by omega);refine Q8 (Q3 (Q6 (srQ hN fun K hK=>?_)));simp [QP,QX,QA,QB,c1.1,c2.1,v1.1,v2.1,he3,show ix (rx m.s.ac a) e<(rx m.p (ix m.s.s.to a)).length by omega,show ix (rx m.p (ix m.s.s.fr a)) e<(rx m.t.ac a).length by omega,show e<(rx m.p (ix m.s.s.fr a)).length by omega,show e<(rx m.s.ac a).length by omega,show a<m.t.ac.length by omega,show a<m.s.ac.length by omega,show a<m.s.s.to.length by omega,show ix m.s.s.to a<m.p.length by omega,show ix m.s.s.fr a<m.p.length by omega];refine hK _ ?_;clear hK K;refine Q7 rfl (fun h=>?_) fun h=>?_
   ·simp at h;have hn:¬ m.nat a e:=h;refine srQ hN fun K hK=>?_;simp;refine hK _ (Qg ?_);clear hK K;rw [Q7t ha he hi0 hi1 hn];refine ⟨.one rfl rfl (.one rfl rfl .nil),_,[],rfl,by simp,UpL.refl _⟩
   simp at h;have hc:m.nat a e:=h;refine Q8 (runQ hN fun K hK=>?_);simp;refine hK _ ?_;clear hK K;rw [Qh (n:=m.s.la a) (by omega) (by omega)];refine ⟨e+1,⟨by omega,Qp hi1 hc⟩,by dsimp only;omega,(Wk.rel [(0,0),(1,1)] (by simp) (by simp) (by rw [hP];simp) (by simp) (by simp) (by simp) (by simp [hhOk,back]))⟩
  simp at h;have he2:m.s.la a≤e:=by first|omega|(simp only [SF.la];omega)
  clear h;refine Qk ?_;simp;refine runQ hN fun K hK=>?_;simp;refine hK _ ?_;clear hK K;rw [Qh (n:=m.s.s.fr.length) (by omega) (by omega)];refine ⟨a+1,⟨by omega,Qp hi0 fun y hy=>hi1 y (by omega)⟩,by dsimp only;omega,(Wk.rel [(0,0),(1,1)] (by simp) (by simp) (by rw [hP];simp) (by simp) (by simp) (by simp) (by simp [hhOk,back]))⟩
 simp at h;have ha2:m.s.s.fr.length≤a:=by omega
 clear h;refine Qk ?_;simp;refine srQ hN fun K hK=>?_;simp;refine hK _ (Qg ?_);clear hK K;rw [Q3I fun y hy=>hi0 y (by omega)];refine ⟨.one rfl rfl (.one rfl rfl .nil),_,[],rfl,by simp,UpL.refl _⟩
@[simp] abbrev YD (a:SM) (b:Bool) (c:List (AV)):List (AV):=iV a.s.s.n::.lst b 1 (Is a.s.s.fr)::.lst b 1 (Is a.s.s.to)::.lst b 1 (Is a.s.s.id)::.lst b 1 (Ls a.s.s.cs)::.lst b 1 (Is a.s.sz)::.lst b 1 (Ls a.s.ac)::iV a.t.s.n::.lst b 1 (Is a.t.s.fr)::.lst b 1 (Is a.t.s.to)::.lst b 1 (Is a.t.s.id)::.lst b 1 (Ls a.t.s.cs)::.lst b 1 (Is a.t.sz)::.lst b 1 (Ls a.t.ac)::.lst b 1 (Ls a.p)::c
@[simp] abbrev Yc (a:SM) (b:Bool) (c:List (Nat × AV)):List (Nat × AV):=(0,.rptr (YD a b []))::(4,.rptr (YD a b []))::(15,.lst b 1 (Is a.s.s.fr))::(16,iV a.s.s.fr.length)::c
theorem n74 [Kd Tryz.prog] (u:Bool) (m:SM) (hm:m.Sh):Contract Tryz.prog 109 [.rptr (m.cells u)] (.tup (two m.fault)):=by
 refine Q4 (rs:=two m.fault) Tryz.func109 rfl rfl rfl rfl (by simp [Tryz.f109]) fun F hN hP=>?_;obtain ⟨l1,l2,l3,l4,l5,l6,l7,l8⟩:=hm.lens;have hS:=hm.hs.1;have hT:=hm.ht.1;have hC:=hS.cat.1;have hp:=hm.lp;simp only [SM.cells];refine srQ hN fun K hK=>?_;simp;refine hK _ ?_;clear hK K;refine srQ hN fun K hK=>?_;simp;refine hK _ ?_;clear hK K;refine Q3 (srQ hN fun K hK=>?_);simp;refine hK _ (Q6 (Qr (fun a:Nat=>⟨Yc m u [(17,iV a)],[],0⟩) (fun a=>a≤m.s.s.fr.length∧∀ y:Nat,y<a→∀ e:Nat,e<m.s.la y→m.nat y e) (fun a=>m.s.s.fr.length - a) 0 (by simp) (rbQ hP []) ?_));clear hK K
 rintro a ⟨ha0,hi0⟩
 refine srQ hN fun K hK=>?_;simp;refine hK _ ?_;clear hK K;refine Q3 (Q7 rfl (fun h=>?_) fun h=>?_)
 ·simp at h;have ha:a<m.s.s.fr.length:=by omega
  clear h;have c1:=hC.fr' (j:=a) (by omega) (by omega);have c2:=hC.to' (j:=a) (by omega) (by omega);have c3:=hS.len' (j:=a) (by omega) (by omega);have c4:(m.s.la a:Int)=ix m.s.sz (ix m.s.s.fr a):=c3;have c5:=Q1o hS.sz (j:=ix m.s.s.fr a) (by omega) (by omega);have p1:=hm.part' (j:=ix m.s.s.fr a) (by omega) (by omega);have p2:=hm.part' (j:=ix m.s.s.to a) (by omega) (by omega);have t3:=hT.len' (j:=a) (by omega) (by rw [← hm.eq];omega);rw [← hm.eq] at t3;refine Q8 (Q3 (Q6 (srQ hN fun K hK=>?_)));simp;refine hK _ ?_;clear hK K;refine srQ hN fun K hK=>?_;simp [QP,QX,QA,QB,show a<m.s.ac.length by omega];refine hK _ (Q6 (Qr (fun e:Nat=>⟨Yc m u [(17,iV a),(5,iV a),(27,lI (rx m.s.ac a)),(28,.val (.int .i64 (rx m.s.ac a).length)),(29,iV e)],[],0⟩) (fun e=>e≤m.s.la a∧∀ y:Nat,y<e→m.nat a y) (fun e=>m.s.la a - e) 0 (by simp) (rbQ hP []) ?_));clear hK K
  rintro e ⟨he0,hi1⟩
  refine srQ hN fun K hK=>?_;simp;refine hK _ ?_;clear hK K;refine Q3 (Q7 rfl (fun h=>?_) fun h=>?_)
  ·simp at h;have he:e<m.s.la a:=by first|omega|(simp only [SF.la];omega)
   clear h;have he3:e<(rx m.s.ac a).length:=he;have v1:=hS.val' (j:=a) (e:=e) (by omega) (by omega) (by omega) (by omega);have v2:=p1.2 e (by omega) (by omega);refine Q8 (Q3 (Q6 (srQ hN fun K hK=>?_)));simp [QP,QX,QA,QB,he3];refine hK _ ?_;clear hK K;refine srQ hN fun K hK=>?_;simp [QP,QX,QA,QB,ha,c1.1,c2.1,v1.1,v2.1,show ix (rx m.s.ac a) e<(rx m.p (ix m.s.s.to a)).length by omega,show ix (rx m.p (ix m.s.s.fr a)) e<(rx m.t.ac a).length by omega,show e<(rx m.p (ix m.s.s.fr a)).length by omega,show e<(rx m.s.ac a).length by omega,show a<m.t.ac.length by omega,show a<m.s.ac.length by omega,show a<m.s.s.to.length by omega,show ix m.s.s.to a<m.p.length by omega,show ix m.s.s.fr a<m.p.length by omega];refine hK _ ?_;clear hK K;refine Q7 rfl (fun h=>?_) fun h=>?_
   ·simp at h;have hn:¬ m.nat a e:=h;refine srQ hN fun K hK=>?_;simp;refine hK _ (Qg ?_);clear hK K;rw [Q7t ha he hi0 hi1 hn];refine ⟨.one rfl rfl (.one rfl rfl .nil),_,[],rfl,by simp,UpL.refl _⟩
   simp at h;have hc:m.nat a e:=h;refine Q8 (runQ hN fun K hK=>?_);simp;refine hK _ ?_;clear hK K;rw [Qh (n:=m.s.la a) (by omega) (by omega)];refine ⟨e+1,⟨by omega,Qp hi1 hc⟩,by dsimp only;omega,(rbQ hP [])⟩
  simp at h;have he2:m.s.la a≤e:=by first|omega|(simp only [SF.la];omega)
  clear h;refine Qk ?_;simp;refine runQ hN fun K hK=>?_;simp;refine hK _ ?_;clear hK K;rw [Qh (n:=m.s.s.fr.length) (by omega) (by omega)];refine ⟨a+1,⟨by omega,Qp hi0 fun y hy=>hi1 y (by omega)⟩,by dsimp only;omega,(rbQ hP [])⟩
 simp at h;have ha2:m.s.s.fr.length≤a:=by omega
 clear h;refine Qk ?_;simp;refine srQ hN fun K hK=>?_;simp;refine hK _ (Qg ?_);clear hK K;rw [Q3I fun y hy=>hi0 y (by omega)];refine ⟨.one rfl rfl (.one rfl rfl .nil),_,[],rfl,by simp,UpL.refl _⟩
end
section
attribute [local simp] Qd Qt Ql QS Qv
theorem lt_bo {a:Int} {p:Prop} (h:a<0↔p):Value.bool (decide (a<0))=Value.bool (bo p):=by
 by_cases hp:p
 ·simp [bo,hp,h.2 hp]
 have:¬ a<0:=fun q=>hp (h.1 q);simp [bo,hp,this]
theorem SM.Sh_iff {m:SM}:m.Sh↔(m.s.Is∧m.t.Is∧m.s.s=m.t.s)∧(m.p.length=m.s.sz.length∧∀ x:Nat,x<m.p.length→m.s.part m.t m.p x) :=
 ⟨fun h=>⟨⟨h.hs,h.ht,h.eq⟩,h.lp,h.pt⟩,fun h=>⟨h.1.1,h.1.2.1,h.1.2.2,h.2.1,h.2.2⟩⟩
theorem SM.fit {m:SM} (h:m.s.Is∧m.t.Is∧m.s.s=m.t.s):m.s.sz.length=m.t.sz.length∧m.s.sz.length≤1048576:=by
 have h1:=h.1.1.ls;have h2:=h.2.1.1.ls;have h3:=h.1.1.cat.1.n8;rw [← h.2.2] at h2;exact ⟨by omega,by omega⟩
theorem n19 [Kd Tryz.prog] (u:Bool) (m:SM):Contract Tryz.prog 65 [.agg (m.cells u)] (.val (.bool (bo m.Is))):=by
 refine Q4 (rs:=[.val (.bool (bo m.Is))]) Tryz.func65 rfl rfl rfl rfl (by simp [Tryz.f65]) fun F hN hP=>?_;refine srQ hN fun K hK=>?_;simp [SM.cells];refine hK _ ?_;clear hK K;refine Q3 (srQ hN fun K hK=>?_);refine join hK (fun b=>⟨[(1,.adr 0 0 0),(20,.val (.bool b))],[(0,.mix 15 [(YD m u [])])],1⟩) (¬ m.Sh) (fun hJ=>?_) fun b hb=>?_
 ·simp;rw [SM.Sh_iff] at hJ;refine Q0 (n50 u u m.s m.t) (.cons (.aggL SF.pur) (.cons (.aggL SF.pur) .nil)) ?_;simp [unk,unA,unE,flat];refine ⟨fun a0 a1 a2=>?_,fun a0=>?_⟩
  ·refine Q0 (n51 u u u m.s m.t m.p (SM.fit ⟨a0,a1,a2⟩).1 (SM.fit ⟨a0,a1,a2⟩).2) (.cons (.aggL SF.pur) (.cons (.aggL SF.pur) (.cons .lst .nil))) ?_;simp [unk,unA,unE,flat];exact hJ (!bo (m.p.length=m.s.sz.length∧∀ x:Nat,x<m.p.length→m.s.part m.t m.p x)) (by simp [a0,a1,a2]) _ (rbQ hP [(0,0)])
  exact hJ (true) (yes fun hp=>by grind) _ (rbQ hP [(0,0)])
 clear hK K;refine Q7 rfl (fun h=>?_) fun h=>?_
 ·refine srQ hN fun K hK=>?_;simp;refine hK _ (Qg (Qc rfl (bo_f fun hs=>?_)));clear hK K;exact hb.1 h hs.1
 have hm:m.Sh:=zG fun hn=>by rw [hb.2 hn] at h;cases h
 refine Q8 (srQ hN fun K hK=>?_);simp;refine Q0 (n52 u u u m hm) (.cons (.aggL SF.pur) (.cons (.aggL SF.pur) (.cons .lst .nil))) ?_;simp [unk,unA,unE,unT,flat,two];refine hK _ ?_;clear hK K;refine srQ hN fun K hK=>?_;simp;refine hK _ (Qg (Qc rfl (lt_bo ?_)));clear hK K;exact ⟨fun q=>⟨hm,mfault_neg.1 q⟩,fun q=>mfault_neg.2 q.2⟩
end
end Go.Vc.T
