/- A part of the proof: a verified generator of conditions, and what each function of the program does. -/
import Derived.Test.YtaahcahglfjhfaaZ5
import Derived.Test.YtaahcahglfjhfaaProg
set_option maxRecDepth 100000
set_option maxHeartbeats 4000000
set_option linter.unusedSimpArgs false
set_option linter.unusedVariables false

namespace Go.Vc.T
open Go Go.Vc Go.Proofs
section
attribute [local simp] Qc Qw Qm
@[simp] theorem e22:elm Try.prog 22=some 2:=by kernel_rfl
@[simp] theorem y2:tyi Try.prog 2=some ⟨false,1,8,[.int .i64 0]⟩:=by kernel_rfl
theorem mo:Try.prog.follows .mixedOrders=true:=by kernel_rfl
def idQ : Nat → List (Nat × Nat)
  | 0 => []
  | n + 1 => idQ n ++ [(n, n)]
abbrev nS : AV := .val (.slice none 0 0)
abbrev iV (x : Int) : AV := .val (.int .i64 x)
abbrev lI (x : List Int) : AV := .lst true 1 (Is x)
abbrev rI (x : List Int) : Ent := .row 1 (Is x)
theorem gQ {p : Prop} (k : p := by first | (simp; done) | (simp at g; done) | simpa using g | (simp at g; exact g) | (simp at g; omega)) : p := k
theorem sdQ {a b : Prop} (h : b) (k : a := by first | assumption | omega | (simp; done) | (simp; omega) | simp_all) : a ∧ b := ⟨k, h⟩
theorem srQ {F : Fx} {AQ : Exit → St → Prop} {st : St} {id : Nat} {ops : Array Oper} {d : Bool} {y : Code} {n : Nat} (hN : F.N = n) (h : ∀ K : St → Prop, (∀ st', Wp Try.prog F y AQ st' → K st') → QO Try.prog false ops ops.toList st K) (hok : (okN n ops && (!d || (Q33 false ops && Q22 ops))) = true := by decide) : Wp Try.prog F (.seq (.region id ops d) y) AQ st := w_sr mo (by rw [hN]; exact hok) h
theorem runQ {F : Fx} {AQ : Exit → St → Prop} {st : St} {id : Nat} {ops : Array Oper} {d : Bool} {n : Nat} (hN : F.N = n) (h : ∀ K : St → Prop, (∀ st', AQ .normal st' → K st') → QO Try.prog false ops ops.toList st K) (hok : (okN n ops && (!d || (Q33 false ops && Q22 ops))) = true := by decide) : Wp Try.prog F (.region id ops d) AQ st := w_run mo (by rw [hN]; exact hok) h
@[simp] theorem q2:eqT Try.prog 2=0:=by kernel_rfl
@[simp] theorem q3:eqT Try.prog 3=0:=by kernel_rfl
theorem Q77 {xs ys:List Int} {i:Nat} (h1:i<xs.length) (h2:i<ys.length) (h:ys.take i=xs.take i):(ys.set i xs[i]).take (i+1)=xs.take (i+1):=by
 rw [List.take_succ_eq_append_getElem h1,List.take_succ_eq_append_getElem (by simpa using h2),List.take_set_of_le (Nat.le_refl _),h];simp
theorem Q6A {xs ys:List Int} {i:Nat} (h1:i<xs.length) (h2:i<ys.length) (h:xs.take i=ys.take i) (he:xs[i]=ys[i]):xs.take (i+1)=ys.take (i+1):=by
 rw [List.take_succ_eq_append_getElem h1,List.take_succ_eq_append_getElem h2,h,he]
theorem c29 (ux uy:Bool) (xs ys:List Int):Contract Try.prog 25 [.lst ux 1 (Is xs),.lst uy 1 (Is ys)] (.val (.bool (decide (xs=ys)))):=by
 refine Qe (rs:=[.val (.bool (decide (xs=ys)))]) Try.func25 rfl rfl rfl rfl (by simp [Try.f25]) fun F hN hP=>?_;refine Q3s 0 fun h0=>?_;simp at h0;obtain ⟨hl0,hb0⟩:=h0.is;refine srQ hN fun K hK=>?_;simp;refine hK _ ?_;clear hK K;refine Q0 (w_sr mo (by rw [hN];decide) fun K hK=>?_);simp;refine hK _ (Q8 rfl (fun h=>?_) fun h=>?_)<;>clear hK K
 ·simp at h;refine srQ hN fun K hK=>?_;simp;refine hK _ (Qj (Qh rfl ?_));clear hK K;simp
  rintro rfl;exact h rfl
 simp at h;refine Q9 ?_;simp only [Q37];refine Q0 (w_sr mo (by rw [hN];decide) fun K hK=>?_);simp;refine hK _ (Q7 ?_);clear hK K;refine QT (fun i:Nat=>⟨[(0,.lst ux 1 (Is xs)),(1,.lst uy 1 (Is ys)),(5,iV i)],[],0⟩) (fun i=>i≤xs.length∧xs.take i=ys.take i) (fun i=>xs.length - i) 0 (by simp) (Wk.cut (by simp) rfl rfl) ?_
 rintro i ⟨hi,hti⟩
 refine Q0 (w_sr mo (by rw [hN];decide) fun K hK=>?_);simp;refine hK _ (Q8 rfl (fun h=>?_) fun h=>?_)<;>clear hK K
 ·simp at h;refine Q9 ?_;simp only [Q37];refine Q0 (Q7 (w_sr mo (by rw [hN];decide) fun K hK=>?_));have h2:i<ys.length:=by omega
  simp [h,h2];refine hK _ (Q8 rfl (fun h=>?_) fun h=>?_)<;>clear hK K
  ·simp at h;refine srQ hN fun K hK=>?_;simp;refine hK _ (Qj (Qh rfl ?_));clear hK K;simp
   rintro rfl;exact h rfl
  simp at h;refine Q9 ?_;simp;refine runQ hN fun K hK=>?_;simp;refine hK _ ?_;clear hK K;refine ⟨i+1,⟨by omega,Q6A (by omega) h2 hti h⟩,by dsimp only;omega,Wk.cut ?_ rfl rfl⟩;rw [Qp (n:=xs.length) (by omega) hl0];simp
 simp at h;refine Qr ?_;simp;refine srQ hN fun K hK=>?_;simp;refine hK _ (Qj (Qh rfl ?_));clear hK K;rw [List.take_of_length_le (by omega),List.take_of_length_le (by omega)] at hti;simp [hti]
theorem c19 (u:Bool) (xs:List Int) (hx:xs.length≤1048576):Contract Try.prog 40 [.lst u 1 (Is xs)] (lI xs):=by
 refine Qe (rs:=[lI xs]) Try.func40 rfl rfl rfl rfl (by simp [Try.f40]) fun F hN hP=>?_;refine srQ hN fun K hK=>?_;simp;refine hK _ ?_;clear hK K;refine srQ hN fun K hK=>?_;simp;refine ⟨?_,hK _ ?_⟩<;>clear hK K
 ·omega
 refine Q0 (w_sr mo (by rw [hN];decide) fun K hK=>?_);simp;refine hK _ (Q7 ?_);clear hK K;refine QT (fun p:Nat × List Int=>⟨[(0,.lst u 1 (Is xs)),(3,.own 0 0 xs.length),(4,iV p.1)],[(0,rI p.2)],1⟩) (fun p=>p.1≤xs.length∧p.2.length=xs.length∧p.2.take p.1=xs.take p.1) (fun p=>xs.length - p.1) (0,List.replicate xs.length 0) (by simp) (Wk.cut (by simp) (by simp) rfl) ?_
 rintro ⟨i,ys⟩ ⟨hi,hy,ht⟩
 simp at hi hy ht;refine Q0 (w_sr mo (by rw [hN];decide) fun K hK=>?_);simp;refine hK _ (Q8 rfl (fun h=>?_) fun h=>?_)<;>clear hK K
 ·simp at h;refine Q9 ?_;simp only [Q37];refine Q0 (Q7 (w_run mo (by rw [hN];decide) fun K hK=>?_));have h2:i<ys.length:=by omega
  simp [h,hy];refine hK _ ?_;clear hK K;simp;refine runQ hN fun K hK=>?_;simp;refine hK _ ?_;clear hK K;rw [Qp (n:=xs.length) (by omega) (by omega)];refine ⟨(i+1,ys.set i xs[i]),⟨by dsimp only;omega,by simp [hy],?_⟩,by dsimp only;omega,Wk.cut (by simp) (by simp) rfl⟩;exact Q77 h h2 ht
 simp at h;refine Qr ?_;simp;refine srQ hN fun K hK=>?_;simp;refine hK _ (Qj (Q3B rfl rfl ?_ ?_))<;>clear hK K
 ·simp [hy]
 rw [List.take_of_length_le (by omega),List.take_of_length_le (by omega)] at ht;rw [ht]
def run (k:Int):Nat→List Int
 | 0=>[]
 | n+1=>k :: run (k+1) n
@[simp] theorem run_length (n:Nat):∀ k,(run k n).length=n:=by
 induction n with
 | zero=>intro k;rfl
 | succ n ih=>intro k;simp [run,ih]
theorem Q6o (n:Nat):∀ (k:Int) (i:Nat) (h:i<n),(run k n)[i]'(by simpa using h)=k+i:=by
 induction n with
 | zero=>intro k i h;omega
 | succ n ih =>
  intro k i h;cases i with
  | zero=>simp [run]
  | succ i=>simp only [run,List.getElem_cons_succ];rw [ih (k+1) i (by omega)];push_cast;omega
theorem m32 (xs:List Int) (k:Int) (h1:xs.length≤1048576) (h2:0≤k) (h3:k≤1152921504606846976) :
  MContract Try.prog 26 [.own 0 0 xs.length,iV k] [⟨1,Is xs,Is (run k xs.length)⟩] (iV (k+xs.length)):=by
 refine Q1V (ts:=[4]) (rv:=.int .i64 (k+xs.length)) Try.func26 rfl rfl ?_ rfl (by simp [Try.f26]) ?_ fun F hN hP=>?_
 ·have:(-9223372036854775808≤k+xs.length)∧k+xs.length≤9223372036854775807:=by omega
  simp [resV,this]
 ·intro j hj;simp at hj;subst hj;simp
 refine srQ hN fun K hK=>?_;simp;refine hK _ ?_;clear hK K;refine Q0 (w_sr mo (by rw [hN];decide) fun K hK=>?_);simp;refine hK _ (Q7 ?_);clear hK K;refine QT (fun p:Nat × List Int=>⟨[(0,.own 0 0 xs.length),(1,iV (k+p.1)),(5,iV p.1)],[(0,rI p.2)],1⟩) (fun p=>p.1≤xs.length∧p.2.length=xs.length∧p.2.take p.1=(run k xs.length).take p.1) (fun p=>xs.length - p.1) (0,xs) (by simp) (Wk.cut (by simp) (by simp [Q4m]) rfl) ?_
 rintro ⟨i,ys⟩ ⟨hi,hy,ht⟩
 simp at hi hy ht;refine Q0 (w_sr mo (by rw [hN];decide) fun K hK=>?_);simp;refine hK _ (Q8 rfl (fun h=>?_) fun h=>?_)<;>clear hK K
 ·simp at h;refine Q9 ?_;simp only [Q37];refine Q0 (Q7 (w_sr mo (by rw [hN];decide) fun K hK=>?_));simp [h,hy];refine hK _ ?_;clear hK K;refine runQ hN fun K hK=>?_;simp;refine hK _ ?_;clear hK K;simp;refine runQ hN fun K hK=>?_;simp;refine hK _ ?_;clear hK K;rw [Qp (n:=xs.length) (by omega) (by omega),QA ⟨by omega,by omega⟩];refine ⟨(i+1,ys.set i (k+i)),⟨by dsimp only;omega,by simp [hy],?_⟩,by dsimp only;omega,Wk.cut (by simp [Int.add_assoc]) (by simp) rfl⟩;have hr:=Q6o xs.length k i h;have:=Q77 (xs:=run k xs.length) (ys:=ys) (i:=i) (by simpa using h) (by omega) ht;rw [hr] at this;exact this
 simp at h;refine Qr ?_;simp;refine srQ hN fun K hK=>?_;simp;refine hK _ (Qj ?_);clear hK K;have hi':i=xs.length:=by omega
 subst hi';rw [List.take_of_length_le (by omega),List.take_of_length_le (by simp)] at ht;subst ht;refine ⟨?_,?_⟩
 ·simp [resOk]
 intro j hj;simp at hj;subst hj;simp
def Ls (xss:List (List Int)):List (List AV):=xss.map fun xs=>[lI xs]
@[simp] theorem Ls_length (xss:List (List Int)):(Ls xss).length=xss.length:=by simp [Ls]
theorem QN (xss:List (List Int)) (i:Nat) (h:i<xss.length):(Ls xss)[i]? = some [lI xss[i]]:=by simp [Ls,h]
attribute [local simp] QN
theorem Qu (xss:List (List Int)) (i:Nat) (h:i<(Ls xss).length):(Ls xss)[i]=[lI (xss[i]'(by simpa using h))]:=by simp [Ls]
attribute [local simp] Qu
@[simp] theorem Ls_set (xss:List (List Int)) (i:Nat) (x:List Int):(Ls xss).set i [lI x]=Ls (xss.set i x):=by simp [Ls,List.map_set]
@[simp] theorem e23:elm Try.prog 23=some 22:=by kernel_rfl
@[simp] theorem y22:tyi Try.prog 22=some ⟨false,1,24,[.slice none 0 0]⟩:=by kernel_rfl
def sumL (xss:List (List Int)):Nat:=(xss.map List.length).sum
def runs (k:Int):List (List Int)→List (List Int)
 | []=>[]
 | xs :: r=>run k xs.length :: runs (k+xs.length) r
@[simp] theorem runs_length (xss:List (List Int)):∀ k,(runs k xss).length=xss.length:=by
 induction xss with
 | nil=>intro k;rfl
 | cons xs r ih=>intro k;simp [runs,ih]
theorem sumL_take (xss:List (List Int)):∀ (i:Nat) (h:i<xss.length),sumL (xss.take (i+1))=sumL (xss.take i)+xss[i].length:=by
 induction xss with
 | nil=>intro i h;simp at h
 | cons xs r ih =>
  intro i h;cases i with
  | zero=>simp [sumL]
  | succ i =>
   have:=ih i (by simpa using h);simp only [sumL,List.take_succ_cons,List.map_cons,List.sum_cons,List.getElem_cons_succ] at this ⊢;omega
theorem sumL_le (xss:List (List Int)):∀ (i:Nat),sumL (xss.take i)≤sumL xss:=by
 induction xss with
 | nil=>intro i;simp [sumL]
 | cons xs r ih =>
  intro i;cases i with
  | zero=>simp [sumL]
  | succ i =>
   have:=ih i;simp only [sumL,List.take_succ_cons,List.map_cons,List.sum_cons] at this ⊢;omega
theorem runs_get (xss:List (List Int)):∀ (k:Int) (i:Nat) (h:i<xss.length),(runs k xss)[i]'(by simpa using h)=run (k+sumL (xss.take i)) xss[i].length:=by
 induction xss with
 | nil=>intro k i h;simp at h
 | cons xs r ih =>
  intro k i h;cases i with
  | zero=>simp [runs,sumL]
  | succ i =>
   simp only [runs,List.getElem_cons_succ];rw [ih _ i (by simpa using h)];simp only [sumL,List.take_succ_cons,List.map_cons,List.sum_cons]
   push_cast
   rw [Int.add_assoc]
theorem set_takeL {xs ys:List (List Int)} {i:Nat} (h1:i<xs.length) (h2:i<ys.length) (h:ys.take i=xs.take i):(ys.set i xs[i]).take (i+1)=xs.take (i+1):=by
 rw [List.take_succ_eq_append_getElem h1,List.take_succ_eq_append_getElem (by simpa using h2),List.take_set_of_le (Nat.le_refl _),h];simp
theorem m33 (xss:List (List Int)) (k:Int) (h1:xss.length≤1048576) (h1':∀ xs∈xss,xs.length≤1048576) (h2:0≤k) (h3:k+sumL xss≤1152921504606846976) :
  MContract Try.prog 51 [.own 0 0 xss.length,iV k] [⟨1,Ls xss,Ls (runs k xss)⟩] (iV (k+sumL xss)):=by
 refine Q1V (ts:=[4]) (rv:=.int .i64 (k+sumL xss)) Try.func51 rfl rfl ?_ rfl (by simp [Try.f51]) ?_ fun F hN hP=>?_
 ·have:(-9223372036854775808≤k+sumL xss)∧k+sumL xss≤9223372036854775807:=by omega
  simp [resV,this]
 ·intro j hj;simp at hj;subst hj;simp
 refine srQ hN fun K hK=>?_;simp;refine hK _ ?_;clear hK K;refine Q0 (w_sr mo (by rw [hN];decide) fun K hK=>?_);simp;refine hK _ (Q7 ?_);clear hK K;refine QT (fun p:Nat × List (List Int)=>⟨[(0,.own 0 0 xss.length),(1,iV (k+sumL (xss.take p.1))),(5,iV p.1)],[(0,.row 1 (Ls p.2))],1⟩) (fun p=>p.1≤xss.length∧p.2.length=xss.length∧p.2.take p.1=(runs k xss).take p.1∧p.2.drop p.1=xss.drop p.1) (fun p=>xss.length - p.1) (0,xss) (by simp) (Wk.cut (by simp [sumL]) (by simp [Q4m]) rfl) ?_
 rintro ⟨i,ys⟩ ⟨hi,hy,ht,hd⟩
 simp at hi hy ht hd;refine Q0 (w_sr mo (by rw [hN];decide) fun K hK=>?_);simp;refine hK _ (Q8 rfl (fun h=>?_) fun h=>?_)<;>clear hK K
 ·simp at h;have hiy:i<ys.length:=by omega
  have he:ys[i]=xss[i]:=by
   have h5:=congrArg (fun l=>l[0]?) hd;simpa [h,hiy] using h5
  refine Q9 ?_;simp only [Q37];refine Q0 (Q7 (w_runM mo (by rw [hN];decide) fun K hK=>?_));simp [h,hy];have hs1:=sumL_take xss i h;have hs2:=sumL_le xss (i+1);refine Q49 (m:=[1]) (m32 xss[i] (k+sumL (xss.take i)) (h1' _ (List.getElem_mem h)) (by omega) (by omega)) (MCall.cell (i:=i) (r:=0) (k:=0) (szr:=1) (esr:=Ls ys) (dels:=[1]) rfl rfl (by simp [hiy]) (by simp) (by simp [hiy]) (by simp [hiy,he]) (by simp) (by simp [Q6d])) rfl ?_ ?_ ?_
  ·intro q hq
   match q,hq with
   | 0,_ =>
    show MArg [1] (.own 1 0 ys[i].length) (.own 0 0 xss[i].length);rw [he];exact .own (j:=0) (by simp)
   | 1,_=>exact .val
  ·intro j hj;have hj0:j=0:=(by simpa using hj);subst hj0;exact ⟨0,by simp,by simp [Occ]⟩
  simp [hiy];refine hK _ ?_;clear hK K;refine runQ hN fun K hK=>?_;simp;refine hK _ ?_;clear hK K;rw [Qp (n:=xss.length) (by omega) (by omega)];refine ⟨(i+1,ys.set i (run (k+sumL (xss.take i)) xss[i].length)),⟨by dsimp only;omega,by simp [hy],?_,?_⟩,by dsimp only;omega,Wk.relabel [(0,0)] (by simp) (by simp) (by rw [hP];simp) (by simp) (by simp) ?_ ?_⟩
  ·have:=set_takeL (xs:=runs k xss) (ys:=ys) (i:=i) (by simpa using h) hiy ht;rw [runs_get xss k i h] at this;exact this
  ·dsimp only;rw [List.drop_set_of_lt (by omega)];have:=congrArg (List.drop 1) hd;simpa [List.drop_drop,Nat.add_comm] using this
  ·simp [hs1,Int.add_assoc,rl]
  simp [rlE]
 simp at h;refine Qr ?_;simp;refine srQ hN fun K hK=>?_;simp;refine hK _ (Qj ?_);clear hK K;have hi':i=xss.length:=by omega
 subst hi';rw [List.take_of_length_le (by omega),List.take_of_length_le (by simp)] at ht;subst ht;refine ⟨?_,?_⟩
 ·simp [resOk]
 intro j hj;simp at hj;subst hj;simp
theorem c46 (x a b:Int):Contract Try.prog 74 [iV x,iV a,iV b] (.val (.bool (decide (a≤x) && decide (x≤b)))):=by
 refine Qe (rs:=[.val (.bool (decide (a≤x) && decide (x≤b)))]) Try.func74 rfl rfl rfl rfl (by simp [Try.f74]) fun F hN hP=>?_;refine srQ hN fun K hK=>?_;simp;refine hK _ ?_;clear hK K;refine srQ hN fun K hK=>?_;simp;refine ⟨fun h=>hK _ (Qj (Qh rfl ?_)),fun h=>hK _ (Qj (Qh rfl ?_))⟩<;>clear hK K
 ·simp [h]
 simp;omega
def inR (n:Int) (x:Int):Bool:=decide (0≤x) && decide (x≤n - 1)
theorem Q6I {p:Int→Bool} {xs:List Int} {i:Nat} (h:i<xs.length) (h1:(xs.take i).all p=true) (h2:p xs[i]=true):(xs.take (i+1)).all p=true:=by
 rw [List.take_succ_eq_append_getElem h,List.all_append,h1];simp [h2]
theorem Q6k {p:Int→Bool} {xs:List Int} {i:Nat} (h:i<xs.length) (h2:p xs[i]=false):xs.all p=false:=by
 rw [List.all_eq_false];exact ⟨xs[i],List.getElem_mem h,by simp [h2]⟩
theorem c22 (u:Bool) (xs:List Int) (n:Int) (hn:B64 (n - 1)):Contract Try.prog 90 [.lst u 1 (Is xs),iV n] (.val (.bool (xs.all (inR n)))):=by
 refine Qe (rs:=[.val (.bool (xs.all (inR n)))]) Try.func90 rfl rfl rfl rfl (by simp [Try.f90]) fun F hN hP=>?_;refine Q3s 0 fun h0=>?_;simp at h0;obtain ⟨hl0,hb0⟩:=h0.is;refine srQ hN fun K hK=>?_;simp;refine hK _ ?_;clear hK K;refine Q0 (srQ hN fun K hK=>?_);simp;refine hK _ (Q7 (QT (fun i:Nat=>⟨[(0,.lst u 1 (Is xs)),(1,iV n),(7,.lst u 1 (Is xs)),(8,iV xs.length),(9,iV i)],[],0⟩) (fun i=>i≤xs.length∧(xs.take i).all (inR n)=true) (fun i=>xs.length - i) 0 (by simp) (Wk.cut (by simp) rfl rfl) ?_));clear hK K
 rintro i ⟨hi,ht⟩
 refine srQ hN fun K hK=>?_;simp;refine hK _ ?_;clear hK K;refine Q0 (Q8 rfl (fun h=>?_) fun h=>?_)
 ·simp at h;refine Q9 (Q0 (Q7 (srQ hN fun K hK=>?_)));simp [h];refine hK _ ?_;clear hK K;refine srQ hN fun K hK=>?_;simp;refine Q1 (c46 xs[i] 0 (n - 1)) ?_ ?_
  ·rw [QA hn];exact .cons .val (.cons .val (.cons .val .nil))
  simp [unk,unA,unE,flat];refine hK _ ?_;clear hK K;refine Q8 rfl (fun h2=>?_) fun h2=>?_
  ·refine srQ hN fun K hK=>?_;simp;refine hK _ (Qj (Qh rfl ?_));clear hK K;simp at h2;rw [Q6k h (by simp [inR];omega)]
  refine Q9 (runQ hN fun K hK=>?_);simp;refine hK _ ?_;clear hK K;rw [Qp (n:=xs.length) (by omega) hl0];refine ⟨i+1,⟨by omega,Q6I h ht (by simpa [inR] using h2)⟩,by dsimp only;omega,Wk.relabel [] (by simp) (by simp) (by rw [hP];simp) (by simp) (by simp) (by simp) (by simp)⟩
 simp at h;refine Qr ?_;simp;refine srQ hN fun K hK=>?_;simp;refine hK _ (Qj (Qh rfl ?_));clear hK K;rw [List.take_of_length_le (by omega)] at ht;rw [ht]
def held (k:Int) (xs:List Int):Int:=if xs=run k xs.length then k+xs.length else -1
theorem Q75 (n:Nat):∀ (k:Int) (i:Nat),i≤n→(run k n).take i=run k i:=by
 induction n with
 | zero =>
  intro k i h;have:i=0:=by omega
  subst this;rfl
 | succ n ih =>
  intro k i h;cases i with
  | zero=>rfl
  | succ i=>simp [run,ih (k+1) i (by omega)]
theorem c53 (u:Bool) (xs:List Int) (k:Int) (h1:xs.length≤1048576) (h2:0≤k) (h3:k≤1152921504606846976):Contract Try.prog 27 [.lst u 1 (Is xs),iV k] (iV (held k xs)):=by
 refine Qe (rs:=[iV (held k xs)]) Try.func27 rfl rfl rfl rfl (by simp [Try.f27]) fun F hN hP=>?_;refine srQ hN fun K hK=>?_;simp;refine hK _ ?_;clear hK K;refine Q0 (srQ hN fun K hK=>?_);simp;refine hK _ (Q7 (QT (fun p:Nat=>⟨[(0,.lst u 1 (Is xs)),(1,iV (k+p)),(5,iV p)],[],0⟩) (fun p=>p≤xs.length∧xs.take p=run k p) (fun p=>xs.length - p) 0 (by simp [run]) (Wk.cut (by simp) (by simp) rfl) ?_));clear hK K
 rintro i ⟨hi,ht⟩
 refine Q0 (srQ hN fun K hK=>?_);simp;refine hK _ ?_;clear hK K;refine Q8 rfl (fun h=>?_) fun h=>?_
 ·simp at h;refine Q9 (Q0 (Q7 (Q0 (srQ hN fun K hK=>?_))));simp [h];refine hK _ ?_;clear hK K;refine Q8 rfl (fun h4=>?_) fun h4=>?_
  ·simp at h4;refine srQ hN fun K hK=>?_;simp;refine hK _ (Qj (Qh rfl ?_));clear hK K;rw [held,if_neg];intro he;have:=congrArg (fun l=>l[i]?) he;simp only [List.getElem?_eq_getElem h] at this;rw [List.getElem?_eq_getElem (by simpa using h),Q6o _ _ _ h] at this;simp at this;omega
  simp at h4;refine Q9 (runQ hN fun K hK=>?_);simp;refine hK _ ?_;clear hK K;refine runQ hN fun K hK=>?_;simp;refine hK _ ?_;clear hK K;rw [Qp (n:=xs.length) (by omega) (by omega),QA ⟨by omega,by omega⟩];refine ⟨i+1,⟨by omega,?_⟩,by dsimp only;omega,Wk.cut (by simp [Int.add_assoc]) (by simp) rfl⟩;have e1:xs.take (i+1)=(run k xs.length).take (i+1):=by
   refine Q6A h (by simpa using h) (by rw [ht,Q75 _ _ _ hi]) (by rw [Q6o _ _ _ h];exact h4)
  rw [e1,Q75 _ _ _ (by omega)]
 simp at h;refine Qr ?_;simp;refine srQ hN fun K hK=>?_;simp;refine hK _ ?_;clear hK K;have hi':i=xs.length:=by omega
 subst hi';refine Qj (Qh rfl ?_);rw [List.take_of_length_le (by omega)] at ht;rw [held,if_pos ht]
@[simp] theorem fld29_0:fld Try.prog 32 0=some (0,1,false):=by kernel_rfl
@[simp] theorem fld29_1:fld Try.prog 32 1=some (1,1,false):=by kernel_rfl
@[simp] theorem fld29_2:fld Try.prog 32 2=some (2,1,false):=by kernel_rfl
@[simp] theorem fld29_3:fld Try.prog 32 3=some (3,1,false):=by kernel_rfl
@[simp] theorem fld29_4:fld Try.prog 32 4=some (4,1,false):=by kernel_rfl
@[simp] theorem y23:tyi Try.prog 23=some ⟨false,1,24,[.slice none 0 0]⟩:=by kernel_rfl
structure Cat where
 n:Int
 fr:List Int
 to:List Int
 id:List Int
 cs:List (List Int)
def Cat.mu (c:Cat) (k:Int):List Mu :=
 [⟨1,Is c.fr,Is (run k c.fr.length)⟩,⟨1,Is c.to,Is (run (k+c.fr.length) c.to.length)⟩,⟨1,Is c.id,Is (run (k+c.fr.length+c.to.length) c.id.length)⟩,
  ⟨1,Ls c.cs,Ls (runs (k+c.fr.length+c.to.length+c.id.length) c.cs)⟩]
def Cat.ok (c:Cat):Prop:=c.fr.length≤1048576∧c.to.length≤1048576∧c.id.length≤1048576∧c.cs.length≤1048576∧(∀ xs∈c.cs,xs.length≤1048576)∧sumL c.cs≤1099511627776
def Cat.size (c:Cat):Nat:=c.fr.length+c.to.length+c.id.length+sumL c.cs
theorem m31 (c:Cat) (k:Int) (hc:c.ok) (h2:0≤k) (h3:k≤576460752303423488) :
  MContract Try.prog 22 [.agg [iV c.n,.own 0 0 c.fr.length,.own 1 0 c.to.length,.own 2 0 c.id.length,.own 3 0 c.cs.length],iV k] (c.mu k) (iV (k+c.fr.length+c.to.length+c.id.length+sumL c.cs)):=by
 obtain ⟨hc1,hc2,hc3,hc4,hc5,hc6⟩:=hc;refine Q1V (ts:=[4]) (rv:=.int .i64 (k+c.fr.length+c.to.length+c.id.length+sumL c.cs)) Try.func22 rfl rfl ?_ rfl (by simp [Try.f22]) ?_ fun F hN hP=>?_
 ·have:(-9223372036854775808≤k+c.fr.length+c.to.length+c.id.length+sumL c.cs)∧k+c.fr.length+c.to.length+c.id.length+sumL c.cs≤9223372036854775807:=by omega
  simp [resV,this]
 ·intro j hj;simp only [Cat.mu,List.length_cons,List.length_nil] at hj
  match j,hj with
  | 0,_=>simp [Cat.mu]
  | 1,_=>simp [Cat.mu]
  | 2,_=>simp [Cat.mu]
  | 3,_=>simp [Cat.mu]
 refine srQ hN fun K hK=>?_;simp [Q4m,Cat.mu];refine hK _ ?_;clear hK K;refine Q7L mo (by rw [hN];decide) fun K hK=>?_;simp;refine Q28 (m32 c.fr k hc1 h2 (by omega)) rfl (by simp) ?_;simp;refine hK _ ?_;clear hK K;refine Q7L mo (by rw [hN];decide) fun K hK=>?_;simp;refine Q28 (m32 c.to (k+c.fr.length) hc2 (by omega) (by omega)) rfl (by simp) ?_;simp;refine hK _ ?_;clear hK K;refine Q7L mo (by rw [hN];decide) fun K hK=>?_;simp;refine Q28 (m32 c.id (k+c.fr.length+c.to.length) hc3 (by omega) (by omega)) rfl (by simp) ?_;simp;refine hK _ ?_;clear hK K;refine Q7L mo (by rw [hN];decide) fun K hK=>?_;simp;refine Q28 (m33 c.cs (k+c.fr.length+c.to.length+c.id.length) hc4 hc5 (by omega) (by omega)) rfl (by simp) ?_;simp;refine hK _ ?_;clear hK K;refine srQ hN fun K hK=>?_;simp;refine hK _ ?_;clear hK K;refine Qj ⟨?_,?_⟩
 ·simp
 intro j hj;simp only [Cat.mu,List.length_cons,List.length_nil] at hj
 match j,hj with
 | 0,_=>simp [Cat.mu]
 | 1,_=>simp [Cat.mu]
 | 2,_=>simp [Cat.mu]
 | 3,_=>simp [Cat.mu]
def Part (done:List (List AV)) (n i:Nat) (z:List AV):List (List AV):=done++List.replicate (n - i) z
theorem Part.at {done:List (List AV)} {n i:Nat} {z:List AV} (hi:i<n) (hd:done.length=i):(Part done n i z)[i]? = some z:=by
 rw [Part,List.getElem?_append_right (by omega),hd,Nat.sub_self,List.getElem?_replicate,if_pos (by omega)]
theorem Part.next {done:List (List AV)} {n i:Nat} {x z:List AV} (hi:i<n) (hd:done.length=i):(Part done n i z).set i x=Part (done++[x]) n (i+1) z:=by
 rw [Part,List.set_append_right _ _ (by omega),hd,Nat.sub_self,show n - i=(n - (i+1))+1 by omega,List.replicate_succ,List.set_cons_zero];simp [Part]
theorem Part.length {done:List (List AV)} {n i:Nat} {z:List AV} (hi:i≤n) (hd:done.length=i):(Part done n i z).length=n:=by simp [Part];omega
theorem Ls_take {xss:List (List Int)} {i:Nat} (h:i<xss.length):Ls (xss.take i)++[[lI xss[i]]]=Ls (xss.take (i+1)):=by
 rw [List.take_succ_eq_append_getElem h,Ls,Ls,List.map_append];rfl
theorem c20 (u:Bool) (xss:List (List Int)) (hx:xss.length≤1048576) (hx':∀ xs∈xss,xs.length≤1048576):Contract Try.prog 39 [.lst u 1 (Ls xss)] (.lst true 1 (Ls xss)):=by
 refine Qe (rs:=[.lst true 1 (Ls xss)]) Try.func39 rfl rfl rfl rfl (by simp [Try.f39]) fun F hN hP=>?_;refine srQ hN fun K hK=>?_;simp;refine hK _ ?_;clear hK K;refine srQ hN fun K hK=>?_;simp;refine ⟨by omega,hK _ ?_⟩;clear hK K;refine Q0 (srQ hN fun K hK=>?_);simp;refine hK _ (Q7 (QT (fun i:Nat=>⟨[(0,.lst u 1 (Ls xss)),(3,.own 0 0 xss.length),(4,iV i)],[(0,.row 1 (Part (Ls (xss.take i)) xss.length i [nS]))],1⟩) (fun i=>i≤xss.length) (fun i=>xss.length - i) 0 (by simp) (Wk.cut (by simp) (by simp [Part,Ls]) rfl) ?_));clear hK K;intro i hi;refine Q0 (srQ hN fun K hK=>?_);simp;refine hK _ ?_;clear hK K;refine Q8 rfl (fun h=>?_) fun h=>?_
 ·simp at h;have hd:(Ls (xss.take i)).length=i:=by simp;omega
  have hat:=Part.at (z:=[nS]) h hd;have hlen:=Part.length (z:=[nS]) hi hd;refine Q9 (Q0 (Q7 (runQ hN fun K hK=>?_)));simp [h];refine Q1 (c19 u xss[i] (hx' _ (List.getElem_mem h))) (.cons .lst .nil) ?_;simp [unk,unA,unE,flat,h];refine stoA_row [] y22 rfl (b:=.lst true 1 (Is xss[i])) (ds:=[1]) rfl (by simp) (by omega) (by simp) (by simp) (by simp) (by simp) ?_;simp [hat];refine hK _ ?_;clear hK K;refine runQ hN fun K hK=>?_;simp;refine hK _ ?_;clear hK K;rw [Qp (n:=xss.length) (by omega) (by omega),Part.next h hd,Ls_take h];refine ⟨i+1,by omega,by dsimp only;omega,Wk.relabel [(0,0)] (by simp) (by simp) (by rw [hP];simp) (by simp) (by simp) (by simp) (by simp)⟩
 simp at h;refine Qr ?_;simp;refine srQ hN fun K hK=>?_;simp;refine hK _ ?_;clear hK K;have hi':i=xss.length:=by omega
 subst hi';refine Qj (Q3B rfl rfl ?_ ?_)
 ·simp [Part]
 simp [Part]
@[simp] theorem fld25_0:fld Try.prog 25 0=some (0,1,false):=by kernel_rfl
@[simp] theorem fld25_1:fld Try.prog 25 1=some (1,1,false):=by kernel_rfl
@[simp] theorem fld25_2:fld Try.prog 25 2=some (2,1,false):=by kernel_rfl
@[simp] theorem fld25_3:fld Try.prog 25 3=some (3,1,false):=by kernel_rfl
@[simp] theorem fld25_4:fld Try.prog 25 4=some (4,1,false):=by kernel_rfl
@[simp] theorem y29:tyi Try.prog 32=some ⟨true,5,104,[.int .i64 0,.slice none 0 0,.slice none 0 0,.slice none 0 0,.slice none 0 0]⟩:=by kernel_rfl
def Cat.av (u:Bool) (c:Cat):AV:=.agg [iV c.n,.lst u 1 (Is c.fr),.lst u 1 (Is c.to),.lst u 1 (Is c.id),.lst u 1 (Ls c.cs)]
theorem c18 (c:Cat) (u:Bool) (hc:c.ok):Contract Try.prog 19 [c.av u] (c.av true):=by
 obtain ⟨hc1,hc2,hc3,hc4,hc5,hc6⟩:=hc;refine Q1U Try.func19 rfl rfl y29 rfl rfl (by simp [Try.f19]) fun F hN hP=>?_;refine srQ hN fun K hK=>?_;simp [Cat.av];refine hK _ ?_;clear hK K;refine srQ hN fun K hK=>?_;simp;refine hK _ ?_;clear hK K;refine srQ hN fun K hK=>?_;simp;refine hK _ ?_;clear hK K;refine srQ hN fun K hK=>?_;simp;refine Q1 (c19 u c.fr hc1) (.cons .lst .nil) ?_;simp [unk,unA,unE,flat];refine hK _ ?_;clear hK K;refine srQ hN fun K hK=>?_;simp;refine Q1 (c19 u c.to hc2) (.cons .lst .nil) ?_;simp [unk,unA,unE,flat];refine hK _ ?_;clear hK K;refine srQ hN fun K hK=>?_;simp;refine Q1 (c19 u c.id hc3) (.cons .lst .nil) ?_;simp [unk,unA,unE,flat];refine hK _ ?_;clear hK K;refine srQ hN fun K hK=>?_;simp;refine Q1 (c20 u c.cs hc4 hc5) (.cons .lst .nil) ?_;simp [unk,unA,unE,flat];refine hK _ ?_;clear hK K;refine srQ hN fun K hK=>?_;simp;refine hK _ (Qj ⟨_,_,_,_,_,rfl,rfl,by simp,by simp,?_⟩);clear hK K;exact ⟨.agg rfl .nil,[iV c.n,lI c.fr,lI c.to,lI c.id,.lst true 1 (Ls c.cs)],[3,4,5,6],by simp,by simp,UpL.refl _⟩
def less (left:Int) (n:Nat):Int:=if left - n<0 then -1 else left - n
theorem c14 (u:Bool) (xs:List Int) (l:Int) (h1:0≤l) (h2:l≤1048576):Contract Try.prog 29 [.lst u 1 (Is xs),iV l] (iV (less l xs.length)):=by
 refine Qe (rs:=[iV (less l xs.length)]) Try.func29 rfl rfl rfl rfl (by simp [Try.f29]) fun F hN hP=>?_;refine Q3s 0 fun h0=>?_;simp at h0;obtain ⟨hl0,hb0⟩:=h0.is;refine srQ hN fun K hK=>?_;simp;refine hK _ ?_;clear hK K;refine srQ hN fun K hK=>?_;simp;rw [QA ⟨by omega,by omega⟩];refine hK _ ?_;clear hK K;refine Q0 (srQ hN fun K hK=>?_);simp;refine hK _ ?_;clear hK K;refine Q8 rfl (fun h=>?_) fun h=>?_
 ·simp at h;refine srQ hN fun K hK=>?_;simp;refine hK _ (Qj (Qh rfl ?_));clear hK K;rw [less,if_pos (by omega)]
 simp at h;refine Q9 (srQ hN fun K hK=>?_);simp;refine hK _ (Qj (Qh rfl ?_));clear hK K;rw [less,if_neg (by omega)]
def Q3S (l:Int):List (List Int)→Int
 | []=>l
 | xs :: r=>if less l xs.length<0 then -1 else Q3S (less l xs.length) r
def Q2c (l:Int) (xss:List (List Int)):Int:=if l - xss.length<0 then -1 else Q3S (l - xss.length) xss
theorem Q6S {u:Bool} {sz:Nat} {es:List (List AV)} (h:Good (.lst u sz es)):es.length≤9223372036854775807:=by
 cases h with
 | lst h1=>exact Nat.le_trans h1 (by decide)
 | other h=>exact h.elim
theorem c15 (u:Bool) (xss:List (List Int)) (l:Int) (h1:0≤l) (h2:l≤1048576):Contract Try.prog 28 [.lst u 1 (Ls xss),iV l] (iV (Q2c l xss)):=by
 refine Qe (rs:=[iV (Q2c l xss)]) Try.func28 rfl rfl rfl rfl (by simp [Try.f28]) fun F hN hP=>?_;refine Q3s 0 fun h0=>?_;simp at h0;have hl0:=Q6S h0;simp at hl0;refine srQ hN fun K hK=>?_;simp;refine hK _ ?_;clear hK K;refine srQ hN fun K hK=>?_;simp;rw [QA ⟨by omega,by omega⟩];refine hK _ ?_;clear hK K;refine Q0 (srQ hN fun K hK=>?_);simp;refine hK _ ?_;clear hK K;refine Q8 rfl (fun h=>?_) fun h=>?_
 ·simp at h;refine srQ hN fun K hK=>?_;simp;refine hK _ (Qj (Qh rfl ?_));clear hK K;rw [Q2c,if_pos (by omega)]
 simp at h;refine Q9 (Q0 (srQ hN fun K hK=>?_));simp;refine hK _ (Q7 (QT (fun p:Nat × Int=>⟨[(0,.lst u 1 (Ls xss)),(1,iV p.2),(5,iV p.1)],[],0⟩) (fun p=>p.1≤xss.length∧0≤p.2∧p.2≤1048576∧Q3S p.2 (xss.drop p.1)=Q2c l xss) (fun p=>xss.length - p.1) (0,l - xss.length) ⟨by simp,by dsimp only;omega,by dsimp only;omega,by rw [Q2c,if_neg (by omega)];rfl⟩ (Wk.cut (by simp) (by simp) rfl) ?_));clear hK K
 rintro ⟨i,q⟩ ⟨hi,hq1,hq2,hq3⟩
 simp only at hi hq1 hq2 hq3;refine Q0 (srQ hN fun K hK=>?_);simp;refine hK _ ?_;clear hK K;refine Q8 rfl (fun h=>?_) fun h=>?_
 ·simp at h;rw [List.drop_eq_getElem_cons h,Q3S] at hq3;refine Q9 (Q0 (Q7 (srQ hN fun K hK=>?_)));simp [h];refine Q1 (c14 u xss[i] q hq1 hq2) (.cons .lst (.cons .val .nil)) ?_;simp [unk,unA,unE,flat];refine hK _ ?_;clear hK K;refine srQ hN fun K hK=>?_;simp;refine hK _ ?_;clear hK K;refine Q8 rfl (fun h3=>?_) fun h3=>?_
  ·simp at h3;refine srQ hN fun K hK=>?_;simp;refine hK _ (Qj (Qh rfl ?_));clear hK K;rw [if_pos h3] at hq3;rw [hq3]
  simp at h3;rw [if_neg (by omega)] at hq3;refine Q9 (runQ hN fun K hK=>?_);simp;refine hK _ ?_;clear hK K;rw [Qp (n:=xss.length) (by omega) (by omega)];have hle:less q xss[i].length≤1048576:=by unfold less;split<;>omega
  refine ⟨(i+1,less q xss[i].length),⟨by dsimp only;omega,h3,hle,hq3⟩,by dsimp only;omega,Wk.relabel [] (by simp) (by simp) (by rw [hP];simp) (by simp) (by simp) (by simp) (by simp)⟩
 simp at h;refine Qr ?_;simp;refine srQ hN fun K hK=>?_;simp;refine hK _ ?_;clear hK K;rw [List.drop_eq_nil_of_le (by omega),Q3S] at hq3;refine Qj (Qh rfl ?_);rw [hq3]
def nn (a:Int) (f:Int→Int):Int:=if a<0 then -1 else f a
def Q36 (l:Int) (c:Cat):Int:=nn (less l c.fr.length) fun a=>nn (less a c.to.length) fun b=>nn (less b c.id.length) fun d=>nn (Q2c d c.cs) fun e=>e
theorem Q2H {l:Int} {n:Nat} (h:l≤1048576):less l n≤1048576:=by unfold less;split<;>omega
theorem c13 (u:Bool) (c:Cat) (l:Int) (h1:0≤l) (h2:l≤1048576):Contract Try.prog 17 [c.av u,iV l] (iV (Q36 l c)):=by
 refine Qe (rs:=[iV (Q36 l c)]) Try.func17 rfl rfl rfl rfl (by simp [Try.f17]) fun F hN hP=>?_;simp only [Cat.av];refine srQ hN fun K hK=>?_;simp;refine hK _ ?_;clear hK K;refine srQ hN fun K hK=>?_;simp;refine Q1 (c14 u c.fr l h1 h2) (.cons .lst (.cons .val .nil)) ?_;simp [unk,unA,unE,flat];refine hK _ ?_;clear hK K;refine Q0 (srQ hN fun K hK=>?_);simp;refine hK _ ?_;clear hK K;refine Q8 rfl (fun g1=>?_) fun g1=>?_
 ·simp at g1;refine srQ hN fun K hK=>?_;simp;refine hK _ (Qj (Qh rfl ?_));clear hK K;simp only [Q36,nn];rw [if_pos g1]
 simp at g1;have h3:0≤less l c.fr.length:=g1;have hb1:less l c.fr.length≤1048576:=Q2H (by omega);refine Q9 (srQ hN fun K hK=>?_);simp;refine Q1 (c14 u c.to _ h3 hb1) (.cons .lst (.cons .val .nil)) ?_;simp [unk,unA,unE,flat];refine hK _ ?_;clear hK K;refine Q0 (srQ hN fun K hK=>?_);simp;refine hK _ ?_;clear hK K;refine Q8 rfl (fun g2=>?_) fun g2=>?_
 ·simp at g2;refine srQ hN fun K hK=>?_;simp;refine hK _ (Qj (Qh rfl ?_));clear hK K;simp only [Q36,nn];rw [if_neg (Int.not_lt.2 h3),if_pos g2]
 simp at g2;have h4:0≤less (less l c.fr.length) c.to.length:=g2;have hb2:less (less l c.fr.length) c.to.length≤1048576:=Q2H (by omega);refine Q9 (srQ hN fun K hK=>?_);simp;refine Q1 (c14 u c.id _ h4 hb2) (.cons .lst (.cons .val .nil)) ?_;simp [unk,unA,unE,flat];refine hK _ ?_;clear hK K;refine Q0 (srQ hN fun K hK=>?_);simp;refine hK _ ?_;clear hK K;refine Q8 rfl (fun g3=>?_) fun g3=>?_
 ·simp at g3;refine srQ hN fun K hK=>?_;simp;refine hK _ (Qj (Qh rfl ?_));clear hK K;simp only [Q36,nn];rw [if_neg (Int.not_lt.2 h3),if_neg (Int.not_lt.2 h4),if_pos g3]
 simp at g3;have h5:0≤less (less (less l c.fr.length) c.to.length) c.id.length:=g3;have hb3:less (less (less l c.fr.length) c.to.length) c.id.length≤1048576:=Q2H (by omega);refine Q9 (srQ hN fun K hK=>?_);simp;refine Q1 (c15 u c.cs _ h5 hb3) (.cons .lst (.cons .val .nil)) ?_;simp [unk,unA,unE,flat];refine hK _ ?_;clear hK K;refine Q0 (srQ hN fun K hK=>?_);simp;refine hK _ ?_;clear hK K;refine Q8 rfl (fun g4=>?_) fun g4=>?_
 ·simp at g4;refine srQ hN fun K hK=>?_;simp;refine hK _ (Qj (Qh rfl ?_));clear hK K;simp only [Q36,nn];rw [if_neg (Int.not_lt.2 h3),if_neg (Int.not_lt.2 h4),if_neg (Int.not_lt.2 h5),if_pos g4]
 simp at g4;have h6:0≤Q2c (less (less (less l c.fr.length) c.to.length) c.id.length) c.cs:=g4;refine Q9 (srQ hN fun K hK=>?_);simp;refine hK _ (Qj (Qh rfl ?_));clear hK K;simp only [Q36,nn];rw [if_neg (Int.not_lt.2 h3),if_neg (Int.not_lt.2 h4),if_neg (Int.not_lt.2 h5),if_neg (Int.not_lt.2 h6)]
end
section
attribute [local simp] Qc Qw Qm QN Qu
@[simp] theorem y37:tyi Try.prog 34=some ⟨true,7,152,[.int .i64 0,.slice none 0 0,.slice none 0 0,.slice none 0 0,.slice none 0 0,.slice none 0 0,.slice none 0 0]⟩:=by kernel_rfl
@[simp] theorem y25:tyi Try.prog 25=some ⟨true,5,104,[.int .i64 0,.slice none 0 0,.slice none 0 0,.slice none 0 0,.slice none 0 0]⟩:=by kernel_rfl
@[simp] theorem fld37_0:fld Try.prog 34 0=some (0,5,true):=by kernel_rfl
@[simp] theorem fld37_1:fld Try.prog 34 1=some (5,1,false):=by kernel_rfl
@[simp] theorem fld37_2:fld Try.prog 34 2=some (6,1,false):=by kernel_rfl
@[simp] theorem fld27_0:fld Try.prog 29 0=some (0,5,true):=by kernel_rfl
@[simp] theorem fld27_1:fld Try.prog 29 1=some (5,1,false):=by kernel_rfl
@[simp] theorem fld27_2:fld Try.prog 29 2=some (6,1,false):=by kernel_rfl
def Cat.cells (u:Bool) (c:Cat):List AV:=[iV c.n,.lst u 1 (Is c.fr),.lst u 1 (Is c.to),.lst u 1 (Is c.id),.lst u 1 (Ls c.cs)]
theorem Cat.pur {h:HP} {u v:Bool} {c:Cat}:PurL h (c.cells u) (c.cells v):=.cons .val (.cons .lst (.cons .lst (.cons .lst (.cons .lst .nil))))
structure Fn where
 s:Cat
 t:Cat
 ob:List Int
 ar:List Int
def Fn.cells (u:Bool) (f:Fn):List AV:=[iV f.s.n,.lst u 1 (Is f.s.fr),.lst u 1 (Is f.s.to),.lst u 1 (Is f.s.id),.lst u 1 (Ls f.s.cs),iV f.t.n,.lst u 1 (Is f.t.fr),.lst u 1 (Is f.t.to),.lst u 1 (Is f.t.id),.lst u 1 (Ls f.t.cs),.lst u 1 (Is f.ob),.lst u 1 (Is f.ar)]
theorem Fn.pur {h:HP} {u v:Bool} {c:Fn}:PurL h (c.cells u) (c.cells v):=.cons .val (.cons .lst (.cons .lst (.cons .lst (.cons .lst (.cons .val (.cons .lst (.cons .lst (.cons .lst (.cons .lst (.cons .lst (.cons .lst .nil)))))))))))
structure SF where
 s:Cat
 sz:List Int
 ac:List (List Int)
def SF.cells (u:Bool) (f:SF):List AV:=[iV f.s.n,.lst u 1 (Is f.s.fr),.lst u 1 (Is f.s.to),.lst u 1 (Is f.s.id),.lst u 1 (Ls f.s.cs),.lst u 1 (Is f.sz),.lst u 1 (Ls f.ac)]
def Cs (cs:List Cat):List (List AV):=cs.map (Cat.cells true)
def Fs (fs:List Fn):List (List AV):=fs.map (Fn.cells true)
structure Fam where
 b:Cat
 fb:List Cat
 ch:List Fn
def Fam.cells (u:Bool) (f:Fam):List AV:=[iV f.b.n,.lst u 1 (Is f.b.fr),.lst u 1 (Is f.b.to),.lst u 1 (Is f.b.id),.lst u 1 (Ls f.b.cs),.lst u 5 (Cs f.fb),.lst u 12 (Fs f.ch)]
theorem c30 (u v:Bool) (xs:List (List Int)):Contract Try.prog 50 [.lst u 1 (Ls xs),.lst v 1 (Ls xs)] (.val (.bool true)):=by
 refine Qe (rs:=[.val (.bool true)]) Try.func50 rfl rfl rfl rfl (by simp [Try.f50]) fun F hN hP=>?_;refine Q3s 0 fun h0=>?_;have hl0:xs.length≤9223372036854775807:=by simpa using Q6S h0
 refine srQ hN fun K hK=>?_;simp;refine hK _ ?_;clear hK K;refine Q0 (srQ hN fun K hK=>?_);simp;refine hK _ (Q8 rfl (fun h=>by simp at h) fun _=>?_);clear hK K;refine Q9 (Q0 (srQ hN fun K hK=>?_));simp;refine hK _ (Q7 (QT (fun i:Nat=>⟨[(0,.lst u 1 (Ls xs)),(1,.lst v 1 (Ls xs)),(5,iV i)],[],0⟩) (fun i=>i≤xs.length) (fun i=>xs.length - i) 0 (by simp) (Wk.cut (by simp) (by simp) rfl) ?_));clear hK K;intro i hi;refine Q0 (srQ hN fun K hK=>?_);simp;refine hK _ ?_;clear hK K;refine Q8 rfl (fun h=>?_) fun h=>?_
 ·simp at h;refine Q9 (Q0 (Q7 (srQ hN fun K hK=>?_)));simp [h];refine Q1 (c29 true true xs[i] xs[i]) (.cons .lst (.cons .lst .nil)) ?_;simp [unk,unA,unE,flat];refine hK _ (Q8 rfl (fun h=>by simp at h) fun _=>?_);clear hK K;refine Q9 (runQ hN fun K hK=>?_);simp;refine hK _ ?_;clear hK K;rw [Qp (n:=xs.length) (by omega) (by omega)];refine ⟨i+1,by omega,by dsimp only;omega,Wk.relabel [] (by simp) (by simp) (by rw [hP];simp) (by simp) (by simp) (by simp) (by simp)⟩
 simp at h;refine Qr ?_;simp;refine srQ hN fun K hK=>?_;simp;refine hK _ ?_;clear hK K;refine Qj (Qh rfl rfl)
theorem c26 (u v:Bool) (c:Cat):Contract Try.prog 21 [.agg (c.cells u),.agg (c.cells v)] (.val (.bool true)):=by
 refine Qe (rs:=[.val (.bool true)]) Try.func21 rfl rfl rfl rfl (by simp [Try.f21]) fun F hN hP=>?_;refine srQ hN fun K hK=>?_;simp [Cat.cells];refine hK _ ?_;clear hK K;refine Q0 (srQ hN fun K hK=>?_);simp;refine hK _ (Q8 rfl (fun h=>by simp at h) fun _=>?_);clear hK K;refine Q9 (Q0 (srQ hN fun K hK=>?_));simp;refine Q1 (c29 u v c.fr c.fr) (.cons .lst (.cons .lst .nil)) ?_;simp [unk,unA,unE,flat];refine hK _ (Q8 rfl (fun h=>by simp at h) fun _=>?_);clear hK K;refine Q9 (Q0 (srQ hN fun K hK=>?_));simp;refine Q1 (c29 u v c.to c.to) (.cons .lst (.cons .lst .nil)) ?_;simp [unk,unA,unE,flat];refine hK _ (Q8 rfl (fun h=>by simp at h) fun _=>?_);clear hK K;refine Q9 (Q0 (srQ hN fun K hK=>?_));simp;refine Q1 (c29 u v c.id c.id) (.cons .lst (.cons .lst .nil)) ?_;simp [unk,unA,unE,flat];refine hK _ (Q8 rfl (fun h=>by simp at h) fun _=>?_);clear hK K;refine Q9 (Q0 (srQ hN fun K hK=>?_));simp;refine Q1 (c30 u v c.cs) (.cons .lst (.cons .lst .nil)) ?_;simp [unk,unA,unE,flat];refine hK _ (Q8 rfl (fun h=>by simp at h) fun _=>?_);clear hK K;refine Q9 (srQ hN fun K hK=>?_);simp;refine hK _ ?_;clear hK K;refine Qj (Qh rfl rfl)
def sumB {α:Type} (sz:α→Nat) (xs:List α):Nat:=(xs.map sz).sum
def marks {α:Type} (f:Int→α→α) (sz:α→Nat):Int→List α→List α
 | _,[]=>[]
 | k,x :: r=>f k x :: marks f sz (k+sz x) r
section
variable {α:Type} (f:Int→α→α) (sz:α→Nat)
end
@[simp] theorem held_run (k:Int) (n:Nat):held k (run k n)=k+n:=by simp [held]
def Cat.mark (k:Int) (c:Cat):Cat:=⟨c.n,run k c.fr.length,run (k+c.fr.length) c.to.length,run (k+c.fr.length+c.to.length) c.id.length,runs (k+c.fr.length+c.to.length+c.id.length) c.cs⟩
def Cat.markE (k:Int) (c:Cat):Cat:=⟨k,run (k+1) c.fr.length,run (k+1+c.fr.length) c.to.length,run (k+1+c.fr.length+c.to.length) c.id.length,runs (k+1+c.fr.length+c.to.length+c.id.length) c.cs⟩
def Cat.sizeE (c:Cat):Nat:=c.size+1
def Fn.mark (k:Int) (f:Fn):Fn:=⟨f.s.mark k,f.t.mark (k+f.s.size),run (k+f.s.size+f.t.size) f.ob.length,run (k+f.s.size+f.t.size+f.ob.length) f.ar.length⟩
def Fn.size (f:Fn):Nat:=f.s.size+f.t.size+f.ob.length+f.ar.length
def Fn.sizeE (f:Fn):Nat:=f.s.sizeE+f.t.sizeE+f.ob.length+f.ar.length
def Fn.markE (k:Int) (f:Fn):Fn:=⟨f.s.markE k,f.t.markE (k+1+f.s.fr.length+f.s.to.length+f.s.id.length+sumL f.s.cs),run (k+1+f.s.fr.length+f.s.to.length+f.s.id.length+sumL f.s.cs+1+f.t.fr.length+f.t.to.length+f.t.id.length+sumL f.t.cs) f.ob.length,run (k+1+f.s.fr.length+f.s.to.length+f.s.id.length+sumL f.s.cs+1+f.t.fr.length+f.t.to.length+f.t.id.length+sumL f.t.cs+f.ob.length) f.ar.length⟩
def SF.mark (k:Int) (f:SF):SF:=⟨f.s.mark k,run (k+f.s.size) f.sz.length,runs (k+f.s.size+f.sz.length) f.ac⟩
def SF.size (f:SF):Nat:=f.s.size+f.sz.length+sumL f.ac
def Fam.size (f:Fam):Nat:=f.b.size+sumB Cat.sizeE f.fb+sumB Fn.sizeE f.ch
def Fam.mark (k:Int) (f:Fam):Fam:=⟨f.b.mark k,marks Cat.markE Cat.sizeE (k+f.b.size) f.fb,marks Fn.markE Fn.sizeE (k+f.b.size+sumB Cat.sizeE f.fb) f.ch⟩
theorem nn_le {a b:Int} {f:Int→Int} (hf:∀ x,a=x→0≤x→f x≤b) (hb : -1≤b):nn a f≤b:=by
 unfold nn;split
 ·exact hb
 exact hf a rfl (by omega)
theorem lessS_le (xs:List (List Int)):∀ l:Int,l≤1048576→Q3S l xs≤1048576:=by
 induction xs with
 | nil=>intro l h;simpa [Q3S] using h
 | cons x r ih=>intro l h;simp only [Q3S];split<;>first|omega|(exact ih _ (Q2H h))
theorem lessSS_le {l:Int} {xs:List (List Int)} (h:l≤1048576):Q2c l xs≤1048576:=by
 unfold Q2c;split
 ·omega
 exact lessS_le _ _ (by omega)
theorem Q78 {l:Int} {c:Cat} (h:l≤1048576):Q36 l c≤1048576 :=
 nn_le (fun x hx _=>nn_le (fun y hy _=>nn_le (fun z hz _=>nn_le (fun w hw _=>by rw [← hw];exact lessSS_le (by rw [← hz];exact Q2H (by rw [← hy];exact Q2H (by rw [← hx];exact Q2H h)))) (by decide)) (by decide)) (by decide)) (by decide)
def szSF (l:Int) (f:SF):Int:=nn (Q36 l f.s) fun a=>nn (less a f.sz.length) fun b=>nn (Q2c b f.ac) fun e=>e
theorem c4 (u:Bool) (f:SF) (l:Int) (h1:0≤l) (h2:l≤1048576):Contract Try.prog 7 [.agg (f.cells u),iV l] (iV (szSF l f)):=by
 refine Qe (rs:=[iV (szSF l f)]) Try.func7 rfl rfl rfl rfl (by simp [Try.f7]) fun F hN hP=>?_;refine srQ hN fun K hK=>?_;simp [SF.cells];refine hK _ ?_;clear hK K;refine srQ hN fun K hK=>?_;simp;refine Q1 (c13 u f.s l h1 h2) (.cons (.aggL Cat.pur) (.cons .val .nil)) ?_;simp [unk,unA,unE,flat];refine hK _ ?_;clear hK K;refine Q0 (srQ hN fun K hK=>?_);simp;refine hK _ ?_;clear hK K;refine Q8 rfl (fun g1=>?_) fun g1=>?_
 ·simp at g1;refine srQ hN fun K hK=>?_;simp;refine hK _ (Qj (Qh rfl ?_));clear hK K;simp only [szSF,nn];rw [if_pos g1]
 simp at g1;refine Q9 (srQ hN fun K hK=>?_);simp;refine Q1 (c14 u f.sz (Q36 l f.s) g1 (Q78 h2)) (.cons .lst (.cons .val .nil)) ?_;simp [unk,unA,unE,flat];refine hK _ ?_;clear hK K;refine Q0 (srQ hN fun K hK=>?_);simp;refine hK _ ?_;clear hK K;refine Q8 rfl (fun g2=>?_) fun g2=>?_
 ·simp at g2;refine srQ hN fun K hK=>?_;simp;refine hK _ (Qj (Qh rfl ?_));clear hK K;simp only [szSF,nn];rw [if_neg (Int.not_lt.2 g1),if_pos g2]
 simp at g2;refine Q9 (srQ hN fun K hK=>?_);simp;refine Q1 (c15 u f.ac (less (Q36 l f.s) f.sz.length) g2 (Q2H (Q78 h2))) (.cons .lst (.cons .val .nil)) ?_;simp [unk,unA,unE,flat];refine hK _ ?_;clear hK K;refine Q0 (srQ hN fun K hK=>?_);simp;refine hK _ ?_;clear hK K;refine Q8 rfl (fun g3=>?_) fun g3=>?_
 ·simp at g3;refine srQ hN fun K hK=>?_;simp;refine hK _ (Qj (Qh rfl ?_));clear hK K;simp only [szSF,nn];rw [if_neg (Int.not_lt.2 g1),if_neg (Int.not_lt.2 g2),if_pos g3]
 simp at g3;refine Q9 (srQ hN fun K hK=>?_);simp;refine hK _ (Qj (Qh rfl ?_));clear hK K;simp only [szSF,nn];rw [if_neg (Int.not_lt.2 g1),if_neg (Int.not_lt.2 g2),if_neg (Int.not_lt.2 g3)]
theorem c56 (x a b:Int):Contract Try.prog 104 [iV x,iV a,iV b] (.val (.bool (decide (a≤x) && decide (x≤b)))):=by
 refine Qe (rs:=[.val (.bool (decide (a≤x) && decide (x≤b)))]) Try.func104 rfl rfl rfl rfl (by simp [Try.f104]) fun F hN hP=>?_;refine srQ hN fun K hK=>?_;simp;refine hK _ ?_;clear hK K;refine srQ hN fun K hK=>?_;simp;refine ⟨fun h=>hK _ (Qj (Qh rfl ?_)),fun h=>hK _ (Qj (Qh rfl ?_))⟩<;>clear hK K
 ·simp [h]
 simp;omega
theorem c57 (u:Bool) (xs:List Int) (n:Int):Contract Try.prog 105 [iV n,.lst u 1 (Is xs)] (.val (.bool (xs.all (inR n)))):=by
 refine Qe (rs:=[.val (.bool (xs.all (inR n)))]) Try.func105 rfl rfl rfl rfl (by simp [Try.f105]) fun F hN hP=>?_;refine Q3s 1 fun h0=>?_;simp at h0;obtain ⟨hl0,hb0⟩:=h0.is;refine srQ hN fun K hK=>?_;simp;refine hK _ ?_;clear hK K;refine Q0 (srQ hN fun K hK=>?_);simp;refine hK _ (Q7 (QT (fun i:Nat=>⟨[(0,iV n),(1,.lst u 1 (Is xs)),(5,iV i)],[],0⟩) (fun i=>i≤xs.length∧(xs.take i).all (inR n)=true) (fun i=>xs.length - i) 0 (by simp) (Wk.cut (by simp) (by simp) rfl) ?_));clear hK K
 rintro i ⟨hi,ht⟩
 refine Q0 (srQ hN fun K hK=>?_);simp;refine hK _ ?_;clear hK K;refine Q8 rfl (fun h=>?_) fun h=>?_
 ·simp at h;refine Q9 (Q0 (Q7 (srQ hN fun K hK=>?_)));simp [h];refine ⟨fun h1=>hK _ ?_,fun h1=>hK _ ?_⟩<;>clear hK K
  ·refine Q8 rfl (fun h2=>?_) fun h2=>?_
   ·simp at h2;refine srQ hN fun K hK=>?_;simp;refine hK _ (Qj (Qh rfl ?_));clear hK K;rw [Q6k h];simp [inR];omega
   simp at h2;refine Q9 (runQ hN fun K hK=>?_);simp;refine hK _ ?_;clear hK K;rw [Qp (n:=xs.length) (by omega) (by omega)];refine ⟨i+1,⟨by omega,Q6I h ht (by simp [inR];omega)⟩,by dsimp only;omega,Wk.cut (by simp) (by simp) rfl⟩
  refine Q8 rfl (fun _=>?_) fun h=>by simp at h
  refine srQ hN fun K hK=>?_;simp;refine hK _ (Qj (Qh rfl ?_));clear hK K;rw [Q6k h];simp [inR];omega
 simp at h;refine Qr ?_;simp;have hi':i=xs.length:=by omega
 subst hi';rw [List.take_length] at ht;refine srQ hN fun K hK=>?_;simp;refine hK _ (Qj (Qh rfl ?_));clear hK K;rw [ht]
theorem c58 (u:Bool) (xs:List Int) (hx:xs.length≤1048576):Contract Try.prog 69 [.lst u 1 (Is xs)] (lI xs):=by
 refine Qe (rs:=[lI xs]) Try.func69 rfl rfl rfl rfl (by simp [Try.f69]) fun F hN hP=>?_;refine srQ hN fun K hK=>?_;simp;refine hK _ ?_;clear hK K;refine srQ hN fun K hK=>?_;simp;refine ⟨⟨?_,by omega,by omega⟩,hK _ ?_⟩
 ·intro e he c hc;obtain ⟨x,_,rfl⟩:=List.mem_map.1 he;simp at hc;subst hc;rfl
 clear hK K;refine Qj (Q3B rfl rfl (by simp) (by simp))
theorem c47 (u:Bool) (xs:List Int) (hx:xs.length≤1048576):Contract Try.prog 83 [.lst u 1 (Is xs)] (lI xs):=by
 refine Qe (rs:=[lI xs]) Try.func83 rfl rfl rfl rfl (by simp [Try.f83]) fun F hN hP=>?_;refine srQ hN fun K hK=>?_;simp;refine hK _ ?_;clear hK K;refine srQ hN fun K hK=>?_;simp;refine ⟨⟨?_,by omega,by omega⟩,hK _ ?_⟩
 ·intro e he c hc;obtain ⟨x,_,rfl⟩:=List.mem_map.1 he;simp at hc;subst hc;rfl
 clear hK K;refine Qj (Q3B rfl rfl (by simp) (by simp))
theorem c48 (u:Bool) (xs:List (List Int)) (hx:xs.length≤1048576) (hx':∀ x∈xs,x.length≤1048576):Contract Try.prog 84 [.lst u 1 (Ls xs)] (.lst true 1 (Ls xs)):=by
 refine Qe (rs:=[.lst true 1 (Ls xs)]) Try.func84 rfl rfl rfl rfl (by simp [Try.f84]) fun F hN hP=>?_;refine srQ hN fun K hK=>?_;simp;refine hK _ ?_;clear hK K;refine srQ hN fun K hK=>?_;simp;refine ⟨by omega,hK _ ?_⟩;clear hK K;refine Q0 (srQ hN fun K hK=>?_);simp;refine hK _ (Q7 (QT (fun i:Nat=>⟨[(0,.lst u 1 (Ls xs)),(3,.own 0 0 i),(9,.lst u 1 (Ls xs)),(10,iV xs.length),(11,iV i)],[(0,.row 1 (Ls (xs.take i)))],1⟩) (fun i=>i≤xs.length) (fun i=>xs.length - i) 0 (by simp) (Wk.cut (by simp) (by simp [Ls]) rfl) ?_));clear hK K;intro i hi;refine srQ hN fun K hK=>?_;simp;refine hK _ ?_;clear hK K;refine Q0 (Q8 rfl (fun h=>?_) fun h=>?_)
 ·simp at h;refine Q9 (Q0 (Q7 (srQ hN fun K hK=>?_)));simp [h];refine hK _ ?_;clear hK K;refine runQ hN fun K hK=>?_;simp;refine Q1 (c47 true xs[i] (hx' _ (List.getElem_mem h))) (.cons .lst .nil) ?_;simp [unk,unA,unE,flat];refine ⟨by omega,hK _ ?_⟩;clear hK K;refine runQ hN fun K hK=>?_;simp;refine hK _ ?_;clear hK K;rw [Qp (n:=xs.length) (by omega) (by omega)];rw [Nat.min_eq_left hi,List.take_of_length_le (l:=Ls (List.take i xs)) (by simp;omega),Ls_take h];refine ⟨i+1,by omega,by dsimp only;omega,Wk.relabel [(3,0)] (by simp) (by simp) (by rw [hP];simp) (by simp) (by simp) (by simp) (by simp)⟩
 simp at h;refine Qr ?_;simp;refine srQ hN fun K hK=>?_;simp;refine hK _ ?_;clear hK K;have hi':i=xs.length:=by omega
 subst hi';refine Qj (Q3B rfl rfl (by simp) (by simp))
@[simp] theorem pl29:Q3l Try.prog 32=some [(0,1),(1,1),(2,1),(3,1),(4,1)]:=by kernel_rfl
@[simp] theorem pl86:Q3l Try.prog 109=some [(0,1),(1,1)]:=by kernel_rfl
@[simp] theorem y86:tyi Try.prog 109=some ⟨true,2,16,[.int .i64 0,.int .i64 0]⟩:=by kernel_rfl
@[simp] theorem q86:eqT Try.prog 109=4:=by kernel_rfl
theorem c61 (u:Bool) (c:Cat) (tl:List AV):Contract Try.prog 76 [.rptr (c.cells u++tl)] (iV c.fr.length):=by
 refine Qe (rs:=[iV c.fr.length]) Try.func76 rfl rfl rfl rfl (by simp [Try.f76]) fun F hN hP=>?_;refine srQ hN fun K hK=>?_;simp [Cat.cells];refine hK _ ?_;clear hK K;refine srQ hN fun K hK=>?_;simp [Cat.cells];refine hK _ ?_;clear hK K;refine Qj (Qh rfl rfl)
theorem c67 (u:Bool) (xs:List Int) (m n:Int):Contract Try.prog 114 [.lst u 1 (Is xs),iV m,iV n] (.val (.bool (decide ((xs.length:Int)=m) && xs.all (inR n)))):=by
 refine Qe (rs:=[.val (.bool (decide ((xs.length:Int)=m) && xs.all (inR n)))]) Try.func114 rfl rfl rfl rfl (by simp [Try.f114]) fun F hN hP=>?_;refine srQ hN fun K hK=>?_;simp;refine hK _ ?_;clear hK K;refine srQ hN fun K hK=>?_;simp;refine ⟨fun h=>?_,fun h=>hK _ (Qj (Qh rfl ?_))⟩
 ·refine Q1 (c57 u xs n) (.cons .val (.cons .lst .nil)) ?_;simp [unk,unA,unE,flat];refine hK _ (Qj (Qh rfl ?_));simp [h]
 simp [h]
theorem c23 (u:Bool) (c:Cat) (tl:List AV) (hc:c.ok):Contract Try.prog 44 [.rptr (c.cells u++tl)] (.agg (c.cells true)):=by
 obtain ⟨hc1,hc2,hc3,hc4,hc5,hc6⟩:=hc;refine Q1U Try.func44 rfl rfl y29 rfl rfl (by simp [Try.f44]) fun F hN hP=>?_;refine srQ hN fun K hK=>?_;simp [Cat.cells];refine hK _ ?_;clear hK K;refine srQ hN fun K hK=>?_;simp;refine Q1 (c47 u c.fr hc1) (.cons .lst .nil) ?_;simp [unk,unA,unE,unC,flat];refine Q1 (c47 u c.to hc2) (.cons .lst .nil) ?_;simp [unk,unA,unE,unC,flat];refine Q1 (c47 u c.id hc3) (.cons .lst .nil) ?_;simp [unk,unA,unE,unC,flat];refine Q1 (c48 u c.cs hc4 hc5) (.cons .lst .nil) ?_;simp [unk,unA,unE,unC,flat];refine hK _ (Qj ⟨_,_,_,_,_,rfl,rfl,by simp,by simp,?_⟩);clear hK K;exact ⟨.agg rfl .nil,[iV c.n,lI c.fr,lI c.to,lI c.id,.lst true 1 (Ls c.cs)],[1,2,3,4],by simp,by simp,UpL.refl _⟩
end
section
attribute [local simp] Qc Qw Qm QN Qu
def ix (xs:List Int) (j:Int):Int:=xs.getD j.toNat 0
def rx (xss:List (List Int)) (j:Int):List Int:=xss.getD j.toNat []
theorem Q16 (xs:List Int) (i:Nat) (h:i<xs.length):xs[i]=ix xs i:=by simp [ix,List.getD_eq_getElem?_getD,h]
theorem Q1N (xs:List (List Int)) (i:Nat) (h:i<xs.length):xs[i]=rx xs i:=by simp [rx,List.getD_eq_getElem?_getD,h]
theorem Q1y (xs:List Int) (j:Int):ix xs (max j 0)=ix xs j:=by simp only [ix];congr 1;omega
theorem Q1L (xs:List (List Int)) (j:Int):rx xs (max j 0)=rx xs j:=by simp only [rx];congr 1;omega
theorem Q4C {xs:List Int} {n j:Int} (h:∀ x∈xs,inR n x=true) (h0:0≤j) (h1:j<xs.length):0≤ix xs j∧ix xs j<n:=by
 have hj:j.toNat<xs.length:=by omega
 have:=h _ (List.getElem_mem hj);simp only [inR,Bool.and_eq_true,decide_eq_true_eq] at this;simp only [ix,List.getD_eq_getElem?_getD,List.getElem?_eq_getElem hj,Option.getD_some];omega
def Cat.cell (c:Cat) (f g:Nat):Prop:=(ix c.to f ≠ ix c.fr g→ix (rx c.cs f) g = -1) ∧
 (ix c.to f=ix c.fr g→0≤ix (rx c.cs f) g∧ix (rx c.cs f) g<c.fr.length∧ix c.fr (ix (rx c.cs f) g)=ix c.fr f∧ix c.to (ix (rx c.cs f) g)=ix c.to g)
structure Cat.Sh (c:Cat):Prop where
 n0:0≤c.n
 n8:c.n≤8
 m40:c.fr.length≤40
 lt:c.to.length=c.fr.length
 fr:(∀ x∈c.fr,inR c.n x=true)
 to:(∀ x∈c.to,inR c.n x=true)
 lc:c.cs.length=c.fr.length
 li:(c.id.length:Int)=c.n
 id:(∀ x∈c.id,inR c.fr.length x=true)
 ids:∀ x:Nat,x<c.id.length→ix c.fr (ix c.id x)=x∧ix c.to (ix c.id x)=x
 rows:∀ f:Nat,f<c.fr.length→(rx c.cs f).length=c.fr.length∧∀ g:Nat,g<c.fr.length→c.cell f g
open Classical in
noncomputable def bo (p:Prop):Bool:=decide p
theorem bo_t {p:Prop} (h:p):Value.bool true=Value.bool (bo p):=by simp [bo,h]
theorem bo_f {p:Prop} (h:¬ p):Value.bool false=Value.bool (bo p):=by simp [bo,h]
theorem c69 (u:Bool) (c:Cat) (tl:List AV) (f g:Int) (h1:0≤f) (h2:f<c.cs.length) (h3:0≤g) (h4:g<(rx c.cs f).length):Contract Try.prog 49 [.rptr (c.cells u++tl),iV f,iV g] (iV (ix (rx c.cs f) g)):=by
 refine Qe (rs:=[iV (ix (rx c.cs f) g)]) Try.func49 rfl rfl rfl rfl (by simp [Try.f49]) fun F hN hP=>?_;refine srQ hN fun K hK=>?_;simp;refine hK _ ?_;clear hK K;refine srQ hN fun K hK=>?_;simp [Cat.cells,Q16,Q1N,Q1y,Q1L,h1,h2,h3,h4];refine hK _ ?_;clear hK K;refine Qj (Qh rfl rfl)
theorem c68 (u:Bool) (c:Cat) (tl:List AV) (f:Int) (h1:0≤f) (h2:f<c.fr.length) (h3:f<c.to.length):Contract Try.prog 77 [.rptr (c.cells u++tl),iV f] (.agg [iV (ix c.fr f),iV (ix c.to f)]):=by
 refine Q1U Try.func77 rfl rfl y86 rfl rfl (by simp [Try.f77]) fun F hN hP=>?_;refine srQ hN fun K hK=>?_;simp;refine hK _ ?_;clear hK K;refine srQ hN fun K hK=>?_;simp [Cat.cells,Q16,Q1y,h1,h2,h3];refine hK _ (Qj ⟨_,_,_,_,_,rfl,rfl,by simp,by simp,?_⟩);clear hK K;exact ⟨.agg rfl .nil,[iV (ix c.fr f),iV (ix c.to f)],[],by simp,by simp,UpL.refl _⟩
theorem yes {C:Prop} (h:C):(true=true↔C):=⟨fun _=>h,fun _=>rfl⟩
def Cat.P1 (c:Cat):Prop:=0≤c.n∧c.n≤8∧c.fr.length≤40∧c.to.length=c.fr.length∧(∀ x∈c.fr,inR c.n x=true)∧(∀ x∈c.to,inR c.n x=true)∧c.cs.length=c.fr.length
def Cat.P2 (c:Cat):Prop:=(c.id.length:Int)=c.n∧(∀ x∈c.id,inR c.fr.length x=true)
def Cat.row (c:Cat) (f:Nat):Prop:=(rx c.cs f).length=c.fr.length∧∀ g:Nat,g<c.fr.length→c.cell f g
theorem QQ {P:Nat→Prop} {x:Nat} (h:∀ y,y<x→P y) (hx:P x):∀ y,y<x+1→P y:=by
 intro y hy;rcases Nat.lt_or_ge y x with h1|h1
 ·exact h y h1
 have:y=x:=by omega
 subst this;exact hx
theorem Cat.Sh.P1 {c:Cat} (h:c.Sh):c.P1:=⟨h.n0,h.n8,h.m40,h.lt,h.fr,h.to,h.lc⟩
theorem Cat.Sh.P2 {c:Cat} (h:c.Sh):c.P2:=⟨h.li,h.id⟩
@[simp] abbrev Y1 (a:Cat) (b:Bool) (c:List (Nat × Ent)):List (Nat × Ent):=(0,.mix 5 [[iV a.n,.lst b 1 (Is a.fr),.lst b 1 (Is a.to),.lst b 1 (Is a.id),.lst b 1 (Ls a.cs)]])::c
@[simp] abbrev Yf (a:List (Nat × AV)):List (Nat × AV):=(1,.adr 0 0 0)::a
@[simp] abbrev Yp (a:Cat) (b:List (Nat × AV)):List (Nat × AV):=(3,iV a.fr.length)::b
theorem c63 (u:Bool) (c:Cat):Contract Try.prog 91 [.agg (c.cells u)] (.val (.bool (bo c.Sh))):=by
 refine Qe (rs:=[.val (.bool (bo c.Sh))]) Try.func91 rfl rfl rfl rfl (by simp [Try.f91]) fun F hN hP=>?_;refine srQ hN fun K hK=>?_;simp [Cat.cells];refine hK _ ?_;clear hK K;refine srQ hN fun K hK=>?_;simp;refine hK _ ?_;clear hK K;refine Q0 (srQ hN fun K hK=>?_);refine join hK (fun b=>⟨Yf (Yp c [(43,.val (.bool b))]),Y1 c u [],1⟩) (¬ c.P1) (fun hJ=>?_) fun b hb=>?_
 ·simp;refine Q1 (c56 c.n 0 8) (.cons .val (.cons .val (.cons .val .nil))) ?_;simp [unk,unA,unE,flat];refine ⟨fun a1 a2=>⟨fun a3=>?_,fun a3=>?_⟩,fun a1=>?_⟩
  ·refine Q1 (c67 u c.fr c.fr.length c.n) (.cons .lst (.cons .val (.cons .val .nil))) ?_;simp [unk,unA,unE,flat];refine ⟨fun a4=>?_,fun a4=>?_⟩
   ·refine Q1 (c67 u c.to c.fr.length c.n) (.cons .lst (.cons .val (.cons .val .nil))) ?_;simp [unk,unA,unE,flat];refine ⟨fun a5 a6=>?_,fun a5=>?_⟩
    ·exact hJ ((c.cs.length:Int) != c.fr.length) (by simp [Cat.P1];grind) _ (Wk.relabel [(0,0)] (by simp) (by simp) (by rw [hP];simp) (by simp) (by simp) (by simp) (by simp))
    intros;exact hJ (true) (yes fun hp=>by simp [Cat.P1] at hp;grind) _ (Wk.relabel [(0,0)] (by simp) (by simp) (by rw [hP];simp) (by simp) (by simp) (by simp) (by simp))
   intros;exact hJ (true) (yes fun hp=>by simp [Cat.P1] at hp;grind) _ (Wk.relabel [(0,0)] (by simp) (by simp) (by rw [hP];simp) (by simp) (by simp) (by simp) (by simp))
  ·exact hJ (true) (yes fun hp=>by have:=hp.2.2.1;omega) _ (Wk.relabel [(0,0)] (by simp) (by simp) (by rw [hP];simp) (by simp) (by simp) (by simp) (by simp))
  exact hJ (true) (yes fun hp=>by have:=hp.1;have:=hp.2.1;omega) _ (Wk.relabel [(0,0)] (by simp) (by simp) (by rw [hP];simp) (by simp) (by simp) (by simp) (by simp))
 clear hK K;refine Q8 rfl (fun h=>?_) fun h=>?_
 ·refine srQ hN fun K hK=>?_;simp;refine hK _ (Qj (Qh rfl (bo_f fun hs=>?_)));clear hK K;exact hb.1 h hs.P1
 have p1:c.P1:=Classical.byContradiction fun hn=>by rw [hb.2 hn] at h;cases h
 refine Q9 (Q0 (srQ hN fun K hK=>?_));refine join hK (fun b=>⟨Yf (Yp c [(56,.val (.bool b))]),Y1 c u [],1⟩) (¬ c.P2) (fun hJ=>?_) fun b hb=>?_
 ·simp;refine ⟨fun a1=>?_,fun a1=>?_⟩
  ·refine Q1 (c57 u c.id c.fr.length) (.cons .val (.cons .lst .nil)) ?_;simp [unk,unA,unE,flat];exact hJ (!c.id.all (inR c.fr.length)) (by simp [Cat.P2,a1]) _ (Wk.relabel [(0,0)] (by simp) (by simp) (by rw [hP];simp) (by simp) (by simp) (by simp) (by simp))
  exact hJ (true) (yes fun hp=>a1 hp.1) _ (Wk.relabel [(0,0)] (by simp) (by simp) (by rw [hP];simp) (by simp) (by simp) (by simp) (by simp))
 clear hK K;refine Q8 rfl (fun h=>?_) fun h=>?_
 ·refine srQ hN fun K hK=>?_;simp;refine hK _ (Qj (Qh rfl (bo_f fun hs=>?_)));clear hK K;exact hb.1 h hs.P2
 have p2:c.P2:=Classical.byContradiction fun hn=>by rw [hb.2 hn] at h;cases h
 have hl1:c.to.length=c.fr.length:=p1.2.2.2.1;have hl2:c.cs.length=c.fr.length:=p1.2.2.2.2.2.2;have hl3:(c.id.length:Int)=c.n:=p2.1;have hn8:c.n≤8:=p1.2.1;have hm40:c.fr.length≤40:=p1.2.2.1;refine Q9 (Q0 (srQ hN fun K hK=>?_));simp;refine hK _ (Q7 (QT (fun x:Nat=>⟨Yf (Yp c [(4,iV x)]),Y1 c u [],1⟩) (fun x=>x≤c.id.length∧∀ y:Nat,y<x→ix c.fr (ix c.id y)=y∧ix c.to (ix c.id y)=y) (fun x=>c.id.length - x) 0 (by simp) (Wk.relabel [(0,0)] (by simp) (by simp) (by rw [hP];simp) (by simp) (by simp) (by simp) (by simp)) ?_));clear hK K
 rintro x ⟨hx,hi0⟩
 refine Q0 (srQ hN fun K hK=>?_);simp;refine hK _ ?_;clear hK K;refine Q8 rfl (fun h=>?_) fun h=>?_
 ·simp at h;have hx1:x<c.id.length:=by omega
  have b1:=Q4C p2.2 (j:=x) (by omega) (by omega);have b2:ix c.id x<c.to.length:=by omega
  refine Q9 (Q0 (Q7 (srQ hN fun K hK=>?_)));refine join hK (fun b=>⟨Yf (Yp c [(4,iV x),(86,.val (.bool b))]),Y1 c u [],1⟩) (¬ (ix c.fr (ix c.id x)=x∧ix c.to (ix c.id x)=x)) (fun hJ=>?_) fun b hb=>?_
  ·simp [Q16,Q1N,Q1y,Q1L,hx1,b1.1,b1.2,b2];refine ⟨fun a1=>?_,fun a1=>?_⟩
   ·exact hJ (ix c.to (ix c.id x) != x) (by simp [a1]) _ (Wk.relabel [(0,0)] (by simp) (by simp) (by rw [hP];simp) (by simp) (by simp) (by simp) (by simp))
   exact hJ (true) (yes fun hp=>a1 hp.1) _ (Wk.relabel [(0,0)] (by simp) (by simp) (by rw [hP];simp) (by simp) (by simp) (by simp) (by simp))
  clear hK K;refine Q8 rfl (fun h=>?_) fun h=>?_
  ·refine srQ hN fun K hK=>?_;simp;refine hK _ (Qj (Qh rfl (bo_f fun hs=>?_)));clear hK K;exact hb.1 h (hs.ids x hx1)
  have hc:ix c.fr (ix c.id x)=x∧ix c.to (ix c.id x)=x:=Classical.byContradiction fun hn=>by rw [hb.2 hn] at h;cases h
  refine Q9 (runQ hN fun K hK=>?_);simp;refine hK _ ?_;clear hK K;rw [Qp (n:=c.id.length) (by omega) (by omega)];refine ⟨x+1,⟨by omega,QQ hi0 hc⟩,by dsimp only;omega,(Wk.relabel [(0,0)] (by simp) (by simp) (by rw [hP];simp) (by simp) (by simp) (by simp) (by simp))⟩
 simp at h;have hx2:c.id.length≤x:=by omega
 clear h;refine Qr ?_;simp;refine Q0 (srQ hN fun K hK=>?_);simp;refine hK _ (Q7 ?_);clear hK K;have hi1:∀ y:Nat,y<c.id.length→ix c.fr (ix c.id y)=y∧ix c.to (ix c.id y)=y:=fun y hy=>hi0 y (by omega);refine QT (fun f:Nat=>⟨Yf (Yp c [(5,iV f)]),Y1 c u [],1⟩) (fun f=>f≤c.fr.length∧∀ y:Nat,y<f→c.row y) (fun f=>c.fr.length - f) 0 (by simp) (Wk.relabel [(0,0)] (by simp) (by simp) (by rw [hP];simp) (by simp) (by simp) (by simp) (by simp)) ?_
 rintro f ⟨hf,hi2⟩
 refine Q0 (srQ hN fun K hK=>?_);simp;refine hK _ ?_;clear hK K;refine Q8 rfl (fun h=>?_) fun h=>?_
 ·simp at h;have hf1:f<c.fr.length:=h;clear h;refine Q9 (Q0 (Q7 (Q0 (srQ hN fun K hK=>?_))));simp [Q16,Q1N,Q1y,Q1L,hl2,hf1];refine hK _ ?_;clear hK K;refine Q8 rfl (fun h=>?_) fun h=>?_
  ·simp at h;refine srQ hN fun K hK=>?_;simp;refine hK _ (Qj (Qh rfl (bo_f fun hs=>?_)));clear hK K;exact absurd (hs.rows f hf1).1 (by omega)
  simp at h;have hr:(rx c.cs f).length=c.fr.length:=by omega
  clear h;refine Q9 (srQ hN fun K hK=>?_);simp;refine hK _ (Q7 (QT (fun g:Nat=>⟨Yf (Yp c [(5,iV f),(6,iV g)]),Y1 c u [],1⟩) (fun g=>g≤c.fr.length∧∀ y:Nat,y<g→c.cell f y) (fun g=>c.fr.length - g) 0 (by simp) (Wk.relabel [(0,0)] (by simp) (by simp) (by rw [hP];simp) (by simp) (by simp) (by simp) (by simp)) ?_));clear hK K
  rintro g ⟨hg,hi3⟩
  refine Q0 (srQ hN fun K hK=>?_);simp;refine hK _ ?_;clear hK K;refine Q8 rfl (fun h=>?_) fun h=>?_
  ·simp at h;have hg1:g<c.fr.length:=h;clear h;refine Q9 (Q0 (Q7 (srQ hN fun K hK=>?_)));simp [Q16,Q1N,Q1y,Q1L,hl2,hf1,hr,hg1];refine hK _ ?_;clear hK K;refine Q0 (srQ hN fun K hK=>?_);simp [Q16,Q1N,Q1y,Q1L,hl1,hf1,hg1];refine hK _ ?_;clear hK K;refine Q8 rfl (fun h1=>?_) fun h1=>?_
   ·simp at h1;refine Q0 (srQ hN fun K hK=>?_);simp;refine hK _ ?_;clear hK K;refine Q8 rfl (fun h2=>?_) fun h2=>?_
    ·simp at h2;refine srQ hN fun K hK=>?_;simp;refine hK _ (Qj (Qh rfl (bo_f fun hs=>?_)));clear hK K;exact h2 (((hs.rows f hf1).2 g hg1).1 h1)
    simp at h2;have hc:c.cell f g:=⟨fun _=>h2,fun e=>absurd e h1⟩;refine Q9 (Qr ?_);simp;refine runQ hN fun K hK=>?_;simp;refine hK _ ?_;clear hK K;rw [Qp (n:=c.fr.length) (by omega) (by omega)];refine ⟨g+1,⟨by omega,QQ hi3 hc⟩,by dsimp only;omega,(Wk.relabel [(0,0)] (by simp) (by simp) (by rw [hP];simp) (by simp) (by simp) (by simp) (by simp))⟩
   simp at h1;refine Q9 (srQ hN fun K hK=>?_);refine join hK (fun b=>⟨Yf (Yp c [(5,iV f),(6,iV g),(158,.val (.bool b))]),Y1 c u [],1⟩) (¬ c.cell f g) (fun hJ=>?_) fun b hb=>?_
   ·simp +contextual [Q16,Q1N,Q1y,Q1L,hl1,hf1,hg1];have hcell:c.cell f g↔0≤ix (rx c.cs f) g∧ix (rx c.cs f) g<c.fr.length∧ix c.fr (ix (rx c.cs f) g)=ix c.fr f∧ix c.to (ix (rx c.cs f) g)=ix c.to g:=⟨fun q=>q.2 h1,fun q=>⟨fun e=>absurd h1 e,fun _=>q⟩⟩;rw [hcell] at hJ;refine ⟨fun a1=>⟨fun a2=>⟨fun a3=>?_,fun a3=>?_⟩,fun a2=>?_⟩,fun a1=>?_⟩
    ·exact hJ (ix c.to (ix (rx c.cs f) g) != ix c.to g) (by simp [a1,a2,a3]) _ (Wk.relabel [(0,0)] (by simp) (by simp) (by rw [hP];simp) (by simp) (by simp) (by simp) (by simp))
    ·exact hJ (true) (yes fun hp=>a3 hp.2.2.1) _ (Wk.relabel [(0,0)] (by simp) (by simp) (by rw [hP];simp) (by simp) (by simp) (by simp) (by simp))
    ·exact hJ (true) (yes fun hp=>by omega) _ (Wk.relabel [(0,0)] (by simp) (by simp) (by rw [hP];simp) (by simp) (by simp) (by simp) (by simp))
    exact hJ (true) (yes fun hp=>by omega) _ (Wk.relabel [(0,0)] (by simp) (by simp) (by rw [hP];simp) (by simp) (by simp) (by simp) (by simp))
   clear hK K;refine Q8 rfl (fun h=>?_) fun h=>?_
   ·refine srQ hN fun K hK=>?_;simp;refine hK _ (Qj (Qh rfl (bo_f fun hs=>?_)));clear hK K;exact hb.1 h ((hs.rows f hf1).2 g hg1)
   have hc:c.cell f g:=Classical.byContradiction fun hn=>by rw [hb.2 hn] at h;cases h
   refine Q9 (runQ hN fun K hK=>?_);simp;refine hK _ ?_;clear hK K;rw [Qp (n:=c.fr.length) (by omega) (by omega)];refine ⟨g+1,⟨by omega,QQ hi3 hc⟩,by dsimp only;omega,(Wk.relabel [(0,0)] (by simp) (by simp) (by rw [hP];simp) (by simp) (by simp) (by simp) (by simp))⟩
  simp at h;have hg2:c.fr.length≤g:=by omega
  clear h;refine Qr ?_;simp;refine runQ hN fun K hK=>?_;simp;refine hK _ ?_;clear hK K;rw [Qp (n:=c.fr.length) (by omega) (by omega)];refine ⟨f+1,⟨by omega,QQ hi2 ⟨hr,fun y hy=>hi3 y (by omega)⟩⟩,by dsimp only;omega,(Wk.relabel [(0,0)] (by simp) (by simp) (by rw [hP];simp) (by simp) (by simp) (by simp) (by simp))⟩
 simp at h;have hf2:c.fr.length≤f:=by omega
 clear h;refine Qr ?_;simp;refine srQ hN fun K hK=>?_;simp;refine hK _ (Qj (Qh rfl (bo_t ?_)));clear hK K;exact ⟨p1.1,p1.2.1,p1.2.2.1,hl1,p1.2.2.2.2.1,p1.2.2.2.2.2.1,hl2,hl3,p2.2,hi1,fun y hy=>hi2 y (by omega)⟩
def Cat.Q1 (c:Cat):Prop:=0≤c.n∧c.n≤8∧c.fr.length≤40∧c.to.length=c.fr.length∧(∀ x∈c.fr,inR c.n x=true)∧(∀ x∈c.to,inR c.n x=true)
def Cat.Q2 (c:Cat):Prop:=(c.id.length:Int)=c.n∧(∀ x∈c.id,inR c.fr.length x=true)∧c.cs.length=c.fr.length
theorem Cat.Sh.Q1 {c:Cat} (h:c.Sh):c.Q1:=⟨h.n0,h.n8,h.m40,h.lt,h.fr,h.to⟩
theorem Cat.Sh.Q2 {c:Cat} (h:c.Sh):c.Q2:=⟨h.li,h.id,h.lc⟩
@[simp] abbrev Y2 (a:Cat) (b:Bool) (c:List AV) (d:List (Nat × AV)):List (Nat × AV):=(0,.rptr (iV a.n :: .lst b 1 (Is a.fr) :: .lst b 1 (Is a.to) :: .lst b 1 (Is a.id) :: .lst b 1 (Ls a.cs) :: c))::d
theorem c65 (u:Bool) (c:Cat) (tl:List AV):Contract Try.prog 96 [.rptr (c.cells u++tl)] (.val (.bool (bo c.Sh))):=by
 refine Qe (rs:=[.val (.bool (bo c.Sh))]) Try.func96 rfl rfl rfl rfl (by simp [Try.f96]) fun F hN hP=>?_;simp only [Cat.cells,List.cons_append,List.nil_append];refine srQ hN fun K hK=>?_;simp [Cat.cells];refine hK _ ?_;clear hK K;refine srQ hN fun K hK=>?_;simp;refine Q1 (c61 u c tl) (.cons .rptr .nil) ?_;simp [unk,unA,unE,flat];refine hK _ ?_;clear hK K;refine Q0 (srQ hN fun K hK=>?_);refine join hK (fun b=>⟨Y2 c u tl (Yp c [(54,.val (.bool b))]),[],0⟩) (¬ c.Q1) (fun hJ=>?_) fun b hb=>?_
 ·simp [Cat.cells];refine Q1 (c46 c.n 0 8) (.cons .val (.cons .val (.cons .val .nil))) ?_;simp [unk,unA,unE,flat];refine ⟨fun a1 a2=>⟨fun a3=>⟨fun a7=>?_,fun a7=>?_⟩,fun a3=>?_⟩,fun a1=>?_⟩
  ·refine Q1 (c22 u c.fr c.n ⟨by omega,by omega⟩) (.cons .lst (.cons .val .nil)) ?_;simp [unk,unA,unE,flat];refine ⟨fun a4=>?_,fun a4=>?_⟩
   ·refine Q1 (c22 u c.to c.n ⟨by omega,by omega⟩) (.cons .lst (.cons .val .nil)) ?_;simp [unk,unA,unE,flat];exact hJ (!c.to.all (inR c.n)) (by simp [Cat.Q1];grind) _ (Wk.relabel [] (by simp) (by simp) (by rw [hP];simp) (by simp) (by simp) (by simp) (by simp))
   intros;exact hJ (true) (yes fun hp=>by simp [Cat.Q1] at hp;grind) _ (Wk.relabel [] (by simp) (by simp) (by rw [hP];simp) (by simp) (by simp) (by simp) (by simp))
  ·exact hJ (true) (yes fun hp=>by have:=hp.2.2.2.1;omega) _ (Wk.relabel [] (by simp) (by simp) (by rw [hP];simp) (by simp) (by simp) (by simp) (by simp))
  ·exact hJ (true) (yes fun hp=>by have:=hp.2.2.1;omega) _ (Wk.relabel [] (by simp) (by simp) (by rw [hP];simp) (by simp) (by simp) (by simp) (by simp))
  exact hJ (true) (yes fun hp=>by have:=hp.1;have:=hp.2.1;omega) _ (Wk.relabel [] (by simp) (by simp) (by rw [hP];simp) (by simp) (by simp) (by simp) (by simp))
 clear hK K;refine Q8 rfl (fun h=>?_) fun h=>?_
 ·refine srQ hN fun K hK=>?_;simp;refine hK _ (Qj (Qh rfl (bo_f fun hs=>?_)));clear hK K;exact hb.1 h hs.Q1
 have p1:c.Q1:=Classical.byContradiction fun hn=>by rw [hb.2 hn] at h;cases h
 have hm40:c.fr.length≤40:=p1.2.2.1;refine Q9 (Q0 (srQ hN fun K hK=>?_));refine join hK (fun b=>⟨Y2 c u tl (Yp c [(82,.val (.bool b))]),[],0⟩) (¬ c.Q2) (fun hJ=>?_) fun b hb=>?_
 ·simp [Cat.cells];refine ⟨fun a1=>?_,fun a1=>?_⟩
  ·refine Q1 (c22 u c.id c.fr.length ⟨by omega,by omega⟩) (.cons .lst (.cons .val .nil)) ?_;simp [unk,unA,unE,flat];refine ⟨fun a2=>?_,fun a2=>?_⟩
   ·exact hJ ((c.cs.length:Int) != c.fr.length) (by simp [Cat.Q2];grind) _ (Wk.relabel [] (by simp) (by simp) (by rw [hP];simp) (by simp) (by simp) (by simp) (by simp))
   intros;exact hJ (true) (yes fun hp=>by simp [Cat.Q2] at hp;grind) _ (Wk.relabel [] (by simp) (by simp) (by rw [hP];simp) (by simp) (by simp) (by simp) (by simp))
  exact hJ (true) (yes fun hp=>a1 hp.1) _ (Wk.relabel [] (by simp) (by simp) (by rw [hP];simp) (by simp) (by simp) (by simp) (by simp))
 clear hK K;refine Q8 rfl (fun h=>?_) fun h=>?_
 ·refine srQ hN fun K hK=>?_;simp;refine hK _ (Qj (Qh rfl (bo_f fun hs=>?_)));clear hK K;exact hb.1 h hs.Q2
 have p2:c.Q2:=Classical.byContradiction fun hn=>by rw [hb.2 hn] at h;cases h
 have hl1:c.to.length=c.fr.length:=p1.2.2.2.1;have hl2:c.cs.length=c.fr.length:=p2.2.2;have hl3:(c.id.length:Int)=c.n:=p2.1;have hn8:c.n≤8:=p1.2.1;refine Q9 (Q0 (srQ hN fun K hK=>?_));simp;refine hK _ (Q7 (QT (fun x:Nat=>⟨Y2 c u tl (Yp c [(86,.lst u 1 (Is c.id)),(87,iV c.id.length),(88,iV x)]),[],0⟩) (fun x=>x≤c.id.length∧∀ y:Nat,y<x→ix c.fr (ix c.id y)=y∧ix c.to (ix c.id y)=y) (fun x=>c.id.length - x) 0 (by simp) (Wk.relabel [] (by simp) (by simp) (by rw [hP];simp) (by simp) (by simp) (by simp) (by simp)) ?_));clear hK K
 rintro x ⟨hx,hi0⟩
 refine srQ hN fun K hK=>?_;simp;refine hK _ ?_;clear hK K;refine Q0 (Q8 rfl (fun h=>?_) fun h=>?_)
 ·simp at h;have hx1:x<c.id.length:=h;clear h;have b1:=Q4C p2.2.1 (j:=x) (by omega) (by omega);refine Q9 (Q0 (Q7 (srQ hN fun K hK=>?_)));simp [Q16,Q1N,Q1y,Q1L,hx1];refine hK _ ?_;clear hK K;refine srQ hN fun K hK=>?_;simp;refine Q1 (c68 u c tl (ix c.id x) b1.1 b1.2 (by omega)) (.cons .rptr (.cons .val .nil)) ?_;simp [unk,unA,unE,unC,flat,Qk];refine hK _ ?_;clear hK K;refine Q8 rfl (fun h=>?_) fun h=>?_
  ·simp at h;refine srQ hN fun K hK=>?_;simp;refine hK _ (Qj (Qh rfl (bo_f fun hs=>?_)));clear hK K;have:=hs.ids x hx1;simp [this.1,this.2] at h
  simp at h;have hc:ix c.fr (ix c.id x)=x∧ix c.to (ix c.id x)=x:=h;refine Q9 (runQ hN fun K hK=>?_);simp;refine hK _ ?_;clear hK K;rw [Qp (n:=c.id.length) (by omega) (by omega)];refine ⟨x+1,⟨by omega,QQ hi0 hc⟩,by dsimp only;omega,(Wk.relabel [] (by simp) (by simp) (by rw [hP];simp) (by simp) (by simp) (by simp) (by simp))⟩
 simp at h;have hx2:c.id.length≤x:=by omega
 clear h;refine Qr ?_;simp;refine Q0 (srQ hN fun K hK=>?_);simp [hl2];refine hK _ (Q7 ?_);clear hK K;have hi1:∀ y:Nat,y<c.id.length→ix c.fr (ix c.id y)=y∧ix c.to (ix c.id y)=y:=fun y hy=>hi0 y (by omega);refine QT (fun f:Nat=>⟨Y2 c u tl (Yp c [(104,.lst u 1 (Ls c.cs)),(105,iV c.fr.length),(106,iV f)]),[],0⟩) (fun f=>f≤c.fr.length∧∀ y:Nat,y<f→c.row y) (fun f=>c.fr.length - f) 0 (by simp) (Wk.relabel [] (by simp) (by simp) (by rw [hP];simp) (by simp) (by simp) (by simp) (by simp)) ?_
 rintro f ⟨hf,hi2⟩
 refine srQ hN fun K hK=>?_;simp;refine hK _ ?_;clear hK K;refine Q0 (Q8 rfl (fun h=>?_) fun h=>?_)
 ·simp at h;have hf1:f<c.fr.length:=h;clear h;refine Q9 (Q0 (Q7 (srQ hN fun K hK=>?_)));simp [Q16,Q1N,Q1y,Q1L,hl2,hf1];refine hK _ ?_;clear hK K;refine Q0 (srQ hN fun K hK=>?_);simp;refine hK _ ?_;clear hK K;refine Q8 rfl (fun h=>?_) fun h=>?_
  ·simp at h;refine srQ hN fun K hK=>?_;simp;refine hK _ (Qj (Qh rfl (bo_f fun hs=>?_)));clear hK K;exact absurd (hs.rows f hf1).1 (by omega)
  simp at h;have hr:(rx c.cs f).length=c.fr.length:=by omega
  clear h;refine Q9 (srQ hN fun K hK=>?_);simp [hr];refine hK _ (Q7 (QT (fun g:Nat=>⟨Y2 c u tl (Yp c [(6,iV f),(104,.lst u 1 (Ls c.cs)),(105,iV c.fr.length),(106,iV f),(115,lI (rx c.cs f)),(116,iV c.fr.length),(117,iV g)]),[],0⟩) (fun g=>g≤c.fr.length∧∀ y:Nat,y<g→c.cell f y) (fun g=>c.fr.length - g) 0 (by simp) (Wk.relabel [] (by simp) (by simp) (by rw [hP];simp) (by simp) (by simp) (by simp) (by simp)) ?_));clear hK K
  rintro g ⟨hg,hi3⟩
  refine srQ hN fun K hK=>?_;simp;refine hK _ ?_;clear hK K;refine Q0 (Q8 rfl (fun h=>?_) fun h=>?_)
  ·simp at h;have hg1:g<c.fr.length:=h;clear h;refine Q9 (Q0 (Q7 (srQ hN fun K hK=>?_)));simp [Q16,Q1N,Q1y,Q1L,hr,hg1];refine hK _ ?_;clear hK K;refine Q0 (srQ hN fun K hK=>?_);simp [Q16,Q1N,Q1y,Q1L,hl1,hf1,hg1];refine hK _ ?_;clear hK K;refine Q8 rfl (fun h1=>?_) fun h1=>?_
   ·simp at h1;refine Q0 (srQ hN fun K hK=>?_);simp;refine hK _ ?_;clear hK K;refine Q8 rfl (fun h2=>?_) fun h2=>?_
    ·simp at h2;refine srQ hN fun K hK=>?_;simp;refine hK _ (Qj (Qh rfl (bo_f fun hs=>?_)));clear hK K;exact h2 (((hs.rows f hf1).2 g hg1).1 h1)
    simp at h2;have hc:c.cell f g:=⟨fun _=>h2,fun e=>absurd e h1⟩;refine Q9 (Qr ?_);simp;refine runQ hN fun K hK=>?_;simp;refine hK _ ?_;clear hK K;rw [Qp (n:=c.fr.length) (by omega) (by omega)];refine ⟨g+1,⟨by omega,QQ hi3 hc⟩,by dsimp only;omega,(Wk.relabel [] (by simp) (by simp) (by rw [hP];simp) (by simp) (by simp) (by simp) (by simp))⟩
   simp at h1;refine Q9 (srQ hN fun K hK=>?_);refine join hK (fun b=>⟨Y2 c u tl (Yp c [(104,.lst u 1 (Ls c.cs)),(105,iV c.fr.length),(106,iV f),(115,lI (rx c.cs f)),(116,iV c.fr.length),(117,iV g),(6,iV f),(164,.val (.bool b))]),[],0⟩) (¬ c.cell f g) (fun hJ=>?_) fun b hb=>?_
   ·simp;have hcell:c.cell f g↔0≤ix (rx c.cs f) g∧ix (rx c.cs f) g<c.fr.length∧ix c.fr (ix (rx c.cs f) g)=ix c.fr f∧ix c.to (ix (rx c.cs f) g)=ix c.to g:=⟨fun q=>q.2 h1,fun q=>⟨fun e=>absurd h1 e,fun _=>q⟩⟩;rw [hcell] at hJ;refine Q1 (c46 (ix (rx c.cs f) g) 0 (c.fr.length - 1)) (by rw [QA ⟨by omega,by omega⟩];exact .cons .val (.cons .val (.cons .val .nil))) ?_;simp [unk,unA,unE,flat];refine ⟨fun a1 a2=>?_,fun a1=>?_⟩
    ·refine Q1 (c68 u c tl (ix (rx c.cs f) g) a1 (by omega) (by omega)) (.cons .rptr (.cons .val .nil)) ?_;simp [unk,unA,unE,unC,flat,Qk,Q16,Q1N,Q1y,Q1L,hl1,hf1,hg1];exact hJ (!(ix c.fr (ix (rx c.cs f) g) == ix c.fr f) || !(ix c.to (ix (rx c.cs f) g) == ix c.to g)) (by simp [a1];grind) _ (Wk.relabel [] (by simp) (by simp) (by rw [hP];simp) (by simp) (by simp) (by simp) (by simp))
    exact hJ (true) (yes fun hp=>by omega) _ (Wk.relabel [] (by simp) (by simp) (by rw [hP];simp) (by simp) (by simp) (by simp) (by simp))
   clear hK K;refine Q8 rfl (fun h=>?_) fun h=>?_
   ·refine srQ hN fun K hK=>?_;simp;refine hK _ (Qj (Qh rfl (bo_f fun hs=>?_)));clear hK K;exact hb.1 h ((hs.rows f hf1).2 g hg1)
   have hc:c.cell f g:=Classical.byContradiction fun hn=>by rw [hb.2 hn] at h;cases h
   refine Q9 (runQ hN fun K hK=>?_);simp;refine hK _ ?_;clear hK K;rw [Qp (n:=c.fr.length) (by omega) (by omega)];refine ⟨g+1,⟨by omega,QQ hi3 hc⟩,by dsimp only;omega,(Wk.relabel [] (by simp) (by simp) (by rw [hP];simp) (by simp) (by simp) (by simp) (by simp))⟩
  simp at h;have hg2:c.fr.length≤g:=by omega
  clear h;refine Qr ?_;simp;refine runQ hN fun K hK=>?_;simp;refine hK _ ?_;clear hK K;rw [Qp (n:=c.fr.length) (by omega) (by omega)];refine ⟨f+1,⟨by omega,QQ hi2 ⟨hr,fun y hy=>hi3 y (by omega)⟩⟩,by dsimp only;omega,(Wk.relabel [] (by simp) (by simp) (by rw [hP];simp) (by simp) (by simp) (by simp) (by simp))⟩
 simp at h;have hf2:c.fr.length≤f:=by omega
 clear h;refine Qr ?_;simp;refine srQ hN fun K hK=>?_;simp;refine hK _ (Qj (Qh rfl (bo_t ?_)));clear hK K;exact ⟨p1.1,p1.2.1,p1.2.2.1,hl1,p1.2.2.2.2.1,p1.2.2.2.2.2,hl2,hl3,p2.2.1,hi1,fun y hy=>hi2 y (by omega)⟩
end
section
attribute [local simp] Qc Qw Qm QN Qu
def first {α:Type} (p:Nat→Option α):Nat→Option α
 | 0=>none
 | n+1=>match first p n with
  | some a=>some a
  | none=>p n
theorem Q14 {α:Type} {p:Nat→Option α}:∀ {n:Nat},(∀ j,j<n→p j=none)→first p n=none:=by
 intro n
 induction n with
 | zero=>intro _;rfl
 | succ n ih=>intro h;simp only [first];rw [ih fun j hj=>h j (by omega)];exact h n (by omega)
theorem Q2M {α:Type} {p:Nat→Option α} {i:Nat} {a:α} (h1:∀ j,j<i→p j=none) (h2:p i=some a):∀ {n:Nat},i<n→first p n=some a:=by
 intro n
 induction n with
 | zero=>intro h;omega
 | succ n ih =>
  intro h;simp only [first];rcases Nat.lt_or_ge i n with hlt|hge
  ·rw [ih hlt]
  have:i=n:=by omega
  subst this;rw [Q14 h1];exact h2
theorem Q3f {α:Type} {p:Nat→Option α}:∀ {n:Nat},first p n=none→∀ j,j<n→p j=none:=by
 intro n
 induction n with
 | zero=>intro _ j hj;omega
 | succ n ih =>
  intro h j hj;simp only [first] at h;split at h
  ·cases h
  rename_i h0;rcases Nat.lt_or_ge j n with hlt|hge
  ·exact ih h0 j hlt
  have:j=n:=by omega
  subst this;exact h
def Cat.un (c:Cat) (f:Nat):Prop:=ix (rx c.cs (ix c.id (ix c.fr f))) f=f∧ix (rx c.cs f) (ix c.id (ix c.to f))=f
def Cat.as (c:Cat) (f g h:Nat):Prop:=ix c.to f=ix c.fr g→ix c.to g=ix c.fr h→ix (rx c.cs (ix (rx c.cs f) g)) h=ix (rx c.cs f) (ix (rx c.cs g) h)
open Classical in
noncomputable def Cat.f1 (c:Cat) (f:Nat):Option (Int × Int × Int × Int):=if c.un f then none else some (1,f,0,0)
open Classical in
noncomputable def Cat.f2 (c:Cat) (f g h:Nat):Option (Int × Int × Int × Int):=if c.as f g h then none else some (2,f,g,h)
noncomputable def Cat.fault (c:Cat):Option (Int × Int × Int × Int):=match first c.f1 c.fr.length with
 | some x=>some x
 | none=>first (fun f=>first (fun g=>first (fun h=>c.f2 f g h) c.fr.length) c.fr.length) c.fr.length
def Cat.Law (c:Cat):Prop:=(∀ f,f<c.fr.length→c.un f)∧∀ f,f<c.fr.length→∀ g,g<c.fr.length→∀ h,h<c.fr.length→c.as f g h
section
variable {c:Cat}
theorem Q5t {f:Nat} (hf:f<c.fr.length) (h1:∀ y,y<f→c.un y) (h2:¬ c.un f):c.fault=some (1,(f:Int),0,0):=by
 unfold Cat.fault;rw [Q2M (i:=f) (a:=(1,(f:Int),0,0)) (fun j hj=>by simp [Cat.f1,h1 j hj]) (by simp [Cat.f1,h2]) hf]
theorem Q5u {f g h:Nat} (hf:f<c.fr.length) (hg:g<c.fr.length) (hh:h<c.fr.length) (h0:∀ y,y<c.fr.length→c.un y) (h1:∀ y,y<f→∀ g,g<c.fr.length→∀ h,h<c.fr.length→c.as y g h)
  (h2:∀ y,y<g→∀ h,h<c.fr.length→c.as f y h) (h3:∀ y,y<h→c.as f g y) (h4:¬ c.as f g h):c.fault=some (2,(f:Int),(g:Int),(h:Int)):=by
 unfold Cat.fault;rw [Q14 fun j hj=>by simp [Cat.f1,h0 j hj]];simp only;refine Q2M (i:=f) (fun j hj=>Q14 fun g hg=>Q14 fun h hh=>by simp [Cat.f2,h1 j hj g hg h hh]) ?_ hf;refine Q2M (i:=g) (fun j hj=>Q14 fun h hh=>by simp [Cat.f2,h2 j hj h hh]) ?_ hg;refine Q2M (i:=h) (fun j hj=>by simp [Cat.f2,h3 j hj]) ?_ hh;simp [Cat.f2,h4]
theorem Q3z (h0:∀ y,y<c.fr.length→c.un y) (h1:∀ y,y<c.fr.length→∀ g,g<c.fr.length→∀ h,h<c.fr.length→c.as y g h):c.fault=none:=by
 unfold Cat.fault;rw [Q14 fun j hj=>by simp [Cat.f1,h0 j hj]];exact Q14 fun f hf=>Q14 fun g hg=>Q14 fun h hh=>by simp [Cat.f2,h1 f hf g hg h hh]
theorem Cat.Sh.fr' (hs:c.Sh) {j:Int} (h0:0≤j) (h1:j<c.fr.length):0≤ix c.fr j∧ix c.fr j<c.id.length:=by
 have:=Q4C hs.fr h0 h1;have:=hs.li;omega
theorem Cat.Sh.to' (hs:c.Sh) {j:Int} (h0:0≤j) (h1:j<c.fr.length):0≤ix c.to j∧ix c.to j<c.id.length:=by
 have:=Q4C hs.to h0 (by rw [hs.lt];exact h1);have:=hs.li;omega
theorem Cat.Sh.id' (hs:c.Sh) {j:Int} (h0:0≤j) (h1:j<c.id.length):0≤ix c.id j∧ix c.id j<c.fr.length:=Q4C hs.id h0 h1
theorem Cat.Sh.row' (hs:c.Sh) {j:Int} (h0:0≤j) (h1:j<c.fr.length):(rx c.cs j).length=c.fr.length:=by
 have:=(hs.rows j.toNat (by omega)).1
 rwa [Int.toNat_of_nonneg h0] at this
theorem Cat.Sh.cell' (hs:c.Sh) {f g:Int} (h0:0≤f) (h1:f<c.fr.length) (h2:0≤g) (h3:g<c.fr.length):(ix c.to f ≠ ix c.fr g→ix (rx c.cs f) g = -1) ∧
  (ix c.to f=ix c.fr g→0≤ix (rx c.cs f) g∧ix (rx c.cs f) g<c.fr.length∧ix c.fr (ix (rx c.cs f) g)=ix c.fr f∧ix c.to (ix (rx c.cs f) g)=ix c.to g):=by
 have:=(hs.rows f.toNat (by omega)).2 g.toNat (by omega);simpa only [Cat.cell,Int.toNat_of_nonneg h0,Int.toNat_of_nonneg h2] using this
end
theorem nope {C:Prop} (h:¬ C):(false=true↔C):=⟨fun h1=>Bool.noConfusion h1,fun h2=>absurd h2 h⟩
def four (k:Option (Int × Int × Int × Int)):List AV :=
 [.val (.int .i64 (k.getD (0,0,0,0)).1),.val (.int .i64 (k.getD (0,0,0,0)).2.1),.val (.int .i64 (k.getD (0,0,0,0)).2.2.1),.val (.int .i64 (k.getD (0,0,0,0)).2.2.2)]
theorem fault_zero {c:Cat}:(c.fault.getD (0,0,0,0)).1=0↔c.Law:=by
 by_cases h1:∀ y,y<c.fr.length→c.un y
 ·by_cases h2:∀ y,y<c.fr.length→∀ g,g<c.fr.length→∀ h,h<c.fr.length→c.as y g h
  ·rw [Q3z h1 h2];exact ⟨fun _=>⟨h1,h2⟩,fun _=>rfl⟩
  have:c.fault ≠ none:=by
   intro h0;apply h2;unfold Cat.fault at h0;split at h0
   ·cases h0
   intro f hf g hg h hh;have:=Q3f (Q3f (Q3f h0 f hf) g hg) h hh;simpa [Cat.f2] using this
  refine ⟨fun h=>?_,fun h=>absurd h.2 h2⟩;exfalso;unfold Cat.fault at this h;rw [Q14 fun j hj=>by simp [Cat.f1,h1 j hj]] at this h;simp only at this h;have key:∀ {α:Type} (p:Nat→Option α) (Q:α→Prop),(∀ i a,p i=some a→Q a)→∀ n a,first p n=some a→Q a:=by
   intro α p Q hp n
   induction n with
   | zero=>intro a h;cases h
   | succ n ih =>
    intro a h;simp only [first] at h;split at h
    ·rename_i x hx;cases h;exact ih _ hx
    exact hp _ _ h
  obtain ⟨x,hx⟩:=Option.ne_none_iff_exists'.1 this;have:x.1=2:=key _ (fun x=>x.1=2) (fun f a ha=>key _ (fun x=>x.1=2) (fun g a ha=>key _ (fun x=>x.1=2) (fun h a ha=>by
   simp only [Cat.f2] at ha;split at ha
   ·cases ha
   cases ha;rfl) _ _ ha) _ _ ha) _ _ hx
  rw [hx] at h;simp [this] at h
 refine ⟨fun h=>?_,fun h=>absurd h.1 h1⟩;exfalso;unfold Cat.fault at h;cases hq:first c.f1 c.fr.length with
 | none =>
  apply h1;intro y hy;have:=Q3f hq y hy;simpa [Cat.f1] using this
 | some x =>
  rw [hq] at h;have key:∀ n a,first c.f1 n=some a→a.1=1:=by
   intro n
   induction n with
   | zero=>intro a h;cases h
   | succ n ih =>
    intro a h;simp only [first] at h;split at h
    ·rename_i x hx;cases h;exact ih _ hx
    simp only [Cat.f1] at h;split at h
    ·cases h
    cases h;rfl
  have:=key _ _ hq;simp [this] at h
@[simp] abbrev Yn (a:Cat) (b c:Nat) (d:List (Nat × AV)):List (Nat × AV):=(6,iV a.fr.length)::(8,iV b)::(9,iV c)::d
theorem c64 (u:Bool) (c:Cat) (hs:c.Sh):Contract Try.prog 92 [.agg (c.cells u)] (.tup (four c.fault)):=by
 refine Qe (rs:=four c.fault) Try.func92 rfl rfl rfl rfl (by simp [Try.f92]) fun F hN hP=>?_;have hl1:=hs.lt;have hl2:=hs.lc;have hm40:=hs.m40;refine srQ hN fun K hK=>?_;simp [Cat.cells];refine hK _ ?_;clear hK K;refine srQ hN fun K hK=>?_;simp [Cat.cells];refine hK _ ?_;clear hK K;refine Q0 (srQ hN fun K hK=>?_);simp;refine hK _ (Q7 (QT (fun f:Nat=>⟨Yf [(6,iV c.fr.length),(7,iV f)],Y1 c u [],1⟩) (fun f=>f≤c.fr.length∧∀ y:Nat,y<f→c.un y) (fun f=>c.fr.length - f) 0 (by simp) (Wk.relabel [(0,0)] (by simp) (by simp) (by rw [hP];simp) (by simp) (by simp) (by simp) (by simp)) ?_));clear hK K
 rintro f ⟨hf0,hi0⟩
 refine Q0 (srQ hN fun K hK=>?_);simp;refine hK _ ?_;clear hK K;refine Q8 rfl (fun h=>?_) fun h=>?_
 ·simp at h;have hf:f<c.fr.length:=by omega
  clear h;have a1:=hs.fr' (j:=f) (by omega) (by omega);have a2:=hs.id' a1.1 a1.2;have a3:=hs.row' a2.1 a2.2;have a4:=hs.row' (j:=f) (by omega) (by omega);have a5:=hs.to' (j:=f) (by omega) (by omega);have a6:=hs.id' a5.1 a5.2;refine Q9 (Q0 (Q7 (srQ hN fun K hK=>?_)));refine join hK (fun b=>⟨Yf [(6,iV c.fr.length),(7,iV f),(56,.val (.bool b))],Y1 c u [],1⟩) (¬ c.un f) (fun hJ=>?_) fun b hb=>?_
  ·simp [Q16,Q1N,Q1y,Q1L,hl1,hl2,hf,a1.1,a1.2,a2.1,a2.2,a3,a4,a5.1,a5.2,a6.1,a6.2];refine ⟨fun b1=>?_,fun b1=>?_⟩
   ·exact hJ (ix (rx c.cs f) (ix c.id (ix c.to f)) != f) (by simp [Cat.un,b1]) _ (Wk.relabel [(0,0)] (by simp) (by simp) (by rw [hP];simp) (by simp) (by simp) (by simp) (by simp))
   exact hJ (true) (yes fun hp=>b1 hp.1) _ (Wk.relabel [(0,0)] (by simp) (by simp) (by rw [hP];simp) (by simp) (by simp) (by simp) (by simp))
  clear hK K;refine Q8 rfl (fun h=>?_) fun h=>?_
  ·refine srQ hN fun K hK=>?_;simp;refine hK _ (Qj ?_);clear hK K;rw [Q5t hf hi0 (hb.1 h)];refine ⟨.one rfl rfl (.one rfl rfl (.one rfl rfl (.one rfl rfl .nil))),_,[],rfl,by simp,UpL.refl _⟩
  have hc:c.un f:=Classical.byContradiction fun hn=>by rw [hb.2 hn] at h;cases h
  refine Q9 (runQ hN fun K hK=>?_);simp;refine hK _ ?_;clear hK K;rw [Qp (n:=c.fr.length) (by omega) (by omega)];refine ⟨f+1,⟨by omega,QQ hi0 hc⟩,by dsimp only;omega,(Wk.relabel [(0,0)] (by simp) (by simp) (by rw [hP];simp) (by simp) (by simp) (by simp) (by simp))⟩
 simp at h;have hf2:c.fr.length≤f:=by omega
 clear h;have hi1:∀ y:Nat,y<c.fr.length→c.un y:=fun y hy=>hi0 y (by omega);refine Qr ?_;simp;refine Q0 (srQ hN fun K hK=>?_);simp;refine hK _ (Q7 (QT (fun f:Nat=>⟨Yf [(6,iV c.fr.length),(8,iV f)],Y1 c u [],1⟩) (fun f=>f≤c.fr.length∧∀ y:Nat,y<f→∀ g:Nat,g<c.fr.length→∀ h:Nat,h<c.fr.length→c.as y g h) (fun f=>c.fr.length - f) 0 (by simp) (Wk.relabel [(0,0)] (by simp) (by simp) (by rw [hP];simp) (by simp) (by simp) (by simp) (by simp)) ?_));clear hK K;clear hi0 hf2 hf0 f
 rintro f ⟨hf0,hi2⟩
 refine Q0 (srQ hN fun K hK=>?_);simp;refine hK _ ?_;clear hK K;refine Q8 rfl (fun h=>?_) fun h=>?_
 ·simp at h;have hf:f<c.fr.length:=by omega
  clear h;have rf:=hs.row' (j:=f) (by omega) (by omega);refine Q9 (Q0 (Q7 (srQ hN fun K hK=>?_)));simp;refine hK _ (Q7 (QT (fun g:Nat=>⟨Yf (Yn c f g []),Y1 c u [],1⟩) (fun g=>g≤c.fr.length∧∀ y:Nat,y<g→∀ h:Nat,h<c.fr.length→c.as f y h) (fun g=>c.fr.length - g) 0 (by simp) (Wk.relabel [(0,0)] (by simp) (by simp) (by rw [hP];simp) (by simp) (by simp) (by simp) (by simp)) ?_));clear hK K
  rintro g ⟨hg0,hi3⟩
  refine Q0 (srQ hN fun K hK=>?_);simp;refine hK _ ?_;clear hK K;refine Q8 rfl (fun h=>?_) fun h=>?_
  ·simp at h;have hg:g<c.fr.length:=(by omega);clear h;have rg:=hs.row' (j:=g) (by omega) (by omega);refine Q9 (Q0 (Q7 (Q0 (srQ hN fun K hK=>?_))));simp [Q16,Q1N,Q1y,Q1L,hl1,hf,hg];refine hK _ ?_;clear hK K;refine Q8 rfl (fun e1=>?_) fun e1=>?_
   ·simp at e1;have hc:∀ h:Nat,h<c.fr.length→c.as f g h:=fun h _ q=>absurd q e1;refine Qr ?_;simp;refine runQ hN fun K hK=>?_;simp;refine hK _ ?_;clear hK K;rw [Qp (n:=c.fr.length) (by omega) (by omega)];refine ⟨g+1,⟨by omega,QQ hi3 hc⟩,by dsimp only;omega,(Wk.relabel [(0,0)] (by simp) (by simp) (by rw [hP];simp) (by simp) (by simp) (by simp) (by simp))⟩
   simp at e1;have d0:=(hs.cell' (f:=f) (g:=g) (by omega) (by omega) (by omega) (by omega)).2 e1;have r0:=hs.row' d0.1 d0.2.1;refine Q9 (srQ hN fun K hK=>?_);simp;refine hK _ (Q7 (QT (fun h:Nat=>⟨Yf (Yn c f g [(10,iV h)]),Y1 c u [],1⟩) (fun h=>h≤c.fr.length∧∀ y:Nat,y<h→c.as f g y) (fun h=>c.fr.length - h) 0 (by simp) (Wk.relabel [(0,0)] (by simp) (by simp) (by rw [hP];simp) (by simp) (by simp) (by simp) (by simp)) ?_));clear hK K
   rintro h ⟨hh0,hi4⟩
   refine Q0 (srQ hN fun K hK=>?_);simp;refine hK _ ?_;clear hK K;refine Q8 rfl (fun g0=>?_) fun g0=>?_
   ·simp at g0;have hh:h<c.fr.length:=(by omega);clear g0;refine Q9 (Q0 (Q7 (srQ hN fun K hK=>?_)));refine join hK (fun b=>⟨Yf (Yn c f g [(10,iV h),(127,.val (.bool b))]),Y1 c u [],1⟩) (¬ c.as f g h) (fun hJ=>?_) fun b hb=>?_
    ·by_cases e2:ix c.to g=ix c.fr h
     ·have d1:=(hs.cell' (f:=g) (g:=h) (by omega) (by omega) (by omega) (by omega)).2 e2;simp [Q16,Q1N,Q1y,Q1L,e2,hl1,hl2,hf,hg,hh,rg,rf,d0.1,d0.2.1,r0,d1.1,d1.2.1];exact hJ (ix (rx c.cs (ix (rx c.cs f) g)) h != ix (rx c.cs f) (ix (rx c.cs g) h)) (by simp [Cat.as,e1,e2]) _ (Wk.relabel [(0,0)] (by simp) (by simp) (by rw [hP];simp) (by simp) (by simp) (by simp) (by simp))
     simp [Q16,Q1N,Q1y,Q1L,e2,hl1,hg,hh];exact hJ (false) (nope fun hp=>hp fun _ q=>absurd q e2) _ (Wk.relabel [(0,0)] (by simp) (by simp) (by rw [hP];simp) (by simp) (by simp) (by simp) (by simp))
    clear hK K;refine Q8 rfl (fun g0=>?_) fun g0=>?_
    ·refine srQ hN fun K hK=>?_;simp;refine hK _ (Qj ?_);clear hK K;rw [Q5u hf hg hh hi1 hi2 hi3 hi4 (hb.1 g0)];refine ⟨.one rfl rfl (.one rfl rfl (.one rfl rfl (.one rfl rfl .nil))),_,[],rfl,by simp,UpL.refl _⟩
    have hc:c.as f g h:=Classical.byContradiction fun hn=>by rw [hb.2 hn] at g0;cases g0
    refine Q9 (runQ hN fun K hK=>?_);simp;refine hK _ ?_;clear hK K;rw [Qp (n:=c.fr.length) (by omega) (by omega)];refine ⟨h+1,⟨by omega,QQ hi4 hc⟩,by dsimp only;omega,(Wk.relabel [(0,0)] (by simp) (by simp) (by rw [hP];simp) (by simp) (by simp) (by simp) (by simp))⟩
   simp at g0;have hh2:c.fr.length≤h:=(by omega);clear g0;have hc:∀ h:Nat,h<c.fr.length→c.as f g h:=fun y hy=>hi4 y (by omega);refine Qr ?_;simp;refine runQ hN fun K hK=>?_;simp;refine hK _ ?_;clear hK K;rw [Qp (n:=c.fr.length) (by omega) (by omega)];refine ⟨g+1,⟨by omega,QQ hi3 hc⟩,by dsimp only;omega,(Wk.relabel [(0,0)] (by simp) (by simp) (by rw [hP];simp) (by simp) (by simp) (by simp) (by simp))⟩
  simp at h;have hg2:c.fr.length≤g:=by omega
  clear h;refine Qr ?_;simp;refine runQ hN fun K hK=>?_;simp;refine hK _ ?_;clear hK K;rw [Qp (n:=c.fr.length) (by omega) (by omega)];refine ⟨f+1,⟨by omega,QQ hi2 fun g hg h hh=>hi3 g (by omega) h hh⟩,by dsimp only;omega,(Wk.relabel [(0,0)] (by simp) (by simp) (by rw [hP];simp) (by simp) (by simp) (by simp) (by simp))⟩
 simp at h;have hf2:c.fr.length≤f:=by omega
 clear h;refine Qr ?_;simp;refine srQ hN fun K hK=>?_;simp;refine hK _ (Qj ?_);clear hK K;rw [Q3z hi1 fun y hy=>hi2 y (by omega)];refine ⟨.one rfl rfl (.one rfl rfl (.one rfl rfl (.one rfl rfl .nil))),_,[],rfl,by simp,UpL.refl _⟩
theorem c66 (u:Bool) (c:Cat) (tl:List AV) (hs:c.Sh):Contract Try.prog 97 [.rptr (c.cells u++tl)] (.tup (four c.fault)):=by
 refine Qe (rs:=four c.fault) Try.func97 rfl rfl rfl rfl (by simp [Try.f97]) fun F hN hP=>?_;have hl1:=hs.lt;have hl2:=hs.lc;have hm40:=hs.m40;simp only [Cat.cells,List.cons_append,List.nil_append];refine srQ hN fun K hK=>?_;simp;refine hK _ ?_;clear hK K;refine srQ hN fun K hK=>?_;simp;refine Q1 (c61 u c tl) (.cons .rptr .nil) ?_;simp [unk,unA,unE,flat];refine hK _ ?_;clear hK K;refine Q0 (srQ hN fun K hK=>?_);simp;refine hK _ (Q7 (QT (fun f:Nat=>⟨Y2 c u tl [(6,iV c.fr.length),(7,iV f)],[],0⟩) (fun f=>f≤c.fr.length∧∀ y:Nat,y<f→c.un y) (fun f=>c.fr.length - f) 0 (by simp) (Wk.relabel [] (by simp) (by simp) (by rw [hP];simp) (by simp) (by simp) (by simp) (by simp)) ?_));clear hK K
 rintro f ⟨hf0,hi0⟩
 refine Q0 (srQ hN fun K hK=>?_);simp;refine hK _ ?_;clear hK K;refine Q8 rfl (fun h=>?_) fun h=>?_
 ·simp at h;have hf:f<c.fr.length:=by omega
  clear h;have a1:=hs.fr' (j:=f) (by omega) (by omega);have a2:=hs.id' a1.1 a1.2;have a3:=hs.row' a2.1 a2.2;have a4:=hs.row' (j:=f) (by omega) (by omega);have a5:=hs.to' (j:=f) (by omega) (by omega);have a6:=hs.id' a5.1 a5.2;refine Q9 (Q0 (Q7 (srQ hN fun K hK=>?_)));refine join hK (fun b=>⟨Y2 c u tl [(6,iV c.fr.length),(7,iV f),(55,.val (.bool b))],[],0⟩) (¬ c.un f) (fun hJ=>?_) fun b hb=>?_
  ·simp [Q16,Q1N,Q1y,Q1L,hl1,hf,a1.1,a1.2,a2.1,a2.2];refine Q1 (c69 u c tl (ix c.id (ix c.fr f)) (f) (a2.1) (by omega) (by omega) (by omega)) (.cons .rptr (.cons .val (.cons .val .nil))) ?_;simp [unk,unA,unE,flat,Q16,Q1N,Q1y,Q1L,hl1,hf,a5.1,a5.2];refine ⟨fun b1=>?_,fun b1=>?_⟩
   ·refine Q1 (c69 u c tl (f) (ix c.id (ix c.to f)) (by omega) (by omega) (a6.1) (by omega)) (.cons .rptr (.cons .val (.cons .val .nil))) ?_;simp [unk,unA,unE,flat];exact hJ (ix (rx c.cs f) (ix c.id (ix c.to f)) != f) (by simp [Cat.un,b1]) _ (Wk.relabel [] (by simp) (by simp) (by rw [hP];simp) (by simp) (by simp) (by simp) (by simp))
   exact hJ (true) (yes fun hp=>b1 hp.1) _ (Wk.relabel [] (by simp) (by simp) (by rw [hP];simp) (by simp) (by simp) (by simp) (by simp))
  clear hK K;refine Q8 rfl (fun h=>?_) fun h=>?_
  ·refine srQ hN fun K hK=>?_;simp;refine hK _ (Qj ?_);clear hK K;rw [Q5t hf hi0 (hb.1 h)];refine ⟨.one rfl rfl (.one rfl rfl (.one rfl rfl (.one rfl rfl .nil))),_,[],rfl,by simp,UpL.refl _⟩
  have hc:c.un f:=Classical.byContradiction fun hn=>by rw [hb.2 hn] at h;cases h
  refine Q9 (runQ hN fun K hK=>?_);simp;refine hK _ ?_;clear hK K;rw [Qp (n:=c.fr.length) (by omega) (by omega)];refine ⟨f+1,⟨by omega,QQ hi0 hc⟩,by dsimp only;omega,(Wk.relabel [] (by simp) (by simp) (by rw [hP];simp) (by simp) (by simp) (by simp) (by simp))⟩
 simp at h;have hf2:c.fr.length≤f:=by omega
 clear h;have hi1:∀ y:Nat,y<c.fr.length→c.un y:=fun y hy=>hi0 y (by omega);refine Qr ?_;simp;refine Q0 (srQ hN fun K hK=>?_);simp;refine hK _ (Q7 (QT (fun f:Nat=>⟨Y2 c u tl [(6,iV c.fr.length),(8,iV f)],[],0⟩) (fun f=>f≤c.fr.length∧∀ y:Nat,y<f→∀ g:Nat,g<c.fr.length→∀ h:Nat,h<c.fr.length→c.as y g h) (fun f=>c.fr.length - f) 0 (by simp) (Wk.relabel [] (by simp) (by simp) (by rw [hP];simp) (by simp) (by simp) (by simp) (by simp)) ?_));clear hK K;clear hi0 hf2 hf0 f
 rintro f ⟨hf0,hi2⟩
 refine Q0 (srQ hN fun K hK=>?_);simp;refine hK _ ?_;clear hK K;refine Q8 rfl (fun h=>?_) fun h=>?_
 ·simp at h;have hf:f<c.fr.length:=by omega
  clear h;have rf:=hs.row' (j:=f) (by omega) (by omega);refine Q9 (Q0 (Q7 (srQ hN fun K hK=>?_)));simp;refine hK _ (Q7 (QT (fun g:Nat=>⟨Y2 c u tl (Yn c f g []),[],0⟩) (fun g=>g≤c.fr.length∧∀ y:Nat,y<g→∀ h:Nat,h<c.fr.length→c.as f y h) (fun g=>c.fr.length - g) 0 (by simp) (Wk.relabel [] (by simp) (by simp) (by rw [hP];simp) (by simp) (by simp) (by simp) (by simp)) ?_));clear hK K
  rintro g ⟨hg0,hi3⟩
  refine Q0 (srQ hN fun K hK=>?_);simp;refine hK _ ?_;clear hK K;refine Q8 rfl (fun h=>?_) fun h=>?_
  ·simp at h;have hg:g<c.fr.length:=(by omega);clear h;have rg:=hs.row' (j:=g) (by omega) (by omega);refine Q9 (Q0 (Q7 (Q0 (srQ hN fun K hK=>?_))));simp;refine Q1 (c69 u c tl (f) (g) (by omega) (by omega) (by omega) (by omega)) (.cons .rptr (.cons .val (.cons .val .nil))) ?_;simp [unk,unA,unE,flat];refine hK _ ?_;clear hK K;refine Q8 rfl (fun e0=>?_) fun e0=>?_
   ·simp at e0;have e1:¬ ix c.to f=ix c.fr g:=fun q=>by have:=((hs.cell' (f:=f) (g:=g) (by omega) (by omega) (by omega) (by omega)).2 q).1;omega
    have hc:∀ h:Nat,h<c.fr.length→c.as f g h:=fun h _ q=>absurd q e1;refine Qr ?_;simp;refine runQ hN fun K hK=>?_;simp;refine hK _ ?_;clear hK K;rw [Qp (n:=c.fr.length) (by omega) (by omega)];refine ⟨g+1,⟨by omega,QQ hi3 hc⟩,by dsimp only;omega,(Wk.relabel [] (by simp) (by simp) (by rw [hP];simp) (by simp) (by simp) (by simp) (by simp))⟩
   simp at e0;have e1:ix c.to f=ix c.fr g:=Classical.byContradiction fun q=>by have:=(hs.cell' (f:=f) (g:=g) (by omega) (by omega) (by omega) (by omega)).1 q;omega
   have d0:=(hs.cell' (f:=f) (g:=g) (by omega) (by omega) (by omega) (by omega)).2 e1;have r0:=hs.row' d0.1 d0.2.1;refine Q9 (srQ hN fun K hK=>?_);simp;refine hK _ (Q7 (QT (fun h:Nat=>⟨Y2 c u tl (Yn c f g [(10,iV h)]),[],0⟩) (fun h=>h≤c.fr.length∧∀ y:Nat,y<h→c.as f g y) (fun h=>c.fr.length - h) 0 (by simp) (Wk.relabel [] (by simp) (by simp) (by rw [hP];simp) (by simp) (by simp) (by simp) (by simp)) ?_));clear hK K
   rintro h ⟨hh0,hi4⟩
   refine Q0 (srQ hN fun K hK=>?_);simp;refine hK _ ?_;clear hK K;refine Q8 rfl (fun g0=>?_) fun g0=>?_
   ·simp at g0;have hh:h<c.fr.length:=(by omega);clear g0;refine Q9 (Q0 (Q7 (srQ hN fun K hK=>?_)));refine join hK (fun b=>⟨Y2 c u tl (Yn c f g [(10,iV h),(98,.val (.bool b))]),[],0⟩) (¬ c.as f g h) (fun hJ=>?_) fun b hb=>?_
    ·simp;refine Q1 (c69 u c tl (g) (h) (by omega) (by omega) (by omega) (by omega)) (.cons .rptr (.cons .val (.cons .val .nil))) ?_;simp [unk,unA,unE,flat]
     by_cases e2:ix c.to g=ix c.fr h
     ·have d1:=(hs.cell' (f:=g) (g:=h) (by omega) (by omega) (by omega) (by omega)).2 e2;simp [d1.1,Int.not_lt.2 d1.1];refine Q1 (c69 u c tl (f) (g) (by omega) (by omega) (by omega) (by omega)) (.cons .rptr (.cons .val (.cons .val .nil))) ?_;simp [unk,unA,unE,flat];refine Q1 (c69 u c tl (ix (rx c.cs f) g) (h) (d0.1) (by omega) (by omega) (by omega)) (.cons .rptr (.cons .val (.cons .val .nil))) ?_;simp [unk,unA,unE,flat];refine Q1 (c69 u c tl (g) (h) (by omega) (by omega) (by omega) (by omega)) (.cons .rptr (.cons .val (.cons .val .nil))) ?_;simp [unk,unA,unE,flat];refine Q1 (c69 u c tl (f) (ix (rx c.cs g) h) (by omega) (by omega) (d1.1) (by omega)) (.cons .rptr (.cons .val (.cons .val .nil))) ?_;simp [unk,unA,unE,flat];exact hJ (ix (rx c.cs (ix (rx c.cs f) g)) h != ix (rx c.cs f) (ix (rx c.cs g) h)) (by simp [Cat.as,e1,e2]) _ (Wk.relabel [] (by simp) (by simp) (by rw [hP];simp) (by simp) (by simp) (by simp) (by simp))
     have d1:=(hs.cell' (f:=g) (g:=h) (by omega) (by omega) (by omega) (by omega)).1 e2;simp [d1];exact hJ (false) (nope fun hp=>hp fun _ q=>absurd q e2) _ (Wk.relabel [] (by simp) (by simp) (by rw [hP];simp) (by simp) (by simp) (by simp) (by simp))
    clear hK K;refine Q8 rfl (fun g0=>?_) fun g0=>?_
    ·refine srQ hN fun K hK=>?_;simp;refine hK _ (Qj ?_);clear hK K;rw [Q5u hf hg hh hi1 hi2 hi3 hi4 (hb.1 g0)];refine ⟨.one rfl rfl (.one rfl rfl (.one rfl rfl (.one rfl rfl .nil))),_,[],rfl,by simp,UpL.refl _⟩
    have hc:c.as f g h:=Classical.byContradiction fun hn=>by rw [hb.2 hn] at g0;cases g0
    refine Q9 (runQ hN fun K hK=>?_);simp;refine hK _ ?_;clear hK K;rw [Qp (n:=c.fr.length) (by omega) (by omega)];refine ⟨h+1,⟨by omega,QQ hi4 hc⟩,by dsimp only;omega,(Wk.relabel [] (by simp) (by simp) (by rw [hP];simp) (by simp) (by simp) (by simp) (by simp))⟩
   simp at g0;have hh2:c.fr.length≤h:=(by omega);clear g0;have hc:∀ h:Nat,h<c.fr.length→c.as f g h:=fun y hy=>hi4 y (by omega);refine Qr ?_;simp;refine runQ hN fun K hK=>?_;simp;refine hK _ ?_;clear hK K;rw [Qp (n:=c.fr.length) (by omega) (by omega)];refine ⟨g+1,⟨by omega,QQ hi3 hc⟩,by dsimp only;omega,(Wk.relabel [] (by simp) (by simp) (by rw [hP];simp) (by simp) (by simp) (by simp) (by simp))⟩
  simp at h;have hg2:c.fr.length≤g:=by omega
  clear h;refine Qr ?_;simp;refine runQ hN fun K hK=>?_;simp;refine hK _ ?_;clear hK K;rw [Qp (n:=c.fr.length) (by omega) (by omega)];refine ⟨f+1,⟨by omega,QQ hi2 fun g hg h hh=>hi3 g (by omega) h hh⟩,by dsimp only;omega,(Wk.relabel [] (by simp) (by simp) (by rw [hP];simp) (by simp) (by simp) (by simp) (by simp))⟩
 simp at h;have hf2:c.fr.length≤f:=by omega
 clear h;refine Qr ?_;simp;refine srQ hN fun K hK=>?_;simp;refine hK _ (Qj ?_);clear hK K;rw [Q3z hi1 fun y hy=>hi2 y (by omega)];refine ⟨.one rfl rfl (.one rfl rfl (.one rfl rfl (.one rfl rfl .nil))),_,[],rfl,by simp,UpL.refl _⟩
end
section
attribute [local simp] Qc Qw Qm QN Qu
def Cat.Is (c:Cat):Prop:=c.Sh∧c.Law
theorem beq_bo {a:Int} {p:Prop} (h:a=0↔p):Value.bool (a == 0)=Value.bool (bo p):=by
 by_cases hp:p
 ·simp [bo,hp,h.2 hp]
 have:a ≠ 0:=fun q=>hp (h.1 q);simp [bo,hp,this]
theorem bo_not {p:Prop} (h:(!bo p)=true):¬ p:=by simpa [bo] using h
theorem bo_yes {p:Prop} (h:(!bo p)=false):p:=by simpa [bo] using h
theorem c55 (u:Bool) (c:Cat):Contract Try.prog 54 [.agg (c.cells u)] (.val (.bool (bo c.Is))):=by
 refine Qe (rs:=[.val (.bool (bo c.Is))]) Try.func54 rfl rfl rfl rfl (by simp [Try.f54]) fun F hN hP=>?_;refine srQ hN fun K hK=>?_;simp [Cat.cells];refine hK _ ?_;clear hK K;refine Q0 (srQ hN fun K hK=>?_);simp;refine Q1 (c63 u c) (.cons (.aggL Cat.pur) .nil) ?_;simp [unk,unA,unE,flat];refine hK _ ?_;clear hK K;refine Q8 rfl (fun h=>?_) fun h=>?_
 ·refine srQ hN fun K hK=>?_;simp;refine hK _ (Qj (Qh rfl (bo_f fun hs=>?_)));clear hK K;exact bo_not h hs.1
 have hs:c.Sh:=bo_yes h;refine Q9 (srQ hN fun K hK=>?_);simp;refine Q1 (c64 u c hs) (.cons (.aggL Cat.pur) .nil) ?_;simp [unk,unA,unE,unT,flat,four];refine hK _ ?_;clear hK K;refine srQ hN fun K hK=>?_;simp;refine hK _ (Qj (Qh rfl (beq_bo ?_)));clear hK K;exact ⟨fun q=>⟨hs,fault_zero.1 q⟩,fun q=>fault_zero.2 q.2⟩
theorem c60 (u:Bool) (c:Cat) (tl:List AV):Contract Try.prog 57 [.rptr (c.cells u++tl)] (.val (.bool (bo c.Is))):=by
 refine Qe (rs:=[.val (.bool (bo c.Is))]) Try.func57 rfl rfl rfl rfl (by simp [Try.f57]) fun F hN hP=>?_;refine srQ hN fun K hK=>?_;simp;refine hK _ ?_;clear hK K;refine Q0 (srQ hN fun K hK=>?_);simp;refine Q1 (c65 u c tl) (.cons .rptr .nil) ?_;simp [unk,unA,unE,flat];refine hK _ ?_;clear hK K;refine Q8 rfl (fun h=>?_) fun h=>?_
 ·refine srQ hN fun K hK=>?_;simp;refine hK _ (Qj (Qh rfl (bo_f fun hs=>?_)));clear hK K;exact bo_not h hs.1
 have hs:c.Sh:=bo_yes h;refine Q9 (srQ hN fun K hK=>?_);simp;refine Q1 (c66 u c tl hs) (.cons .rptr .nil) ?_;simp [unk,unA,unE,unT,flat,four];refine hK _ ?_;clear hK K;refine srQ hN fun K hK=>?_;simp;refine hK _ (Qj (Qh rfl (beq_bo ?_)));clear hK K;exact ⟨fun q=>⟨hs,fault_zero.1 q⟩,fun q=>fault_zero.2 q.2⟩
def SF.actOk (f:SF) (a:Nat):Prop:=((rx f.ac a).length:Int)=ix f.sz (ix f.s.fr a)∧∀ x∈rx f.ac a,inR (ix f.sz (ix f.s.to a)) x=true
structure SF.Sh (f:SF):Prop where
 cat:f.s.Is
 ls:(f.sz.length:Int)=f.s.n
 la:f.ac.length=f.s.fr.length
 sz:∀ x∈f.sz,inR 17 x=true
 act:∀ a:Nat,a<f.ac.length→f.actOk a
def SF.un (f:SF) (x e:Nat):Prop:=ix (rx f.ac (ix f.s.id x)) e=e
def SF.as (f:SF) (a b e:Nat):Prop:=ix f.s.to a=ix f.s.fr b→ix (rx f.ac (ix (rx f.s.cs a) b)) e=ix (rx f.ac b) (ix (rx f.ac a) e)
def SF.lu (f:SF) (x:Nat):Nat:=(rx f.ac (ix f.s.id x)).length
def SF.la (f:SF) (a:Nat):Nat:=(rx f.ac a).length
def SF.Law (f:SF):Prop:=(∀ x,x<f.s.id.length→∀ e,e<f.lu x→f.un x e)∧∀ a,a<f.s.fr.length→∀ b,b<f.s.fr.length→∀ e,e<f.la a→f.as a b e
section
variable {f:SF}
end
def SF.Is (f:SF):Prop:=f.Sh∧f.Law
theorem Is_snoc (xs:List Int) (x:Int):Is xs++[[iV x]]=Is (xs++[x]):=by simp [Is]
theorem Wk.trans {F:Fx} {a b c:St} (h1:Wk F a b) (h2:Wk F b c):Wk F a c:=fun x w hr=>h2 x w (h1 x w hr)
end
section
attribute [local simp] Qc Qw Qm QN Qu
@[simp] theorem zp33:Q3l Try.prog 34=some [(0,5),(5,1),(6,1)]:=by kernel_rfl
theorem Q54 {l:Int} {n:Nat} (h:0≤less l n):(n:Int)≤l∧less l n=l - n:=by
 unfold less at h ⊢;split at h
 ·omega
 rename_i h1;rw [if_neg h1];omega
theorem nn_ok {a:Int} {f:Int→Int} (h:0≤nn a f):0≤a∧0≤f a∧nn a f=f a:=by
 unfold nn at h ⊢;split at h
 ·omega
 rename_i h1;rw [if_neg h1];exact ⟨by omega,h,rfl⟩
theorem lessS_ok (xs:List (List Int)):∀ l:Int,0≤Q3S l xs→(sumL xs:Int)≤l∧(∀ x∈xs,(x.length:Int)≤l)∧Q3S l xs=l - sumL xs:=by
 induction xs with
 | nil=>intro l h;simp only [Q3S] at h ⊢;simp [sumL];exact h
 | cons x r ih =>
  intro l h;simp only [Q3S] at h ⊢;split at h
  ·omega
  rename_i h1;rw [if_neg h1];obtain ⟨a1,a2⟩:=Q54 (l:=l) (n:=x.length) (by omega);rw [a2] at h ⊢;obtain ⟨b1,b2,b3⟩:=ih _ h;have hs:sumL (x :: r)=x.length+sumL r:=by simp [sumL]
  refine ⟨by rw [hs];push_cast;omega,fun y hy=>?_,by rw [b3,hs];push_cast;omega⟩;rcases List.mem_cons.1 hy with rfl|hy
  ·exact a1
  have:=b2 y hy;omega
theorem lessSS_ok {l:Int} {xs:List (List Int)} (h:0≤Q2c l xs):(xs.length:Int)≤l∧(sumL xs:Int)≤l∧(∀ x∈xs,(x.length:Int)≤l)∧Q2c l xs≤l:=by
 unfold Q2c at h ⊢;split at h
 ·omega
 rename_i h1;rw [if_neg h1];obtain ⟨b1,b2,b3⟩:=lessS_ok xs _ h;exact ⟨by omega,by omega,fun x hx=>by have:=b2 x hx;omega,by omega⟩
theorem szCat_ok {l:Int} {c:Cat} (hl:l≤1048576) (h:0≤Q36 l c):c.ok:=by
 unfold Q36 at h;obtain ⟨a1,a2,_⟩:=nn_ok h;obtain ⟨b1,b2,_⟩:=nn_ok a2;obtain ⟨c1,c2,_⟩:=nn_ok b2;obtain ⟨d1,d2,_⟩:=nn_ok c2;obtain ⟨e1,e2⟩:=Q54 a1;obtain ⟨f1,f2⟩:=Q54 b1;obtain ⟨g1,g2⟩:=Q54 c1;obtain ⟨h1,h2,h3,_⟩:=lessSS_ok d1;exact ⟨by omega,by omega,by omega,by omega,fun x hx=>by have:=h3 x hx;omega,by omega⟩
theorem Cat.ok_size {f:Cat} (h:f.ok):f.size≤1099514773504:=by
 obtain ⟨hfr,hto,hid,hcs1,hcs2,hcs3⟩:=h;simp only [Cat.size];omega
structure SM where
 s:SF
 t:SF
 p:List (List Int)
def SM.cells (u:Bool) (f:SM):List AV:=[iV f.s.s.n,.lst u 1 (Is f.s.s.fr),.lst u 1 (Is f.s.s.to),.lst u 1 (Is f.s.s.id),.lst u 1 (Ls f.s.s.cs),.lst u 1 (Is f.s.sz),.lst u 1 (Ls f.s.ac),iV f.t.s.n,.lst u 1 (Is f.t.s.fr),.lst u 1 (Is f.t.s.to),.lst u 1 (Is f.t.s.id),.lst u 1 (Ls f.t.s.cs),.lst u 1 (Is f.t.sz),.lst u 1 (Ls f.t.ac),.lst u 1 (Ls f.p)]
def SM.mark (k:Int) (f:SM):SM:=⟨f.s.mark (k),f.t.mark (k+f.s.size),runs (k+f.s.size+f.t.size) f.p⟩
def SM.size (f:SM):Nat:=f.s.size+f.t.size+sumL f.p
end
section
attribute [local simp] Qc Qw Qm QN Qu
def cmpL:List Int→List Int→Int
 | [],[]=>0
 | [],_ :: _=>-1
 | _ :: _,[]=>1
 | a :: x,b :: y=>if a=b then cmpL x y else if a<b then -1 else 1
theorem cmpL_zero:∀ {x y:List Int},cmpL x y=0↔x=y:=by
 intro x
 induction x with
 | nil=>intro y;cases y<;>simp [cmpL]
 | cons a x ih =>
  intro y;cases y with
  | nil=>simp [cmpL]
  | cons b y =>
   simp only [cmpL]
   by_cases h:a=b
   ·rw [if_pos h,ih];simp [h]
   rw [if_neg h];split<;>simp [h]
theorem Q5p {x y:List Int} {i:Nat} (h1:i≤x.length) (h2:i≤y.length) (h:x.take i=y.take i):cmpL x y=cmpL (x.drop i) (y.drop i):=by
 induction i generalizing x y with
 | zero=>simp
 | succ i ih =>
  cases x with
  | nil=>simp at h1
  | cons a x =>
   cases y with
   | nil=>simp at h2
   | cons b y =>
    simp only [List.take_succ_cons,List.cons.injEq] at h;simp only [List.drop_succ_cons,cmpL];rw [if_pos h.1];exact ih (by simpa using h1) (by simpa using h2) h.2
theorem bo_iff {p q:Prop} (h:p↔q):bo p=bo q:=by rw [propext h]
theorem bo_dec {p:Prop} [Decidable p]:bo p=decide p:=by by_cases h:p<;>simp [bo,h]
def SF.part (f g:SF) (p:List (List Int)) (x:Nat):Prop:=((rx p x).length:Int)=ix f.sz x∧∀ y∈rx p x,inR (ix g.sz x) y=true
structure SM.Sh (m:SM):Prop where
 hs:m.s.Is
 ht:m.t.Is
 eq:m.s.s=m.t.s
 lp:m.p.length=m.s.sz.length
 pt:∀ x:Nat,x<m.p.length→m.s.part m.t m.p x
def SM.nat (m:SM) (a e:Nat):Prop:=ix (rx m.p (ix m.s.s.to a)) (ix (rx m.s.ac a) e)=ix (rx m.t.ac a) (ix (rx m.p (ix m.s.s.fr a)) e)
def SM.Law (m:SM):Prop:=∀ a,a<m.s.s.fr.length→∀ e,e<m.s.la a→m.nat a e
def SM.Is (m:SM):Prop:=m.Sh∧m.Law
section
variable {m:SM}
end
def two (k:Option (Int × Int)):List AV:=[.val (.int .i64 (k.getD (-1,0)).1),.val (.int .i64 (k.getD (-1,0)).2)]
@[simp] theorem bo_true {p:Prop}:bo p=true↔p:=by simp [bo]
theorem n54 (ux uy:Bool) (xs ys:List Int):Contract Try.prog 67 [.lst ux 1 (Is xs),.lst uy 1 (Is ys)] (.val (.bool (decide (xs=ys)))):=by
 refine Qe (rs:=[.val (.bool (decide (xs=ys)))]) Try.func67 rfl rfl rfl rfl (by simp [Try.f67]) fun F hN hP=>?_;refine Q3s 0 fun h0=>?_;simp at h0;obtain ⟨hl0,hb0⟩:=h0.is;refine srQ hN fun K hK=>?_;simp;refine hK _ ?_;clear hK K;refine Q0 (w_sr mo (by rw [hN];decide) fun K hK=>?_);simp;refine hK _ (Q8 rfl (fun h=>?_) fun h=>?_)<;>clear hK K
 ·simp at h;refine srQ hN fun K hK=>?_;simp;refine hK _ (Qj (Qh rfl ?_));clear hK K;simp
  rintro rfl;exact h rfl
 simp at h;refine Q9 ?_;simp only [Q37];refine Q0 (w_sr mo (by rw [hN];decide) fun K hK=>?_);simp;refine hK _ (Q7 ?_);clear hK K;refine QT (fun i:Nat=>⟨[(0,.lst ux 1 (Is xs)),(1,.lst uy 1 (Is ys)),(5,iV i)],[],0⟩) (fun i=>i≤xs.length∧xs.take i=ys.take i) (fun i=>xs.length - i) 0 (by simp) (Wk.cut (by simp) rfl rfl) ?_
 rintro i ⟨hi,hti⟩
 refine Q0 (w_sr mo (by rw [hN];decide) fun K hK=>?_);simp;refine hK _ (Q8 rfl (fun h=>?_) fun h=>?_)<;>clear hK K
 ·simp at h;refine Q9 ?_;simp only [Q37];refine Q0 (Q7 (w_sr mo (by rw [hN];decide) fun K hK=>?_));have h2:i<ys.length:=by omega
  simp [h,h2];refine hK _ (Q8 rfl (fun h=>?_) fun h=>?_)<;>clear hK K
  ·simp at h;refine srQ hN fun K hK=>?_;simp;refine hK _ (Qj (Qh rfl ?_));clear hK K;simp
   rintro rfl;exact h rfl
  simp at h;refine Q9 ?_;simp;refine runQ hN fun K hK=>?_;simp;refine hK _ ?_;clear hK K;refine ⟨i+1,⟨by omega,Q6A (by omega) h2 hti h⟩,by dsimp only;omega,Wk.cut ?_ rfl rfl⟩;rw [Qp (n:=xs.length) (by omega) hl0];simp
 simp at h;refine Qr ?_;simp;refine srQ hN fun K hK=>?_;simp;refine hK _ (Qj (Qh rfl ?_));clear hK K;rw [List.take_of_length_le (by omega),List.take_of_length_le (by omega)] at hti;simp [hti]
theorem SM.Sh.part' {m:SM} (hm:m.Sh) {j:Int} (h0:0≤j) (h1:j<m.p.length):((rx m.p j).length:Int)=ix m.s.sz j∧∀ e:Int,0≤e→e<(rx m.p j).length→0≤ix (rx m.p j) e∧ix (rx m.p j) e<ix m.t.sz j:=by
 have:=hm.pt j.toNat (by omega);simp only [SF.part,Int.toNat_of_nonneg h0] at this;exact ⟨this.1,fun e e0 e1=>Q4C this.2 e0 e1⟩
end
section
attribute [local simp] Qc Qw Qm QN Qu
theorem n83 (u v:Bool) (xs ys:List Int):Contract Try.prog 110 [.lst u 1 (Is xs),.lst v 1 (Is ys)] (iV (cmpL xs ys)):=by
 refine Qe (rs:=[iV (cmpL xs ys)]) Try.func110 rfl rfl rfl rfl (by simp [Try.f110]) fun F hN hP=>?_;refine Q3s 0 fun h0=>?_;simp at h0;obtain ⟨hl0,hb0⟩:=h0.is;refine srQ hN fun K hK=>?_;simp;refine hK _ ?_;clear hK K;refine Q0 (srQ hN fun K hK=>?_);simp;refine hK _ (Q7 (QT (fun i:Nat=>⟨[(0,.lst u 1 (Is xs)),(1,.lst v 1 (Is ys)),(7,iV xs.length),(8,iV i)],[],0⟩) (fun i=>i≤xs.length∧i≤ys.length∧xs.take i=ys.take i) (fun i=>xs.length - i) 0 (by simp) (Wk.cut (by simp) (by simp) rfl) ?_));clear hK K
 rintro i ⟨hi,hj,ht⟩
 refine srQ hN fun K hK=>?_;simp;refine hK _ ?_;clear hK K;refine Q0 (Q8 rfl (fun h=>?_) fun h=>?_)
 ·simp at h;have hd:=Q5p hi hj ht;rw [List.drop_eq_getElem_cons h] at hd;refine Q9 (Q0 (Q7 (srQ hN fun K hK=>?_)));simp;refine hK _ ?_;clear hK K;refine Q0 (srQ hN fun K hK=>?_);simp;refine hK _ ?_;clear hK K;refine Q8 rfl (fun h2=>?_) fun h2=>?_
  ·simp at h2;have h2:i=ys.length:=(by omega);refine srQ hN fun K hK=>?_;simp;refine hK _ ?_;clear hK K;have hq:List.drop i ys=[]:=List.drop_eq_nil_of_le (by omega);refine Qj (Qh rfl ?_);rw [hd,hq];rfl
  simp at h2;have h3:i<ys.length:=by omega
  rw [List.drop_eq_getElem_cons h3] at hd;simp only [cmpL] at hd;refine Q9 (srQ hN fun K hK=>?_);simp [h,h3];refine hK _ ?_;clear hK K;refine Q8 rfl (fun h4=>?_) fun h4=>?_
  ·simp at h4;rw [if_neg h4] at hd;refine Q0 (srQ hN fun K hK=>?_);simp [h,h3];refine hK _ ?_;clear hK K;refine Q8 rfl (fun h5=>?_) fun h5=>?_
   ·simp at h5;rw [if_pos h5] at hd;refine srQ hN fun K hK=>?_;simp;refine hK _ ?_;clear hK K;refine Qj (Qh rfl (by rw [hd]))
   simp at h5;rw [if_neg (by omega)] at hd;refine Q9 (srQ hN fun K hK=>?_);simp;refine hK _ ?_;clear hK K;refine Qj (Qh rfl (by rw [hd]))
  simp at h4;refine Q9 (runQ hN fun K hK=>?_);simp;refine hK _ ?_;clear hK K;rw [Qp (n:=xs.length) (by omega) (by omega)];refine ⟨i+1,⟨by omega,by omega,?_⟩,by dsimp only;omega,Wk.cut (by simp) rfl rfl⟩;rw [List.take_succ_eq_append_getElem h,List.take_succ_eq_append_getElem h3,ht,h4]
 simp at h;have hi2:i=xs.length:=by omega
 subst hi2;rw [List.take_length] at ht;have hd:=Q5p (Nat.le_refl _) hj (by rw [List.take_length];exact ht);rw [List.drop_length] at hd;refine Qr ?_;simp;refine Q0 (srQ hN fun K hK=>?_);simp;refine hK _ ?_;clear hK K;refine Q8 rfl (fun h6=>?_) fun h6=>?_
 ·simp at h6;have h7:ys.drop xs.length ≠ []:=by rw [Ne,List.drop_eq_nil_iff];omega
  refine srQ hN fun K hK=>?_;simp;refine hK _ (Qj (Qh rfl ?_));clear hK K;rw [hd];cases hq:ys.drop xs.length with
  | nil=>exact absurd hq h7
  | cons a r=>rfl
 simp at h6;have h7:ys.drop xs.length=[]:=List.drop_eq_nil_of_le (by omega);refine Q9 (srQ hN fun K hK=>?_);simp;refine hK _ (Qj (Qh rfl ?_));clear hK K;rw [hd,h7];rfl
theorem n62 (u v:Bool) (xs ys:List Int):Contract Try.prog 82 [.lst u 1 (Is xs),.lst v 1 (Is ys)] (.val (.bool (decide (xs=ys)))):=by
 refine Qe (rs:=[.val (.bool (decide (xs=ys)))]) Try.func82 rfl rfl rfl rfl (by simp [Try.f82]) fun F hN hP=>?_;refine srQ hN fun K hK=>?_;simp;refine hK _ ?_;clear hK K;refine srQ hN fun K hK=>?_;simp;refine Q1 (n83 u v xs ys) (.cons .lst (.cons .lst .nil)) ?_;simp [unk,unA,unE,flat];refine hK _ (Qj (Qh rfl ?_));clear hK K;rw [← bo_dec,← bo_iff (cmpL_zero (x:=xs) (y:=ys)),bo_dec]
 by_cases h:cmpL xs ys=0<;>simp [h]
end
section
attribute [local simp] Qc Qw Qm QN Qu
theorem Cat.Sh.size2 {c:Cat} (hs:c.Sh):c.ok∧c.size≤2000:=by
 have h0:=hs.n8;have h1:=hs.li;have h2:=hs.m40;have hr:∀ xs∈c.cs,xs.length≤40:=by
  intro xs hx;obtain ⟨i,hi,rfl⟩:=List.getElem_of_mem hx;rw [Q1N _ _ hi,hs.row' (by omega) (by have:=hs.lc;omega)];exact h2
 have hb:∀ {l:List (List Int)},(∀ xs∈l,xs.length≤40)→sumL l≤l.length * 40:=by
  intro l
  induction l with
  | nil=>intro _;simp [sumL]
  | cons x r ih =>
   intro h;have h1:=ih fun xs hx=>h xs (List.mem_cons_of_mem _ hx);have h2:=h x (by simp);simp only [sumL,List.map_cons,List.sum_cons,List.length_cons] at h1 ⊢;rw [Nat.add_mul];omega
 have h3:=hb hr;have h4:=hs.lc;have h5:=hs.lt;have:c.cs.length * 40≤40 * 40:=Nat.mul_le_mul_right _ (by omega);refine ⟨⟨by omega,by omega,by omega,by omega,fun xs hx=>by have:=hr xs hx;omega,by omega⟩,?_⟩;simp only [Cat.size];omega
end
section
attribute [local simp] Qc Qw Qm QN Qu
@[simp] theorem ze93:elm Try.prog 156=some 4:=by kernel_rfl
@[simp] theorem z4:tyi Try.prog 4=some ⟨false,1,1,[.bool false]⟩:=by kernel_rfl
def bsF (f:List Int) (n:Nat):Nat→List Bool
 | 0=>List.replicate n false
 | i+1=>(bsF f n i).set (ix f i).toNat true
@[simp] theorem Q7c (f:List Int) (n:Nat):∀ i,(bsF f n i).length=n:=by
 intro i
 induction i with
 | zero=>simp [bsF]
 | succ i ih=>simp [bsF,ih]
def mkF (bs:List Bool) (i:Nat):List Int:=((List.range i).filter fun k=>bs.getD k false).map fun k:Nat=>(k:Int)
theorem mkF_succ (bs:List Bool) (i:Nat):mkF bs (i+1)=mkF bs i++(if bs.getD i false=true then [(i:Int)] else []):=by
 simp only [mkF,List.range_succ,List.filter_append,List.map_append]
 congr 1
 cases h:bs.getD i false
 ·rw [List.filter_cons_of_neg (by rw [h];decide)];rfl
 rw [List.filter_cons_of_pos (by rw [h])];rfl
theorem mkF_len (bs:List Bool):∀ i,(mkF bs i).length≤i:=by
 intro i;simp only [mkF,List.length_map];exact Nat.le_trans (List.length_filter_le _ _) (by simp)
def imgL (n:Nat) (f:List Int):List Int:=mkF (bsF f n f.length) n
theorem bsF_get (f:List Int) (n:Nat) (hf:∀ y,y<f.length→0≤ix f y∧ix f y<n):∀ i,i≤f.length→∀ k,k<n→((bsF f n i).getD k false=true↔∃ y,y<i∧ix f y=k):=by
 intro i
 induction i with
 | zero=>intro _ k hk;simp [bsF,List.getD_eq_getElem?_getD,hk]
 | succ i ih =>
  intro hi k hk;obtain ⟨h1,h2⟩:=hf i (by omega);simp only [bsF,List.getD_eq_getElem?_getD,List.getElem?_set]
  by_cases h:(ix f i).toNat=k
  ·rw [if_pos h,if_pos (by rw [Q7c];omega)];simp only [Option.getD_some,true_iff];exact ⟨i,by omega,by omega⟩
  rw [if_neg h,← List.getD_eq_getElem?_getD,ih (by omega) k hk];constructor
  ·rintro ⟨y,hy,e⟩;exact ⟨y,by omega,e⟩
  rintro ⟨y,hy,e⟩
  refine ⟨y,?_,e⟩;rcases Nat.lt_or_ge y i with q|q
  ·exact q
  have:y=i:=by omega
  subst this;omega
theorem count_add (p q:Nat→Bool) (a:Nat) (h1:p a=false) (h2:∀ k,q k=(p k || decide (k=a))):∀ n,((List.range n).filter q).length=((List.range n).filter p).length+(if a<n then 1 else 0):=by
 intro n
 induction n with
 | zero=>simp
 | succ n ih =>
  simp only [List.range_succ,List.filter_append,List.length_append,ih,List.filter_cons,List.filter_nil,h2 n]
  by_cases h:n=a
  ·subst h;simp [h1]
  have:(a<n+1)↔(a<n):=by omega
  simp only [h,decide_false,Bool.or_false,this];cases p n<;>simp<;>omega
def cnt (n:Nat) (f:List Int):Nat:=((List.range n).filter fun k:Nat=>decide ((k:Int)∈f)).length
theorem Q6N {n:Nat} {a:Int} {f:List Int} (h0:0≤a) (h1:a<n):cnt n (a :: f)=cnt n f+(if a∈f then 0 else 1):=by
 by_cases h:a∈f
 ·simp only [cnt,if_pos h,Nat.add_zero]
  congr 1
  apply List.filter_congr;intro k _;simp only [List.mem_cons,decide_eq_decide];constructor
  ·rintro (rfl|q)
   ·exact h
   exact q
  exact .inr
 simp only [cnt,if_neg h];have:=count_add (fun k:Nat=>decide ((k:Int)∈f)) (fun k:Nat=>decide ((k:Int)∈a :: f)) a.toNat (by
  simp only [decide_eq_false_iff_not,Int.toNat_of_nonneg h0];exact h) (fun k=>by
  rw [Bool.eq_iff_iff];simp only [List.mem_cons,decide_eq_true_eq,Bool.or_eq_true];constructor
  ·rintro (q|q)
   ·exact .inr (by omega)
   exact .inl q
  rintro (q|q)
  ·exact .inr q
  exact .inl (by omega)) n
 rw [this,if_pos (by omega)]
theorem cnt_le {n:Nat}:∀ {f:List Int},(∀ y∈f,0≤y∧y<(n:Int))→cnt n f≤f.length:=by
 intro f
 induction f with
 | nil=>intro _;simp [cnt]
 | cons a f ih =>
  intro h;have h1:=h a (by simp);have h2:=ih fun y hy=>h y (List.mem_cons_of_mem _ hy);rw [Q6N h1.1 h1.2];simp only [List.length_cons];split<;>omega
theorem Q4b {n:Nat}:∀ {f:List Int},(∀ y∈f,0≤y∧y<(n:Int))→(cnt n f=f.length↔f.Nodup):=by
 intro f
 induction f with
 | nil=>intro _;simp [cnt]
 | cons a f ih =>
  intro h;have h1:=h a (by simp);have h2:=ih fun y hy=>h y (List.mem_cons_of_mem _ hy);have h3:=cnt_le fun y hy=>h y (List.mem_cons_of_mem _ hy);rw [Q6N h1.1 h1.2,List.nodup_cons,← h2];simp only [List.length_cons]
  by_cases q:a∈f
  ·rw [if_pos q];constructor
   ·intro e;omega
   intro e;exact absurd q e.1
  rw [if_neg q];constructor
  ·intro e;exact ⟨q,by omega⟩
  intro e;omega
theorem Q50 {n:Nat} {f:List Int} (hf:∀ y∈f,0≤y∧y<(n:Int)):(imgL n f).length=cnt n f:=by
 simp only [imgL,mkF,cnt,List.length_map]
 congr 1
 apply List.filter_congr;intro k hk;have hk':k<n:=by simpa using hk
 have h1:=bsF_get f n (fun y hy=>by
  rw [← Q16 _ _ hy];exact hf _ (List.getElem_mem hy)) f.length (Nat.le_refl _) k hk'
 rw [Bool.eq_iff_iff,h1,decide_eq_true_eq];constructor
 ·rintro ⟨y,hy,e⟩
  rw [← e,← Q16 _ _ hy];exact List.getElem_mem hy
 intro q;obtain ⟨y,hy,e⟩:=List.getElem_of_mem q;exact ⟨y,hy,by rw [← Q16 _ _ hy];exact e⟩
def SM.Inv (m:SM):Prop:=∀ x:Nat,x<m.p.length→((rx m.p x).length:Int)=ix m.t.sz x∧(rx m.p x).Nodup
def SM.I1 (m:SM):Prop:=∀ x:Nat,x<m.p.length→(imgL (ix m.t.sz x).toNat (rx m.p x)).length=(rx m.p x).length
def SM.I2 (m:SM):Prop:=∀ x:Nat,x<m.p.length→((imgL (ix m.t.sz x).toNat (rx m.p x)).length:Int)=ix m.t.sz x
theorem SM.inv_iff {m:SM} (hm:m.Sh):m.Inv↔m.I1∧m.I2:=by
 have hv:∀ x:Nat,x<m.p.length→∀ y∈rx m.p x,0≤y∧y<((ix m.t.sz x).toNat:Int):=by
  intro x hx y hy;have:=(hm.pt x hx).2 y hy;simp only [inR,Bool.and_eq_true,decide_eq_true_eq] at this;omega
 constructor
 ·intro h;refine ⟨fun x hx=>?_,fun x hx=>?_⟩
  ·rw [Q50 (hv x hx)];exact (Q4b (hv x hx)).2 (h x hx).2
  rw [Q50 (hv x hx),(Q4b (hv x hx)).2 (h x hx).2];exact (h x hx).1
 rintro ⟨h1,h2⟩ x hx
 have a1:=h1 x hx;have a2:=h2 x hx;refine ⟨by omega,(Q4b (hv x hx)).1 ?_⟩;rw [← Q50 (hv x hx)];exact a1
theorem SM.Inv.vals {m:SM} (hm:m.Sh) {x:Nat} (hx:x<m.p.length) (hl:((rx m.p x).length:Int)=ix m.t.sz x):∀ y:Nat,y<(rx m.p x).length→0≤ix (rx m.p x) y∧ix (rx m.p x) y<((rx m.p x).length:Int):=by
 intro y hy;have:=(hm.part' (j:=x) (by omega) (by omega)).2 y (by omega) (by omega);omega
def Bs (bs:List Bool):List (List AV):=bs.map fun b=>[.val (.bool b)]
@[simp] theorem Bs_length (bs:List Bool):(Bs bs).length=bs.length:=by simp [Bs]
@[simp] theorem Bs_at' (bs:List Bool) (i:Nat) (h:i<(Bs bs).length):(Bs bs)[i]=[.val (.bool (bs[i]'(by simpa using h)))]:=by simp [Bs]
@[simp] theorem Bs_set (bs:List Bool) (i:Nat) (b:Bool):(Bs bs).set i [.val (.bool b)]=Bs (bs.set i b):=by simp [Bs,List.map_set]
@[simp] theorem Bs_rep (n:Nat) (b:Bool):List.replicate n [.val (.bool b)]=Bs (List.replicate n b):=by simp [Bs]
theorem iq72 (u:Bool) (xs:List Int) (n:Int):Contract Try.prog 117 [.lst u 1 (Is xs),iV n] (.val (.bool (bo (n∈xs)))):=by
 refine Qe (rs:=[.val (.bool (bo (n∈xs)))]) Try.func117 rfl rfl rfl rfl (by simp [Try.f117]) fun F hN hP=>?_;refine Q3s 0 fun h0=>?_;simp at h0;obtain ⟨hl0,hb0⟩:=h0.is;refine srQ hN fun K hK=>?_;simp;refine hK _ ?_;clear hK K;refine Q0 (srQ hN fun K hK=>?_);simp;refine hK _ (Q7 (QT (fun i:Nat=>⟨[(0,.lst u 1 (Is xs)),(1,iV n),(5,iV i)],[],0⟩) (fun i=>i≤xs.length∧∀ y:Nat,y<i→ix xs y ≠ n) (fun i=>xs.length - i) 0 (by simp) (Wk.cut (by simp) (by simp) rfl) ?_));clear hK K
 rintro i ⟨hi,ht⟩
 refine Q0 (srQ hN fun K hK=>?_);simp;refine hK _ ?_;clear hK K;refine Q8 rfl (fun h=>?_) fun h=>?_
 ·simp at h;refine Q9 (Q0 (Q7 (srQ hN fun K hK=>?_)));simp [h,Q16];refine hK _ ?_;clear hK K;refine Q8 rfl (fun h2=>?_) fun h2=>?_
  ·simp at h2;refine srQ hN fun K hK=>?_;simp;refine hK _ (Qj (Qh rfl (bo_t ?_)));clear hK K;rw [← h2,← Q16 _ _ h];exact List.getElem_mem h
  simp at h2;refine Q9 (runQ hN fun K hK=>?_);simp;refine hK _ ?_;clear hK K;rw [Qp (n:=xs.length) (by omega) (by omega)];refine ⟨i+1,⟨by omega,QQ ht h2⟩,by dsimp only;omega,(Wk.relabel [] (by simp) (by simp) (by rw [hP];simp) (by simp) (by simp) (by simp) (by simp))⟩
 simp at h;have hi2:i=xs.length:=by omega
 refine Qr ?_;simp;refine srQ hN fun K hK=>?_;simp;refine hK _ (Qj (Qh rfl (bo_f fun hm=>?_)));clear hK K;obtain ⟨y,hy,e⟩:=List.getElem_of_mem hm;exact ht y (by omega) (by rw [← Q16 _ _ hy];exact e)
theorem iq86 (u:Bool) (bs:List Bool) (hb:bs.length≤1048576):Contract Try.prog 130 [.lst u 1 (Bs bs)] (lI (mkF bs bs.length)):=by
 refine Qe (rs:=[lI (mkF bs bs.length)]) Try.func130 rfl rfl rfl rfl (by simp [Try.f130]) fun F hN hP=>?_;refine srQ hN fun K hK=>?_;simp;refine hK _ ?_;clear hK K;refine srQ hN fun K hK=>?_;simp;refine hK _ ?_;clear hK K;refine Q0 (srQ hN fun K hK=>?_);simp;refine hK _ (Q7 (QT (fun i:Nat=>⟨[(3,.own 0 0 (mkF bs i).length),(7,.lst u 1 (Bs bs)),(8,iV bs.length),(9,iV i)],[(0,rI (mkF bs i))],1⟩) (fun i=>i≤bs.length) (fun i=>bs.length - i) 0 (by simp) (Wk.nils [] (by simp) (by simp) (by simp [nlA,mkF]) (by simp [entN,mkF]) (by simp)) ?_));clear hK K;intro i hi;refine srQ hN fun K hK=>?_;simp;refine hK _ ?_;clear hK K;refine Q0 (Q8 rfl (fun h=>?_) fun h=>?_)
 ·simp at h;have hm:=mkF_succ bs i;have hml:=mkF_len bs i;rw [List.getD_eq_getElem?_getD,List.getElem?_eq_getElem h,Option.getD_some] at hm;refine Q9 (Q0 (Q7 (srQ hN fun K hK=>?_)));simp [h];refine hK _ ?_;clear hK K;refine srQ hN fun K hK=>?_;simp;refine hK _ ?_;clear hK K;refine Q8 rfl (fun h2=>?_) fun h2=>?_
  ·rw [if_pos h2] at hm;refine runQ hN fun K hK=>?_;simp;refine ⟨by omega,hK _ ?_⟩;clear hK K;refine runQ hN fun K hK=>?_;simp;refine hK _ ?_;clear hK K;rw [Qp (n:=bs.length) (by omega) (by omega)];refine ⟨i+1,by omega,by dsimp only;omega,?_⟩;dsimp only;rw [hm];exact Wk.relabel [(2,0)] (by simp) (by simp) (by rw [hP];simp) (by simp) (by simp) (by simp) (by simp [List.take_of_length_le (l:=Is (mkF bs i)) (i:=(mkF bs i).length) (by simp),Is_snoc])
  rw [if_neg (by simp [h2])] at hm;refine Q9 (runQ hN fun K hK=>?_);simp;refine hK _ ?_;clear hK K;rw [Qp (n:=bs.length) (by omega) (by omega)];refine ⟨i+1,by omega,by dsimp only;omega,?_⟩;dsimp only;rw [hm,List.append_nil];exact Wk.relabel [(0,0)] (by simp) (by simp) (by rw [hP];simp) (by simp) (by simp) (by simp) (by simp)
 simp at h;have hi2:i=bs.length:=by omega
 subst hi2;refine Qr ?_;simp;refine srQ hN fun K hK=>?_;simp;refine hK _ ?_;clear hK K;refine Qj (Q3B rfl rfl (by simp) rfl)
end
end Go.Vc.T
