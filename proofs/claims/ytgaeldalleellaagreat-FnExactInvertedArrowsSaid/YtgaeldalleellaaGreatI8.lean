/- A part of the proof. -/
import Derived.Test.YtgaeldalleellaaGreatI7
import Derived.Test.YtgaeldalleellaaGreatProg
set_option maxRecDepth 100000
set_option maxHeartbeats 4000000
set_option linter.unusedSimpArgs false
set_option linter.unusedVariables false
set_option linter.unusedSectionVars false
set_option linter.unnecessarySimpa false

open List renaming getD_eq_getElem?_getD→qB
open Option.some renaming inj→yJ
open List renaming length_append→qD
open Go.Vc.Ctl renaming ret→yK
open List renaming replicate→zF
open List renaming getElem?_eq_getElem→qF
open Classical renaming byContradiction→yL
open Go.Vc.Ctl renaming next→yM
open Go.Vc.UpL renaming refl→yN
open List renaming length_cons→qH
open List renaming length_nil→zS
open Nat renaming lt_or_ge→zM
open List renaming range→zW
open List renaming getElem_of_mem→zX
open List renaming map_cons→qK
open List renaming getElem_mem→zY
open List renaming take_succ_eq_append_getElem→yO
open List renaming take_of_length_le→yP
open List renaming mem_cons_of_mem→zJ
open List renaming append_nil→yQ
noncomputable section
namespace Go.Vc.T
open Go Go.Vc Go.Proofs
section
attribute [local simp] Qa QD Qo
@[simp] theorem e22:elm Tryz.prog 22=some 2:=by kernel_rfl
@[simp] theorem y2:tyi Tryz.prog 2=some ⟨false,1,8,[.int .i64 0]⟩:=by kernel_rfl
theorem mo:Tryz.prog.follows .mixedOrders=true:=by kernel_rfl
def idQ:Nat→List (Nat×Nat)
  |0=>[]
  |n+1=>idQ n++[(n,n)]
abbrev nS:AV:=.val (.slice none 0 0)
abbrev iV(x:Int):AV:=.val (.int .i64 x)
abbrev lI(x:List Int):AV:=.lst true 1 (Is x)
abbrev rI(x:List Int):Ent:=.row 1 (Is x)
theorem gQ{p:Prop}(k:p:=by first|(simp;done)|(simp at g;done)|simpa using g|(simp at g;exact g)|(simp at g;omega)):p:=k
theorem sdQ{a b:Prop}(h:b)(k:a:=by first|assumption|omega|(simp;done)|(simp;omega)|simp_all):a∧b:=⟨k,h⟩
theorem srQ{F:Fx}{AQ:Exit→St→Prop}{st:St}{id:Nat}{ops:Array Oper}{d:Bool}{y:Code}{n:Nat}(hN:F.N=n)(h:∀K:St→Prop,(∀st',Wp Tryz.prog F y AQ st'→K st')→Q1e Tryz.prog false ops ops.toList st K)(hok:(okN n ops&&(!d||(Q4V false ops&&Q2g ops)))=true:=by decide):Wp Tryz.prog F (.seq (.region id ops d) y) AQ st:=w_sr mo (by rw[hN];exact hok) h
theorem runQ{F:Fx}{AQ:Exit→St→Prop}{st:St}{id:Nat}{ops:Array Oper}{d:Bool}{n:Nat}(hN:F.N=n)(h:∀K:St→Prop,(∀st',AQ .normal st'→K st')→Q1e Tryz.prog false ops ops.toList st K)(hok:(okN n ops&&(!d||(Q4V false ops&&Q2g ops)))=true:=by decide):Wp Tryz.prog F (.region id ops d) AQ st:=w_run mo (by rw[hN];exact hok) h
theorem rbQ{F:Fx}{st st':St}(hP:F.pins=0)(m:List (Nat×Nat))(h1:(m.map Prod.fst).Nodup:=by simp)(h2:(m.map Prod.snd).Nodup:=by simp)(hn:∀p∈m,p.2<st'.n:=by simp)(hok:∀p∈st'.h,p.1<st'.n:=by simp)(hs:∀p∈st'.s,p.2=rl m (st.get p.1)∨p.2= .bot:=by simp)(hh:∀p∈st'.h,∃i e,look i m=some p.1∧look i st.h=some e∧rlE m e=some p.2:=by simp):Wk F st st':=Wk.relabel m h1 h2 (by rw[hP];simp) hn hok hs hh
theorem whQ{h:HP}{id n u sz es}(hc:cont h depth id=some (sz,es):=by rfl)(hm:Qq (h id)=false:=by rfl)(hn:n=es.length:=by simp):PurTo h (.own id 0 n) (.lst u sz es):=.whole hc hm hn
@[simp] theorem q2:eqT Tryz.prog 2=0:=by kernel_rfl
@[simp] theorem q3:eqT Tryz.prog 3=0:=by kernel_rfl
theorem QaN{xs ys:List Int}{i:Nat}(h1:i<xs.length)(h2:i<ys.length)(h:ys.take i=xs.take i):(ys.set i xs[i]).take (i+1)=xs.take (i+1):=by
 rw[yO h1,yO (by simpa using h2),List.take_set_of_le (Nat.le_refl _),h];simp
theorem Q9Q{xs ys:List Int}{i:Nat}(h1:i<xs.length)(h2:i<ys.length)(h:xs.take i=ys.take i)(he:xs[i]=ys[i]):xs.take (i+1)=ys.take (i+1):=by
 rw[yO h1,yO h2,h,he]
theorem c29(ux uy:Bool)(xs ys:List Int):Contract Tryz.prog 12 [.lst ux 1 (Is xs),.lst uy 1 (Is ys)] (.val (.bool (decide (xs=ys)))):=by
 refine Qk (rs:=[.val (.bool (decide (xs=ys)))]) Tryz.func12 rfl rfl rfl rfl (by simp[Tryz.f12]) λF hN hP=>?_;refine Q5E 0 λh0=>?_;simp at h0;obtain⟨hl0,hb0⟩:=h0.is;refine srQ hN λK hK=>?_;simp;refine hK _ ?_;clear hK K;refine Q0 (w_sr mo (by rw[hN];decide) λK hK=>?_);simp;refine hK _ (Q6 rfl (λh=>?_) λh=>?_)<;>clear hK K
 ·simp at h;refine srQ hN λK hK=>?_;simp;refine hK _ (Qi (Qw rfl ?_));clear hK K;simp
  rintro rfl;exact h rfl
 simp at h;refine Q7 ?_;simp only[Q4F];refine Q0 (w_sr mo (by rw[hN];decide) λK hK=>?_);simp;refine hK _ (Q5 ?_);clear hK K;refine Q1w (λi:Nat=>⟨[(0,.lst ux 1 (Is xs)),(1,.lst uy 1 (Is ys)),(5,iV i)],[],0⟩) (λi=>i≤xs.length∧xs.take i=ys.take i) (λi=>xs.length - i) 0 (by simp) (Wk.cut (by simp) rfl rfl) ?_
 rintro i ⟨hi,hti⟩
 refine Q0 (w_sr mo (by rw[hN];decide) λK hK=>?_);simp;refine hK _ (Q6 rfl (λh=>?_) λh=>?_)<;>clear hK K
 ·simp at h;refine Q7 ?_;simp only[Q4F];refine Q0 (Q5 (w_sr mo (by rw[hN];decide) λK hK=>?_));have h2:i<ys.length:=by omega
  simp[h,h2];refine hK _ (Q6 rfl (λh=>?_) λh=>?_)<;>clear hK K
  ·simp at h;refine srQ hN λK hK=>?_;simp;refine hK _ (Qi (Qw rfl ?_));clear hK K;simp
   rintro rfl;exact h rfl
  simp at h;refine Q7 ?_;simp;refine runQ hN λK hK=>?_;simp;refine hK _ ?_;clear hK K;refine⟨i+1,⟨by omega,Q9Q (by omega) h2 hti h⟩,by dsimp only;omega,Wk.cut ?_ rfl rfl⟩;rw[QE (n:=xs.length) (by omega) hl0];simp
 simp at h;refine Qj ?_;simp;refine srQ hN λK hK=>?_;simp;refine hK _ (Qi (Qw rfl ?_));clear hK K;rw[yP (by omega),yP (by omega)]at hti;simp[hti]
theorem c19(u:Bool)(xs:List Int)(hx:xs.length≤1048576):Contract Tryz.prog 8 [.lst u 1 (Is xs)] (lI xs):=by
 refine Qk (rs:=[lI xs]) Tryz.func8 rfl rfl rfl rfl (by simp[Tryz.f8]) λF hN hP=>?_;refine srQ hN λK hK=>?_;simp;refine hK _ ?_;clear hK K;refine srQ hN λK hK=>?_;simp;refine⟨?_,hK _ ?_⟩<;>clear hK K
 ·omega
 refine Q0 (w_sr mo (by rw[hN];decide) λK hK=>?_);simp;refine hK _ (Q5 ?_);clear hK K;refine Q1w (λp:Nat×List Int=>⟨[(0,.lst u 1 (Is xs)),(3,.own 0 0 xs.length),(4,iV p.1)],[(0,rI p.2)],1⟩) (λp=>p.1≤xs.length∧p.2.length=xs.length∧p.2.take p.1=xs.take p.1) (λp=>xs.length - p.1) (0,zF xs.length 0) (by simp) (Wk.cut (by simp) (by simp) rfl) ?_
 rintro ⟨i,ys⟩ ⟨hi,hy,ht⟩
 simp at hi hy ht;refine Q0 (w_sr mo (by rw[hN];decide) λK hK=>?_);simp;refine hK _ (Q6 rfl (λh=>?_) λh=>?_)<;>clear hK K
 ·simp at h;refine Q7 ?_;simp only[Q4F];refine Q0 (Q5 (w_run mo (by rw[hN];decide) λK hK=>?_));have h2:i<ys.length:=by omega
  simp[h,hy];refine hK _ ?_;clear hK K;simp;refine runQ hN λK hK=>?_;simp;refine hK _ ?_;clear hK K;rw[QE (n:=xs.length) (by omega) (by omega)];refine⟨(i+1,ys.set i xs[i]),⟨by dsimp only;omega,by simp[hy],?_⟩,by dsimp only;omega,Wk.cut (by simp) (by simp) rfl⟩;exact QaN h h2 ht
 simp at h;refine Qj ?_;simp;refine srQ hN λK hK=>?_;simp;refine hK _ (Qi (Q5m rfl rfl ?_ ?_))<;>clear hK K
 ·simp[hy]
 rw[yP (by omega),yP (by omega)]at ht;rw[ht]
def run(k:Int):Nat→List Int
 |0=>[]
 |n+1=>k::run (k+1) n
@[simp] theorem run_length(n:Nat):∀k,(run k n).length=n:=by
 induction n with
 |zero=>intro k;rfl
 |succ n ih=>intro k;simp[run,ih]
theorem Q9G(n:Nat):∀(k:Int) (i:Nat) (h:i<n),(run k n)[i]'(by simpa using h)=k+i:=by
 induction n with
 |zero=>intro k i h;omega
 |succ n ih=>
  intro k i h;cases i with
  |zero=>simp[run]
  |succ i=>simp only[run,List.getElem_cons_succ];rw[ih (k+1) i (by omega)];push_cast;omega
theorem m32(xs:List Int)(k:Int)(h1:xs.length≤1048576)(h2:0≤k)(h3:k≤1152921504606846976):
  MContract Tryz.prog 14 [.own 0 0 xs.length,iV k] [⟨1,Is xs,Is (run k xs.length)⟩] (iV (k+xs.length)):=by
 refine Q30 (ts:=[4]) (rv:=.int .i64 (k+xs.length)) Tryz.func14 rfl rfl ?_ rfl (by simp[Tryz.f14]) ?_ λF hN hP=>?_
 ·have:(-9223372036854775808≤k+xs.length)∧k+xs.length≤9223372036854775807:=by omega
  simp[resV,this]
 ·intro j hj;simp at hj;subst hj;simp
 refine srQ hN λK hK=>?_;simp;refine hK _ ?_;clear hK K;refine Q0 (w_sr mo (by rw[hN];decide) λK hK=>?_);simp;refine hK _ (Q5 ?_);clear hK K;refine Q1w (λp:Nat×List Int=>⟨[(0,.own 0 0 xs.length),(1,iV (k+p.1)),(5,iV p.1)],[(0,rI p.2)],1⟩) (λp=>p.1≤xs.length∧p.2.length=xs.length∧p.2.take p.1=(run k xs.length).take p.1) (λp=>xs.length - p.1) (0,xs) (by simp) (Wk.cut (by simp) (by simp[Q6f]) rfl) ?_
 rintro ⟨i,ys⟩ ⟨hi,hy,ht⟩
 simp at hi hy ht;refine Q0 (w_sr mo (by rw[hN];decide) λK hK=>?_);simp;refine hK _ (Q6 rfl (λh=>?_) λh=>?_)<;>clear hK K
 ·simp at h;refine Q7 ?_;simp only[Q4F];refine Q0 (Q5 (w_sr mo (by rw[hN];decide) λK hK=>?_));simp[h,hy];refine hK _ ?_;clear hK K;refine runQ hN λK hK=>?_;simp;refine hK _ ?_;clear hK K;simp;refine runQ hN λK hK=>?_;simp;refine hK _ ?_;clear hK K;rw[QE (n:=xs.length) (by omega) (by omega),Qg ⟨by omega,by omega⟩];refine⟨(i+1,ys.set i (k+i)),⟨by dsimp only;omega,by simp[hy],?_⟩,by dsimp only;omega,Wk.cut (by simp[Int.add_assoc]) (by simp) rfl⟩;have hr:=Q9G xs.length k i h;have:=QaN (xs:=run k xs.length) (ys:=ys) (i:=i) (by simpa using h) (by omega) ht;rw[hr]at this;exact this
 simp at h;refine Qj ?_;simp;refine srQ hN λK hK=>?_;simp;refine hK _ (Qi ?_);clear hK K;have hi':i=xs.length:=by omega
 subst hi';rw[yP (by omega),yP (by simp)]at ht;subst ht;refine⟨?_,?_⟩
 ·simp[resOk]
 intro j hj;simp at hj;subst hj;simp
def Ls(xss:List (List Int)):List (List AV):=xss.map λxs=>[lI xs]
@[simp] theorem Ls_length(xss:List (List Int)):(Ls xss).length=xss.length:=by simp[Ls]
theorem QM(xss:List (List Int))(i:Nat)(h:i<xss.length):(Ls xss)[i]? =some [lI xss[i]]:=by simp[Ls,h]
attribute [local simp] QM
theorem Qx(xss:List (List Int))(i:Nat)(h:i<(Ls xss).length):(Ls xss)[i]=[lI (xss[i]'(by simpa using h))]:=by simp[Ls]
attribute [local simp] Qx
@[simp] theorem Ls_set(xss:List (List Int))(i:Nat)(x:List Int):(Ls xss).set i [lI x]=Ls (xss.set i x):=by simp[Ls,List.map_set]
@[simp] theorem e23:elm Tryz.prog 23=some 22:=by kernel_rfl
@[simp] theorem y22:tyi Tryz.prog 22=some ⟨false,1,24,[.slice none 0 0]⟩:=by kernel_rfl
def sumL(xss:List (List Int)):Nat:=(xss.map List.length).sum
def runs(k:Int):List (List Int)→List (List Int)
 |[]=>[]
 |xs::r=>run k xs.length::runs (k+xs.length) r
@[simp] theorem runs_length(xss:List (List Int)):∀k,(runs k xss).length=xss.length:=by
 induction xss with
 |nil=>intro k;rfl
 |cons xs r ih=>intro k;simp[runs,ih]
theorem sumL_take(xss:List (List Int)):∀(i:Nat) (h:i<xss.length),sumL (xss.take (i+1))=sumL (xss.take i)+xss[i].length:=by
 induction xss with
 |nil=>intro i h;simp at h
 |cons xs r ih=>
  intro i h;cases i with
  |zero=>simp[sumL]
  |succ i=>
   have:=ih i (by simpa using h);simp only[sumL,List.take_succ_cons,qK,List.sum_cons,List.getElem_cons_succ]at this⊢;omega
theorem sumL_le(xss:List (List Int)):∀(i:Nat),sumL (xss.take i)≤sumL xss:=by
 induction xss with
 |nil=>intro i;simp[sumL]
 |cons xs r ih=>
  intro i;cases i with
  |zero=>simp[sumL]
  |succ i=>
   have:=ih i;simp only[sumL,List.take_succ_cons,qK,List.sum_cons]at this⊢;omega
theorem runs_get(xss:List (List Int)):∀(k:Int) (i:Nat) (h:i<xss.length),(runs k xss)[i]'(by simpa using h)=run (k+sumL (xss.take i)) xss[i].length:=by
 induction xss with
 |nil=>intro k i h;simp at h
 |cons xs r ih=>
  intro k i h;cases i with
  |zero=>simp[runs,sumL]
  |succ i=>
   simp only[runs,List.getElem_cons_succ];rw[ih _ i (by simpa using h)];simp only[sumL,List.take_succ_cons,qK,List.sum_cons]
   push_cast
   rw[Int.add_assoc]
theorem set_takeL{xs ys:List (List Int)}{i:Nat}(h1:i<xs.length)(h2:i<ys.length)(h:ys.take i=xs.take i):(ys.set i xs[i]).take (i+1)=xs.take (i+1):=by
 rw[yO h1,yO (by simpa using h2),List.take_set_of_le (Nat.le_refl _),h];simp
theorem m33(xss:List (List Int))(k:Int)(h1:xss.length≤1048576)(h1':∀xs∈xss,xs.length≤1048576)(h2:0≤k)(h3:k+sumL xss≤1152921504606846976):
  MContract Tryz.prog 28 [.own 0 0 xss.length,iV k] [⟨1,Ls xss,Ls (runs k xss)⟩] (iV (k+sumL xss)):=by
 refine Q30 (ts:=[4]) (rv:=.int .i64 (k+sumL xss)) Tryz.func28 rfl rfl ?_ rfl (by simp[Tryz.f28]) ?_ λF hN hP=>?_
 ·have:(-9223372036854775808≤k+sumL xss)∧k+sumL xss≤9223372036854775807:=by omega
  simp[resV,this]
 ·intro j hj;simp at hj;subst hj;simp
 refine srQ hN λK hK=>?_;simp;refine hK _ ?_;clear hK K;refine Q0 (w_sr mo (by rw[hN];decide) λK hK=>?_);simp;refine hK _ (Q5 ?_);clear hK K;refine Q1w (λp:Nat×List (List Int)=>⟨[(0,.own 0 0 xss.length),(1,iV (k+sumL (xss.take p.1))),(5,iV p.1)],[(0,.row 1 (Ls p.2))],1⟩) (λp=>p.1≤xss.length∧p.2.length=xss.length∧p.2.take p.1=(runs k xss).take p.1∧p.2.drop p.1=xss.drop p.1) (λp=>xss.length - p.1) (0,xss) (by simp) (Wk.cut (by simp[sumL]) (by simp[Q6f]) rfl) ?_
 rintro ⟨i,ys⟩ ⟨hi,hy,ht,hd⟩
 simp at hi hy ht hd;refine Q0 (w_sr mo (by rw[hN];decide) λK hK=>?_);simp;refine hK _ (Q6 rfl (λh=>?_) λh=>?_)<;>clear hK K
 ·simp at h;have hiy:i<ys.length:=by omega
  have he:ys[i]=xss[i]:=by
   have h5:=congrArg (λl=>l[0]?) hd;simpa[h,hiy]using h5
  refine Q7 ?_;simp only[Q4F];refine Q0 (Q5 (w_runM mo (by rw[hN];decide) λK hK=>?_));simp[h,hy];have hs1:=sumL_take xss i h;have hs2:=sumL_le xss (i+1);refine Q5W (m:=[1]) (m32 xss[i] (k+sumL (xss.take i)) (h1' _ (zY h)) (by omega) (by omega)) (MCall.cell (i:=i) (r:=0) (k:=0) (szr:=1) (esr:=Ls ys) (dels:=[1]) rfl rfl (by simp[hiy]) (by simp) (by simp[hiy]) (by simp[hiy,he]) (by simp) (by simp[Q8F])) rfl ?_ ?_ ?_
  ·intro q hq
   match q,hq with
   |0,_=>
    show MArg [1] (.own 1 0 ys[i].length) (.own 0 0 xss[i].length);rw[he];exact .own (j:=0) (by simp)
   |1,_=>exact .val
  ·intro j hj;have hj0:j=0:=(by simpa using hj);subst hj0;exact⟨0,by simp,by simp[Occ]⟩
  simp[hiy];refine hK _ ?_;clear hK K;refine runQ hN λK hK=>?_;simp;refine hK _ ?_;clear hK K;rw[QE (n:=xss.length) (by omega) (by omega)];refine⟨(i+1,ys.set i (run (k+sumL (xss.take i)) xss[i].length)),⟨by dsimp only;omega,by simp[hy],?_,?_⟩,by dsimp only;omega,Wk.relabel [(0,0)] (by simp) (by simp) (by rw[hP];simp) (by simp) (by simp) ?_ ?_⟩
  ·have:=set_takeL (xs:=runs k xss) (ys:=ys) (i:=i) (by simpa using h) hiy ht;rw[runs_get xss k i h]at this;exact this
  ·dsimp only;rw[List.drop_set_of_lt (by omega)];have:=congrArg (List.drop 1) hd;simpa[List.drop_drop,Nat.add_comm]using this
  ·simp[hs1,Int.add_assoc,rl]
  simp[rlE]
 simp at h;refine Qj ?_;simp;refine srQ hN λK hK=>?_;simp;refine hK _ (Qi ?_);clear hK K;have hi':i=xss.length:=by omega
 subst hi';rw[yP (by omega),yP (by simp)]at ht;subst ht;refine⟨?_,?_⟩
 ·simp[resOk]
 intro j hj;simp at hj;subst hj;simp
theorem c46(x a b:Int):Contract Tryz.prog 102 [iV x,iV a,iV b] (.val (.bool (decide (a≤x)&&decide (x≤b)))):=by
 refine Qk (rs:=[.val (.bool (decide (a≤x)&&decide (x≤b)))]) Tryz.func102 rfl rfl rfl rfl (by simp[Tryz.f102]) λF hN hP=>?_;refine srQ hN λK hK=>?_;simp;refine hK _ ?_;clear hK K;refine srQ hN λK hK=>?_;simp;refine⟨λh=>hK _ (Qi (Qw rfl ?_)),λh=>hK _ (Qi (Qw rfl ?_))⟩<;>clear hK K
 ·simp[h]
 simp;omega
def inR(n:Int)(x:Int):Bool:=decide (0≤x)&&decide (x≤n - 1)
theorem Qa2{p:Int→Bool}{xs:List Int}{i:Nat}(h:i<xs.length)(h1:(xs.take i).all p=true)(h2:p xs[i]=true):(xs.take (i+1)).all p=true:=by
 rw[yO h,List.all_append,h1];simp[h2]
theorem Q9C{p:Int→Bool}{xs:List Int}{i:Nat}(h:i<xs.length)(h2:p xs[i]=false):xs.all p=false:=by
 rw[List.all_eq_false];exact⟨xs[i],zY h,by simp[h2]⟩
theorem c22(u:Bool)(xs:List Int)(n:Int)(hn:B64 (n - 1)):Contract Tryz.prog 86 [.lst u 1 (Is xs),iV n] (.val (.bool (xs.all (inR n)))):=by
 refine Qk (rs:=[.val (.bool (xs.all (inR n)))]) Tryz.func86 rfl rfl rfl rfl (by simp[Tryz.f86]) λF hN hP=>?_;refine Q5E 0 λh0=>?_;simp at h0;obtain⟨hl0,hb0⟩:=h0.is;refine srQ hN λK hK=>?_;simp;refine hK _ ?_;clear hK K;refine Q0 (srQ hN λK hK=>?_);simp;refine hK _ (Q5 (Q1w (λi:Nat=>⟨[(0,.lst u 1 (Is xs)),(1,iV n),(7,.lst u 1 (Is xs)),(8,iV xs.length),(9,iV i)],[],0⟩) (λi=>i≤xs.length∧(xs.take i).all (inR n)=true) (λi=>xs.length - i) 0 (by simp) (Wk.cut (by simp) rfl rfl) ?_));clear hK K
 rintro i ⟨hi,ht⟩
 refine srQ hN λK hK=>?_;simp;refine hK _ ?_;clear hK K;refine Q0 (Q6 rfl (λh=>?_) λh=>?_)
 ·simp at h;refine Q7 (Q0 (Q5 (srQ hN λK hK=>?_)));simp[h];refine hK _ ?_;clear hK K;refine srQ hN λK hK=>?_;simp;refine Q3 (c46 xs[i] 0 (n - 1)) ?_ ?_
  ·rw[Qg hn];exact .cons .val (.cons .val (.cons .val .nil))
  simp[unk,unA,unE,flat];refine hK _ ?_;clear hK K;refine Q6 rfl (λh2=>?_) λh2=>?_
  ·refine srQ hN λK hK=>?_;simp;refine hK _ (Qi (Qw rfl ?_));clear hK K;simp at h2;rw[Q9C h (by simp[inR];omega)]
  refine Q7 (runQ hN λK hK=>?_);simp;refine hK _ ?_;clear hK K;rw[QE (n:=xs.length) (by omega) hl0];refine⟨i+1,⟨by omega,Qa2 h ht (by simpa[inR]using h2)⟩,by dsimp only;omega,rbQ hP []⟩
 simp at h;refine Qj ?_;simp;refine srQ hN λK hK=>?_;simp;refine hK _ (Qi (Qw rfl ?_));clear hK K;rw[yP (by omega)]at ht;rw[ht]
def held(k:Int)(xs:List Int):Int:=if xs=run k xs.length then k+xs.length else -1
theorem QaL(n:Nat):∀(k:Int) (i:Nat),i≤n→(run k n).take i=run k i:=by
 induction n with
 |zero=>
  intro k i h;have:i=0:=by omega
  subst this;rfl
 |succ n ih=>
  intro k i h;cases i with
  |zero=>rfl
  |succ i=>simp[run,ih (k+1) i (by omega)]
theorem c53(u:Bool)(xs:List Int)(k:Int)(h1:xs.length≤1048576)(h2:0≤k)(h3:k≤1152921504606846976):Contract Tryz.prog 19 [.lst u 1 (Is xs),iV k] (iV (held k xs)):=by
 refine Qk (rs:=[iV (held k xs)]) Tryz.func19 rfl rfl rfl rfl (by simp[Tryz.f19]) λF hN hP=>?_;refine srQ hN λK hK=>?_;simp;refine hK _ ?_;clear hK K;refine Q0 (srQ hN λK hK=>?_);simp;refine hK _ (Q5 (Q1w (λp:Nat=>⟨[(0,.lst u 1 (Is xs)),(1,iV (k+p)),(5,iV p)],[],0⟩) (λp=>p≤xs.length∧xs.take p=run k p) (λp=>xs.length - p) 0 (by simp[run]) (Wk.cut (by simp) (by simp) rfl) ?_));clear hK K
 rintro i ⟨hi,ht⟩
 refine Q0 (srQ hN λK hK=>?_);simp;refine hK _ ?_;clear hK K;refine Q6 rfl (λh=>?_) λh=>?_
 ·simp at h;refine Q7 (Q0 (Q5 (Q0 (srQ hN λK hK=>?_))));simp[h];refine hK _ ?_;clear hK K;refine Q6 rfl (λh4=>?_) λh4=>?_
  ·simp at h4;refine srQ hN λK hK=>?_;simp;refine hK _ (Qi (Qw rfl ?_));clear hK K;rw[held,if_neg];intro he;have:=congrArg (λl=>l[i]?) he;simp only[qF h]at this;rw[qF (by simpa using h),Q9G _ _ _ h]at this;simp at this;omega
  simp at h4;refine Q7 (runQ hN λK hK=>?_);simp;refine hK _ ?_;clear hK K;refine runQ hN λK hK=>?_;simp;refine hK _ ?_;clear hK K;rw[QE (n:=xs.length) (by omega) (by omega),Qg ⟨by omega,by omega⟩];refine⟨i+1,⟨by omega,?_⟩,by dsimp only;omega,Wk.cut (by simp[Int.add_assoc]) (by simp) rfl⟩;have e1:xs.take (i+1)=(run k xs.length).take (i+1):=by
   refine Q9Q h (by simpa using h) (by rw[ht,QaL _ _ _ hi]) (by rw[Q9G _ _ _ h];exact h4)
  rw[e1,QaL _ _ _ (by omega)]
 simp at h;refine Qj ?_;simp;refine srQ hN λK hK=>?_;simp;refine hK _ ?_;clear hK K;have hi':i=xs.length:=by omega
 subst hi';refine Qi (Qw rfl ?_);rw[yP (by omega)]at ht;rw[held,if_pos ht]
@[simp] theorem fld29_0:fld Tryz.prog 27 0=some (0,1,false):=by kernel_rfl
@[simp] theorem fld29_1:fld Tryz.prog 27 1=some (1,1,false):=by kernel_rfl
@[simp] theorem fld29_2:fld Tryz.prog 27 2=some (2,1,false):=by kernel_rfl
@[simp] theorem fld29_3:fld Tryz.prog 27 3=some (3,1,false):=by kernel_rfl
@[simp] theorem fld29_4:fld Tryz.prog 27 4=some (4,1,false):=by kernel_rfl
@[simp] theorem y23:tyi Tryz.prog 23=some ⟨false,1,24,[.slice none 0 0]⟩:=by kernel_rfl
structure Cat where
 n:Int
 fr:List Int
 to:List Int
 id:List Int
 cs:List (List Int)
def Cat.mu(c:Cat)(k:Int):List Mu:=
 [⟨1,Is c.fr,Is (run k c.fr.length)⟩,⟨1,Is c.to,Is (run (k+c.fr.length) c.to.length)⟩,⟨1,Is c.id,Is (run (k+c.fr.length+c.to.length) c.id.length)⟩,
  ⟨1,Ls c.cs,Ls (runs (k+c.fr.length+c.to.length+c.id.length) c.cs)⟩]
def Cat.ok(c:Cat):Prop:=c.fr.length≤1048576∧c.to.length≤1048576∧c.id.length≤1048576∧c.cs.length≤1048576∧(∀xs∈c.cs,xs.length≤1048576)∧sumL c.cs≤1099511627776
def Cat.size(c:Cat):Nat:=c.fr.length+c.to.length+c.id.length+sumL c.cs
theorem m31(c:Cat)(k:Int)(hc:c.ok)(h2:0≤k)(h3:k≤576460752303423488):
  MContract Tryz.prog 13 [.agg [iV c.n,.own 0 0 c.fr.length,.own 1 0 c.to.length,.own 2 0 c.id.length,.own 3 0 c.cs.length],iV k] (c.mu k) (iV (k+c.fr.length+c.to.length+c.id.length+sumL c.cs)):=by
 obtain⟨hc1,hc2,hc3,hc4,hc5,hc6⟩:=hc;refine Q30 (ts:=[4]) (rv:=.int .i64 (k+c.fr.length+c.to.length+c.id.length+sumL c.cs)) Tryz.func13 rfl rfl ?_ rfl (by simp[Tryz.f13]) ?_ λF hN hP=>?_
 ·have:(-9223372036854775808≤k+c.fr.length+c.to.length+c.id.length+sumL c.cs)∧k+c.fr.length+c.to.length+c.id.length+sumL c.cs≤9223372036854775807:=by omega
  simp[resV,this]
 ·intro j hj;simp only[Cat.mu,qH,zS]at hj
  match j,hj with
  |0,_=>simp[Cat.mu]
  |1,_=>simp[Cat.mu]
  |2,_=>simp[Cat.mu]
  |3,_=>simp[Cat.mu]
 refine srQ hN λK hK=>?_;simp[Q6f,Cat.mu];refine hK _ ?_;clear hK K;refine Q9Z mo (by rw[hN];decide) λK hK=>?_;simp;refine Q2S (m32 c.fr k hc1 h2 (by omega)) rfl (by simp) ?_;simp;refine hK _ ?_;clear hK K;refine Q9Z mo (by rw[hN];decide) λK hK=>?_;simp;refine Q2S (m32 c.to (k+c.fr.length) hc2 (by omega) (by omega)) rfl (by simp) ?_;simp;refine hK _ ?_;clear hK K;refine Q9Z mo (by rw[hN];decide) λK hK=>?_;simp;refine Q2S (m32 c.id (k+c.fr.length+c.to.length) hc3 (by omega) (by omega)) rfl (by simp) ?_;simp;refine hK _ ?_;clear hK K;refine Q9Z mo (by rw[hN];decide) λK hK=>?_;simp;refine Q2S (m33 c.cs (k+c.fr.length+c.to.length+c.id.length) hc4 hc5 (by omega) (by omega)) rfl (by simp) ?_;simp;refine hK _ ?_;clear hK K;refine srQ hN λK hK=>?_;simp;refine hK _ ?_;clear hK K;refine Qi ⟨?_,?_⟩
 ·simp
 intro j hj;simp only[Cat.mu,qH,zS]at hj
 match j,hj with
 |0,_=>simp[Cat.mu]
 |1,_=>simp[Cat.mu]
 |2,_=>simp[Cat.mu]
 |3,_=>simp[Cat.mu]
def Part(done:List (List AV))(n i:Nat)(z:List AV):List (List AV):=done++zF (n - i) z
theorem Part.at{done:List (List AV)}{n i:Nat}{z:List AV}(hi:i<n)(hd:done.length=i):(Part done n i z)[i]? =some z:=by
 rw[Part,List.getElem?_append_right (by omega),hd,Nat.sub_self,List.getElem?_replicate,if_pos (by omega)]
theorem Part.next{done:List (List AV)}{n i:Nat}{x z:List AV}(hi:i<n)(hd:done.length=i):(Part done n i z).set i x=Part (done++[x]) n (i+1) z:=by
 rw[Part,List.set_append_right _ _ (by omega),hd,Nat.sub_self,show n - i=(n - (i+1))+1 by omega,List.replicate_succ,List.set_cons_zero];simp[Part]
theorem Part.length{done:List (List AV)}{n i:Nat}{z:List AV}(hi:i≤n)(hd:done.length=i):(Part done n i z).length=n:=by simp[Part];omega
theorem Q9d{xss:List (List Int)}{i:Nat}(h:i<xss.length):Ls (xss.take i)++[[lI xss[i]]]=Ls (xss.take (i+1)):=by
 rw[yO h,Ls,Ls,List.map_append];rfl
theorem c20(u:Bool)(xss:List (List Int))(hx:xss.length≤1048576)(hx':∀xs∈xss,xs.length≤1048576):Contract Tryz.prog 24 [.lst u 1 (Ls xss)] (.lst true 1 (Ls xss)):=by
 refine Qk (rs:=[.lst true 1 (Ls xss)]) Tryz.func24 rfl rfl rfl rfl (by simp[Tryz.f24]) λF hN hP=>?_;refine srQ hN λK hK=>?_;simp;refine hK _ ?_;clear hK K;refine srQ hN λK hK=>?_;simp;refine⟨by omega,hK _ ?_⟩;clear hK K;refine Q0 (srQ hN λK hK=>?_);simp;refine hK _ (Q5 (Q1w (λi:Nat=>⟨[(0,.lst u 1 (Ls xss)),(3,.own 0 0 xss.length),(4,iV i)],[(0,.row 1 (Part (Ls (xss.take i)) xss.length i [nS]))],1⟩) (λi=>i≤xss.length) (λi=>xss.length - i) 0 (by simp) (Wk.cut (by simp) (by simp[Part,Ls]) rfl) ?_));clear hK K;intro i hi;refine Q0 (srQ hN λK hK=>?_);simp;refine hK _ ?_;clear hK K;refine Q6 rfl (λh=>?_) λh=>?_
 ·simp at h;have hd:(Ls (xss.take i)).length=i:=by simp;omega
  have hat:=Part.at (z:=[nS]) h hd;have hlen:=Part.length (z:=[nS]) hi hd;refine Q7 (Q0 (Q5 (runQ hN λK hK=>?_)));simp[h];refine Q3 (c19 u xss[i] (hx' _ (zY h))) (.cons .lst .nil) ?_;simp[unk,unA,unE,flat,h];refine stoA_row [] y22 rfl (b:=.lst true 1 (Is xss[i])) (ds:=[1]) rfl (by simp) (by omega) (by simp) (by simp) (by simp) (by simp) ?_;simp[hat];refine hK _ ?_;clear hK K;refine runQ hN λK hK=>?_;simp;refine hK _ ?_;clear hK K;rw[QE (n:=xss.length) (by omega) (by omega),Part.next h hd,Q9d h];refine⟨i+1,by omega,by dsimp only;omega,rbQ hP [(0,0)]⟩
 simp at h;refine Qj ?_;simp;refine srQ hN λK hK=>?_;simp;refine hK _ ?_;clear hK K;have hi':i=xss.length:=by omega
 subst hi';refine Qi (Q5m rfl rfl ?_ ?_)
 ·simp[Part]
 simp[Part]
@[simp] theorem fld25_0:fld Tryz.prog 25 0=some (0,1,false):=by kernel_rfl
@[simp] theorem fld25_1:fld Tryz.prog 25 1=some (1,1,false):=by kernel_rfl
@[simp] theorem fld25_2:fld Tryz.prog 25 2=some (2,1,false):=by kernel_rfl
@[simp] theorem fld25_3:fld Tryz.prog 25 3=some (3,1,false):=by kernel_rfl
@[simp] theorem fld25_4:fld Tryz.prog 25 4=some (4,1,false):=by kernel_rfl
@[simp] theorem y29:tyi Tryz.prog 27=some ⟨true,5,104,[.int .i64 0,.slice none 0 0,.slice none 0 0,.slice none 0 0,.slice none 0 0]⟩:=by kernel_rfl
def Cat.av(u:Bool)(c:Cat):AV:=.agg [iV c.n,.lst u 1 (Is c.fr),.lst u 1 (Is c.to),.lst u 1 (Is c.id),.lst u 1 (Ls c.cs)]
theorem c18(c:Cat)(u:Bool)(hc:c.ok):Contract Tryz.prog 7 [c.av u] (c.av true):=by
 obtain⟨hc1,hc2,hc3,hc4,hc5,hc6⟩:=hc;refine Q2a Tryz.func7 rfl rfl y29 rfl rfl (by simp[Tryz.f7]) λF hN hP=>?_;refine srQ hN λK hK=>?_;simp[Cat.av];refine hK _ ?_;clear hK K;refine srQ hN λK hK=>?_;simp;refine hK _ ?_;clear hK K;refine srQ hN λK hK=>?_;simp;refine hK _ ?_;clear hK K;refine srQ hN λK hK=>?_;simp;refine Q3 (c19 u c.fr hc1) (.cons .lst .nil) ?_;simp[unk,unA,unE,flat];refine hK _ ?_;clear hK K;refine srQ hN λK hK=>?_;simp;refine Q3 (c19 u c.to hc2) (.cons .lst .nil) ?_;simp[unk,unA,unE,flat];refine hK _ ?_;clear hK K;refine srQ hN λK hK=>?_;simp;refine Q3 (c19 u c.id hc3) (.cons .lst .nil) ?_;simp[unk,unA,unE,flat];refine hK _ ?_;clear hK K;refine srQ hN λK hK=>?_;simp;refine Q3 (c20 u c.cs hc4 hc5) (.cons .lst .nil) ?_;simp[unk,unA,unE,flat];refine hK _ ?_;clear hK K;refine srQ hN λK hK=>?_;simp;refine hK _ (Qi ⟨_,_,_,_,_,rfl,rfl,by simp,by simp,?_⟩);clear hK K;exact⟨.agg rfl .nil,[iV c.n,lI c.fr,lI c.to,lI c.id,.lst true 1 (Ls c.cs)],[3,4,5,6],by simp,by simp,yN _⟩
def less(left:Int)(n:Nat):Int:=if left - n<0 then -1 else left - n
theorem c14(u:Bool)(xs:List Int)(l:Int)(h1:0≤l)(h2:l≤1048576):Contract Tryz.prog 20 [.lst u 1 (Is xs),iV l] (iV (less l xs.length)):=by
 refine Qk (rs:=[iV (less l xs.length)]) Tryz.func20 rfl rfl rfl rfl (by simp[Tryz.f20]) λF hN hP=>?_;refine Q5E 0 λh0=>?_;simp at h0;obtain⟨hl0,hb0⟩:=h0.is;refine srQ hN λK hK=>?_;simp;refine hK _ ?_;clear hK K;refine srQ hN λK hK=>?_;simp;rw[Qg ⟨by omega,by omega⟩];refine hK _ ?_;clear hK K;refine Q0 (srQ hN λK hK=>?_);simp;refine hK _ ?_;clear hK K;refine Q6 rfl (λh=>?_) λh=>?_
 ·simp at h;refine srQ hN λK hK=>?_;simp;refine hK _ (Qi (Qw rfl ?_));clear hK K;rw[less,if_pos (by omega)]
 simp at h;refine Q7 (srQ hN λK hK=>?_);simp;refine hK _ (Qi (Qw rfl ?_));clear hK K;rw[less,if_neg (by omega)]
def Q7N(l:Int):List (List Int)→Int
 |[]=>l
 |xs::r=>if less l xs.length<0 then -1 else Q7N (less l xs.length) r
def Q4v(l:Int)(xss:List (List Int)):Int:=if l - xss.length<0 then -1 else Q7N (l - xss.length) xss
theorem Qan{u:Bool}{sz:Nat}{es:List (List AV)}(h:Good (.lst u sz es)):es.length≤9223372036854775807:=by
 cases h with
 |lst h1=>exact Nat.le_trans h1 (by decide)
 |other h=>exact h.elim
theorem c15(u:Bool)(xss:List (List Int))(l:Int)(h1:0≤l)(h2:l≤1048576):Contract Tryz.prog 21 [.lst u 1 (Ls xss),iV l] (iV (Q4v l xss)):=by
 refine Qk (rs:=[iV (Q4v l xss)]) Tryz.func21 rfl rfl rfl rfl (by simp[Tryz.f21]) λF hN hP=>?_;refine Q5E 0 λh0=>?_;simp at h0;have hl0:=Qan h0;simp at hl0;refine srQ hN λK hK=>?_;simp;refine hK _ ?_;clear hK K;refine srQ hN λK hK=>?_;simp;rw[Qg ⟨by omega,by omega⟩];refine hK _ ?_;clear hK K;refine Q0 (srQ hN λK hK=>?_);simp;refine hK _ ?_;clear hK K;refine Q6 rfl (λh=>?_) λh=>?_
 ·simp at h;refine srQ hN λK hK=>?_;simp;refine hK _ (Qi (Qw rfl ?_));clear hK K;rw[Q4v,if_pos (by omega)]
 simp at h;refine Q7 (Q0 (srQ hN λK hK=>?_));simp;refine hK _ (Q5 (Q1w (λp:Nat×Int=>⟨[(0,.lst u 1 (Ls xss)),(1,iV p.2),(5,iV p.1)],[],0⟩) (λp=>p.1≤xss.length∧0≤p.2∧p.2≤1048576∧Q7N p.2 (xss.drop p.1)=Q4v l xss) (λp=>xss.length - p.1) (0,l - xss.length) ⟨by simp,by dsimp only;omega,by dsimp only;omega,by rw[Q4v,if_neg (by omega)];rfl⟩ (Wk.cut (by simp) (by simp) rfl) ?_));clear hK K
 rintro ⟨i,q⟩ ⟨hi,hq1,hq2,hq3⟩
 simp only at hi hq1 hq2 hq3;refine Q0 (srQ hN λK hK=>?_);simp;refine hK _ ?_;clear hK K;refine Q6 rfl (λh=>?_) λh=>?_
 ·simp at h;rw[List.drop_eq_getElem_cons h,Q7N]at hq3;refine Q7 (Q0 (Q5 (srQ hN λK hK=>?_)));simp[h];refine Q3 (c14 u xss[i] q hq1 hq2) (.cons .lst (.cons .val .nil)) ?_;simp[unk,unA,unE,flat];refine hK _ ?_;clear hK K;refine srQ hN λK hK=>?_;simp;refine hK _ ?_;clear hK K;refine Q6 rfl (λh3=>?_) λh3=>?_
  ·simp at h3;refine srQ hN λK hK=>?_;simp;refine hK _ (Qi (Qw rfl ?_));clear hK K;rw[if_pos h3]at hq3;rw[hq3]
  simp at h3;rw[if_neg (by omega)]at hq3;refine Q7 (runQ hN λK hK=>?_);simp;refine hK _ ?_;clear hK K;rw[QE (n:=xss.length) (by omega) (by omega)];have hle:less q xss[i].length≤1048576:=by unfold less;split<;>omega
  refine⟨(i+1,less q xss[i].length),⟨by dsimp only;omega,h3,hle,hq3⟩,by dsimp only;omega,rbQ hP []⟩
 simp at h;refine Qj ?_;simp;refine srQ hN λK hK=>?_;simp;refine hK _ ?_;clear hK K;rw[List.drop_eq_nil_of_le (by omega),Q7N]at hq3;refine Qi (Qw rfl ?_);rw[hq3]
def nn(a:Int)(f:Int→Int):Int:=if a<0 then -1 else f a
def Q6z(l:Int)(c:Cat):Int:=nn (less l c.fr.length) λa=>nn (less a c.to.length) λb=>nn (less b c.id.length) λd=>nn (Q4v d c.cs) λe=>e
theorem Q9x{l:Int}{n:Nat}(h:l≤1048576):less l n≤1048576:=by unfold less;split<;>omega
theorem c13(u:Bool)(c:Cat)(l:Int)(h1:0≤l)(h2:l≤1048576):Contract Tryz.prog 5 [c.av u,iV l] (iV (Q6z l c)):=by
 refine Qk (rs:=[iV (Q6z l c)]) Tryz.func5 rfl rfl rfl rfl (by simp[Tryz.f5]) λF hN hP=>?_;simp only[Cat.av];refine srQ hN λK hK=>?_;simp;refine hK _ ?_;clear hK K;refine srQ hN λK hK=>?_;simp;refine Q3 (c14 u c.fr l h1 h2) (.cons .lst (.cons .val .nil)) ?_;simp[unk,unA,unE,flat];refine hK _ ?_;clear hK K;refine Q0 (srQ hN λK hK=>?_);simp;refine hK _ ?_;clear hK K;refine Q6 rfl (λg1=>?_) λg1=>?_
 ·simp at g1;refine srQ hN λK hK=>?_;simp;refine hK _ (Qi (Qw rfl ?_));clear hK K;simp only[Q6z,nn];rw[if_pos g1]
 simp at g1;have h3:0≤less l c.fr.length:=g1;have hb1:less l c.fr.length≤1048576:=Q9x (by omega);refine Q7 (srQ hN λK hK=>?_);simp;refine Q3 (c14 u c.to _ h3 hb1) (.cons .lst (.cons .val .nil)) ?_;simp[unk,unA,unE,flat];refine hK _ ?_;clear hK K;refine Q0 (srQ hN λK hK=>?_);simp;refine hK _ ?_;clear hK K;refine Q6 rfl (λg2=>?_) λg2=>?_
 ·simp at g2;refine srQ hN λK hK=>?_;simp;refine hK _ (Qi (Qw rfl ?_));clear hK K;simp only[Q6z,nn];rw[if_neg (Int.not_lt.2 h3),if_pos g2]
 simp at g2;have h4:0≤less (less l c.fr.length) c.to.length:=g2;have hb2:less (less l c.fr.length) c.to.length≤1048576:=Q9x (by omega);refine Q7 (srQ hN λK hK=>?_);simp;refine Q3 (c14 u c.id _ h4 hb2) (.cons .lst (.cons .val .nil)) ?_;simp[unk,unA,unE,flat];refine hK _ ?_;clear hK K;refine Q0 (srQ hN λK hK=>?_);simp;refine hK _ ?_;clear hK K;refine Q6 rfl (λg3=>?_) λg3=>?_
 ·simp at g3;refine srQ hN λK hK=>?_;simp;refine hK _ (Qi (Qw rfl ?_));clear hK K;simp only[Q6z,nn];rw[if_neg (Int.not_lt.2 h3),if_neg (Int.not_lt.2 h4),if_pos g3]
 simp at g3;have h5:0≤less (less (less l c.fr.length) c.to.length) c.id.length:=g3;have hb3:less (less (less l c.fr.length) c.to.length) c.id.length≤1048576:=Q9x (by omega);refine Q7 (srQ hN λK hK=>?_);simp;refine Q3 (c15 u c.cs _ h5 hb3) (.cons .lst (.cons .val .nil)) ?_;simp[unk,unA,unE,flat];refine hK _ ?_;clear hK K;refine Q0 (srQ hN λK hK=>?_);simp;refine hK _ ?_;clear hK K;refine Q6 rfl (λg4=>?_) λg4=>?_
 ·simp at g4;refine srQ hN λK hK=>?_;simp;refine hK _ (Qi (Qw rfl ?_));clear hK K;simp only[Q6z,nn];rw[if_neg (Int.not_lt.2 h3),if_neg (Int.not_lt.2 h4),if_neg (Int.not_lt.2 h5),if_pos g4]
 simp at g4;have h6:0≤Q4v (less (less (less l c.fr.length) c.to.length) c.id.length) c.cs:=g4;refine Q7 (srQ hN λK hK=>?_);simp;refine hK _ (Qi (Qw rfl ?_));clear hK K;simp only[Q6z,nn];rw[if_neg (Int.not_lt.2 h3),if_neg (Int.not_lt.2 h4),if_neg (Int.not_lt.2 h5),if_neg (Int.not_lt.2 h6)]
end
section
attribute [local simp] Qa QD Qo QM Qx
@[simp] theorem y25:tyi Tryz.prog 25=some ⟨true,5,104,[.int .i64 0,.slice none 0 0,.slice none 0 0,.slice none 0 0,.slice none 0 0]⟩:=by kernel_rfl
def Cat.cells(u:Bool)(c:Cat):List AV:=[iV c.n,.lst u 1 (Is c.fr),.lst u 1 (Is c.to),.lst u 1 (Is c.id),.lst u 1 (Ls c.cs)]
theorem Cat.pur{h:HP}{u v:Bool}{c:Cat}:PurL h (c.cells u) (c.cells v):=.cons .val (.cons .lst (.cons .lst (.cons .lst (.cons .lst .nil))))
structure Fn where
 s:Cat
 t:Cat
 ob:List Int
 ar:List Int
def Fn.cells(u:Bool)(f:Fn):List AV:=[iV f.s.n,.lst u 1 (Is f.s.fr),.lst u 1 (Is f.s.to),.lst u 1 (Is f.s.id),.lst u 1 (Ls f.s.cs),iV f.t.n,.lst u 1 (Is f.t.fr),.lst u 1 (Is f.t.to),.lst u 1 (Is f.t.id),.lst u 1 (Ls f.t.cs),.lst u 1 (Is f.ob),.lst u 1 (Is f.ar)]
structure SF where
 s:Cat
 sz:List Int
 ac:List (List Int)
def SF.cells(u:Bool)(f:SF):List AV:=[iV f.s.n,.lst u 1 (Is f.s.fr),.lst u 1 (Is f.s.to),.lst u 1 (Is f.s.id),.lst u 1 (Ls f.s.cs),.lst u 1 (Is f.sz),.lst u 1 (Ls f.ac)]
def Cs(cs:List Cat):List (List AV):=cs.map (Cat.cells true)
def Fs(fs:List Fn):List (List AV):=fs.map (Fn.cells true)
structure Fam where
 b:Cat
 fb:List Cat
 ch:List Fn
def Fam.cells(u:Bool)(f:Fam):List AV:=[iV f.b.n,.lst u 1 (Is f.b.fr),.lst u 1 (Is f.b.to),.lst u 1 (Is f.b.id),.lst u 1 (Ls f.b.cs),.lst u 5 (Cs f.fb),.lst u 12 (Fs f.ch)]
theorem c30(u v:Bool)(xs:List (List Int)):Contract Tryz.prog 27 [.lst u 1 (Ls xs),.lst v 1 (Ls xs)] (.val (.bool true)):=by
 refine Qk (rs:=[.val (.bool true)]) Tryz.func27 rfl rfl rfl rfl (by simp[Tryz.f27]) λF hN hP=>?_;refine Q5E 0 λh0=>?_;have hl0:xs.length≤9223372036854775807:=by simpa using Qan h0
 refine srQ hN λK hK=>?_;simp;refine hK _ ?_;clear hK K;refine Q0 (srQ hN λK hK=>?_);simp;refine hK _ (Q6 rfl (λh=>by simp at h) λ_=>?_);clear hK K;refine Q7 (Q0 (srQ hN λK hK=>?_));simp;refine hK _ (Q5 (Q1w (λi:Nat=>⟨[(0,.lst u 1 (Ls xs)),(1,.lst v 1 (Ls xs)),(5,iV i)],[],0⟩) (λi=>i≤xs.length) (λi=>xs.length - i) 0 (by simp) (Wk.cut (by simp) (by simp) rfl) ?_));clear hK K;intro i hi;refine Q0 (srQ hN λK hK=>?_);simp;refine hK _ ?_;clear hK K;refine Q6 rfl (λh=>?_) λh=>?_
 ·simp at h;refine Q7 (Q0 (Q5 (srQ hN λK hK=>?_)));simp[h];refine Q3 (c29 true true xs[i] xs[i]) (.cons .lst (.cons .lst .nil)) ?_;simp[unk,unA,unE,flat];refine hK _ (Q6 rfl (λh=>by simp at h) λ_=>?_);clear hK K;refine Q7 (runQ hN λK hK=>?_);simp;refine hK _ ?_;clear hK K;rw[QE (n:=xs.length) (by omega) (by omega)];refine⟨i+1,by omega,by dsimp only;omega,rbQ hP []⟩
 simp at h;refine Qj ?_;simp;refine srQ hN λK hK=>?_;simp;refine hK _ ?_;clear hK K;refine Qi (Qw rfl rfl)
theorem c26(u v:Bool)(c:Cat):Contract Tryz.prog 11 [.agg (c.cells u),.agg (c.cells v)] (.val (.bool true)):=by
 refine Qk (rs:=[.val (.bool true)]) Tryz.func11 rfl rfl rfl rfl (by simp[Tryz.f11]) λF hN hP=>?_;refine srQ hN λK hK=>?_;simp[Cat.cells];refine hK _ ?_;clear hK K;refine Q0 (srQ hN λK hK=>?_);simp;refine hK _ (Q6 rfl (λh=>by simp at h) λ_=>?_);clear hK K;refine Q7 (Q0 (srQ hN λK hK=>?_));simp;refine Q3 (c29 u v c.fr c.fr) (.cons .lst (.cons .lst .nil)) ?_;simp[unk,unA,unE,flat];refine hK _ (Q6 rfl (λh=>by simp at h) λ_=>?_);clear hK K;refine Q7 (Q0 (srQ hN λK hK=>?_));simp;refine Q3 (c29 u v c.to c.to) (.cons .lst (.cons .lst .nil)) ?_;simp[unk,unA,unE,flat];refine hK _ (Q6 rfl (λh=>by simp at h) λ_=>?_);clear hK K;refine Q7 (Q0 (srQ hN λK hK=>?_));simp;refine Q3 (c29 u v c.id c.id) (.cons .lst (.cons .lst .nil)) ?_;simp[unk,unA,unE,flat];refine hK _ (Q6 rfl (λh=>by simp at h) λ_=>?_);clear hK K;refine Q7 (Q0 (srQ hN λK hK=>?_));simp;refine Q3 (c30 u v c.cs) (.cons .lst (.cons .lst .nil)) ?_;simp[unk,unA,unE,flat];refine hK _ (Q6 rfl (λh=>by simp at h) λ_=>?_);clear hK K;refine Q7 (srQ hN λK hK=>?_);simp;refine hK _ ?_;clear hK K;refine Qi (Qw rfl rfl)
section
variable {α:Type}(f:Int→α→α)(sz:α→Nat)
end
@[simp] theorem held_run(k:Int)(n:Nat):held k (run k n)=k+n:=by simp[held]
def Cat.mark(k:Int)(c:Cat):Cat:=⟨c.n,run k c.fr.length,run (k+c.fr.length) c.to.length,run (k+c.fr.length+c.to.length) c.id.length,runs (k+c.fr.length+c.to.length+c.id.length) c.cs⟩
theorem c56(x a b:Int):Contract Tryz.prog 111 [iV x,iV a,iV b] (.val (.bool (decide (a≤x)&&decide (x≤b)))):=by
 refine Qk (rs:=[.val (.bool (decide (a≤x)&&decide (x≤b)))]) Tryz.func111 rfl rfl rfl rfl (by simp[Tryz.f111]) λF hN hP=>?_;refine srQ hN λK hK=>?_;simp;refine hK _ ?_;clear hK K;refine srQ hN λK hK=>?_;simp;refine⟨λh=>hK _ (Qi (Qw rfl ?_)),λh=>hK _ (Qi (Qw rfl ?_))⟩<;>clear hK K
 ·simp[h]
 simp;omega
theorem c57(u:Bool)(xs:List Int)(n:Int):Contract Tryz.prog 99 [iV n,.lst u 1 (Is xs)] (.val (.bool (xs.all (inR n)))):=by
 refine Qk (rs:=[.val (.bool (xs.all (inR n)))]) Tryz.func99 rfl rfl rfl rfl (by simp[Tryz.f99]) λF hN hP=>?_;refine Q5E 1 λh0=>?_;simp at h0;obtain⟨hl0,hb0⟩:=h0.is;refine srQ hN λK hK=>?_;simp;refine hK _ ?_;clear hK K;refine Q0 (srQ hN λK hK=>?_);simp;refine hK _ (Q5 (Q1w (λi:Nat=>⟨[(0,iV n),(1,.lst u 1 (Is xs)),(5,iV i)],[],0⟩) (λi=>i≤xs.length∧(xs.take i).all (inR n)=true) (λi=>xs.length - i) 0 (by simp) (Wk.cut (by simp) (by simp) rfl) ?_));clear hK K
 rintro i ⟨hi,ht⟩
 refine Q0 (srQ hN λK hK=>?_);simp;refine hK _ ?_;clear hK K;refine Q6 rfl (λh=>?_) λh=>?_
 ·simp at h;refine Q7 (Q0 (Q5 (srQ hN λK hK=>?_)));simp[h];refine⟨λh1=>hK _ ?_,λh1=>hK _ ?_⟩<;>clear hK K
  ·refine Q6 rfl (λh2=>?_) λh2=>?_
   ·simp at h2;refine srQ hN λK hK=>?_;simp;refine hK _ (Qi (Qw rfl ?_));clear hK K;rw[Q9C h];simp[inR];omega
   simp at h2;refine Q7 (runQ hN λK hK=>?_);simp;refine hK _ ?_;clear hK K;rw[QE (n:=xs.length) (by omega) (by omega)];refine⟨i+1,⟨by omega,Qa2 h ht (by simp[inR];omega)⟩,by dsimp only;omega,Wk.cut (by simp) (by simp) rfl⟩
  refine Q6 rfl (λ_=>?_) λh=>by simp at h
  refine srQ hN λK hK=>?_;simp;refine hK _ (Qi (Qw rfl ?_));clear hK K;rw[Q9C h];simp[inR];omega
 simp at h;refine Qj ?_;simp;have hi':i=xs.length:=by omega
 subst hi';rw[List.take_length]at ht;refine srQ hN λK hK=>?_;simp;refine hK _ (Qi (Qw rfl ?_));clear hK K;rw[ht]
theorem c58(u:Bool)(xs:List Int)(hx:xs.length≤1048576):Contract Tryz.prog 60 [.lst u 1 (Is xs)] (lI xs):=by
 refine Qk (rs:=[lI xs]) Tryz.func60 rfl rfl rfl rfl (by simp[Tryz.f60]) λF hN hP=>?_;refine srQ hN λK hK=>?_;simp;refine hK _ ?_;clear hK K;refine srQ hN λK hK=>?_;simp;refine⟨⟨?_,by omega,by omega⟩,hK _ ?_⟩
 ·intro e he c hc;obtain⟨x,_,rfl⟩:=List.mem_map.1 he;simp at hc;subst hc;rfl
 clear hK K;refine Qi (Q5m rfl rfl (by simp) (by simp))
theorem c47(u:Bool)(xs:List Int)(hx:xs.length≤1048576):Contract Tryz.prog 72 [.lst u 1 (Is xs)] (lI xs):=by
 refine Qk (rs:=[lI xs]) Tryz.func72 rfl rfl rfl rfl (by simp[Tryz.f72]) λF hN hP=>?_;refine srQ hN λK hK=>?_;simp;refine hK _ ?_;clear hK K;refine srQ hN λK hK=>?_;simp;refine⟨⟨?_,by omega,by omega⟩,hK _ ?_⟩
 ·intro e he c hc;obtain⟨x,_,rfl⟩:=List.mem_map.1 he;simp at hc;subst hc;rfl
 clear hK K;refine Qi (Q5m rfl rfl (by simp) (by simp))
theorem c59(u:Bool)(xs:List (List Int))(hx:xs.length≤1048576)(hx':∀x∈xs,x.length≤1048576):Contract Tryz.prog 84 [.lst u 1 (Ls xs)] (.lst true 1 (Ls xs)):=by
 refine Qk (rs:=[.lst true 1 (Ls xs)]) Tryz.func84 rfl rfl rfl rfl (by simp[Tryz.f84]) λF hN hP=>?_;refine srQ hN λK hK=>?_;simp;refine hK _ ?_;clear hK K;refine srQ hN λK hK=>?_;simp;refine hK _ ?_;clear hK K;refine Q0 (srQ hN λK hK=>?_);simp;refine hK _ (Q5 (Q1w (λi:Nat=>⟨[(0,.lst u 1 (Ls xs)),(3,.own 0 0 i),(4,iV i)],[(0,.row 1 (Ls (xs.take i)))],1⟩) (λi=>i≤xs.length) (λi=>xs.length - i) 0 (by simp) (Wk.nils [] (by simp) (by simp) (by simp[nlA]) (by simp[entN,Ls]) (by simp)) ?_));clear hK K;intro i hi;refine Q0 (srQ hN λK hK=>?_);simp;refine hK _ ?_;clear hK K;refine Q6 rfl (λh=>?_) λh=>?_
 ·simp at h;refine Q7 (Q0 (Q5 (runQ hN λK hK=>?_)));simp[h];refine Q3 (c58 true xs[i] (hx' _ (zY h))) (.cons .lst .nil) ?_;simp[unk,unA,unE,flat];refine⟨by omega,hK _ ?_⟩;clear hK K;refine runQ hN λK hK=>?_;simp;refine hK _ ?_;clear hK K;rw[QE (n:=xs.length) (by omega) (by omega)];rw[Nat.min_eq_left hi,yP (l:=Ls (List.take i xs)) (by simp;omega),Q9d h];refine⟨i+1,by omega,by dsimp only;omega,rbQ hP [(3,0)]⟩
 simp at h;refine Qj ?_;simp;refine srQ hN λK hK=>?_;simp;refine hK _ ?_;clear hK K;have hi':i=xs.length:=by omega
 subst hi';refine Qi (Q5m rfl rfl (by simp) (by simp))
theorem c48(u:Bool)(xs:List (List Int))(hx:xs.length≤1048576)(hx':∀x∈xs,x.length≤1048576):Contract Tryz.prog 97 [.lst u 1 (Ls xs)] (.lst true 1 (Ls xs)):=by
 refine Qk (rs:=[.lst true 1 (Ls xs)]) Tryz.func97 rfl rfl rfl rfl (by simp[Tryz.f97]) λF hN hP=>?_;refine srQ hN λK hK=>?_;simp;refine hK _ ?_;clear hK K;refine srQ hN λK hK=>?_;simp;refine⟨by omega,hK _ ?_⟩;clear hK K;refine Q0 (srQ hN λK hK=>?_);simp;refine hK _ (Q5 (Q1w (λi:Nat=>⟨[(0,.lst u 1 (Ls xs)),(3,.own 0 0 i),(9,.lst u 1 (Ls xs)),(10,iV xs.length),(11,iV i)],[(0,.row 1 (Ls (xs.take i)))],1⟩) (λi=>i≤xs.length) (λi=>xs.length - i) 0 (by simp) (Wk.cut (by simp) (by simp[Ls]) rfl) ?_));clear hK K;intro i hi;refine srQ hN λK hK=>?_;simp;refine hK _ ?_;clear hK K;refine Q0 (Q6 rfl (λh=>?_) λh=>?_)
 ·simp at h;refine Q7 (Q0 (Q5 (srQ hN λK hK=>?_)));simp[h];refine hK _ ?_;clear hK K;refine runQ hN λK hK=>?_;simp;refine Q3 (c47 true xs[i] (hx' _ (zY h))) (.cons .lst .nil) ?_;simp[unk,unA,unE,flat];refine⟨by omega,hK _ ?_⟩;clear hK K;refine runQ hN λK hK=>?_;simp;refine hK _ ?_;clear hK K;rw[QE (n:=xs.length) (by omega) (by omega)];rw[Nat.min_eq_left hi,yP (l:=Ls (List.take i xs)) (by simp;omega),Q9d h];refine⟨i+1,by omega,by dsimp only;omega,rbQ hP [(3,0)]⟩
 simp at h;refine Qj ?_;simp;refine srQ hN λK hK=>?_;simp;refine hK _ ?_;clear hK K;have hi':i=xs.length:=by omega
 subst hi';refine Qi (Q5m rfl rfl (by simp) (by simp))
@[simp] theorem pl29:Q40 Tryz.prog 27=some [(0,1),(1,1),(2,1),(3,1),(4,1)]:=by kernel_rfl
@[simp] theorem pl86:Q40 Tryz.prog 105=some [(0,1),(1,1)]:=by kernel_rfl
@[simp] theorem y86:tyi Tryz.prog 105=some ⟨true,2,16,[.int .i64 0,.int .i64 0]⟩:=by kernel_rfl
@[simp] theorem q86:eqT Tryz.prog 105=4:=by kernel_rfl
def iota(n:Nat):List Int:=(zW n).map λi:Nat=>(i:Int)
@[simp] theorem iota_length(n:Nat):(iota n).length=n:=by simp[iota]
theorem Q67(n:Nat):iota (n+1)=iota n++[(n:Int)]:=by simp[iota,List.range_succ]
theorem c61(u:Bool)(c:Cat)(tl:List AV):Contract Tryz.prog 65 [.rptr (c.cells u++tl)] (iV c.fr.length):=by
 refine Qk (rs:=[iV c.fr.length]) Tryz.func65 rfl rfl rfl rfl (by simp[Tryz.f65]) λF hN hP=>?_;refine srQ hN λK hK=>?_;simp[Cat.cells];refine hK _ ?_;clear hK K;refine srQ hN λK hK=>?_;simp[Cat.cells];refine hK _ ?_;clear hK K;refine Qi (Qw rfl rfl)
theorem c67(u:Bool)(xs:List Int)(m n:Int):Contract Tryz.prog 112 [.lst u 1 (Is xs),iV m,iV n] (.val (.bool (decide ((xs.length:Int)=m)&&xs.all (inR n)))):=by
 refine Qk (rs:=[.val (.bool (decide ((xs.length:Int)=m)&&xs.all (inR n)))]) Tryz.func112 rfl rfl rfl rfl (by simp[Tryz.f112]) λF hN hP=>?_;refine srQ hN λK hK=>?_;simp;refine hK _ ?_;clear hK K;refine srQ hN λK hK=>?_;simp;refine⟨λh=>?_,λh=>hK _ (Qi (Qw rfl ?_))⟩
 ·refine Q3 (c57 u xs n) (.cons .val (.cons .lst .nil)) ?_;simp[unk,unA,unE,flat];refine hK _ (Qi (Qw rfl ?_));simp[h]
 simp[h]
theorem c41(u:Bool)(c:Cat)(hc:c.ok):Contract Tryz.prog 59 [.agg (c.cells u)] (.agg (c.cells true)):=by
 obtain⟨hc1,hc2,hc3,hc4,hc5,hc6⟩:=hc;refine Q2a Tryz.func59 rfl rfl y29 rfl rfl (by simp[Tryz.f59]) λF hN hP=>?_;refine srQ hN λK hK=>?_;simp[Cat.cells];refine hK _ ?_;clear hK K;refine srQ hN λK hK=>?_;simp;refine Q3 (c58 u c.fr hc1) (.cons .lst .nil) ?_;simp[unk,unA,unE,unC,flat];refine Q3 (c58 u c.to hc2) (.cons .lst .nil) ?_;simp[unk,unA,unE,unC,flat];refine Q3 (c58 u c.id hc3) (.cons .lst .nil) ?_;simp[unk,unA,unE,unC,flat];refine Q3 (c59 u c.cs hc4 hc5) (.cons .lst .nil) ?_;simp[unk,unA,unE,unC,flat];refine hK _ (Qi ⟨_,_,_,_,_,rfl,rfl,by simp,by simp,?_⟩);clear hK K;exact⟨.agg rfl .nil,[iV c.n,lI c.fr,lI c.to,lI c.id,.lst true 1 (Ls c.cs)],[2,3,4,5],by simp,by simp,yN _⟩
theorem c23(u:Bool)(c:Cat)(tl:List AV)(hc:c.ok):Contract Tryz.prog 71 [.rptr (c.cells u++tl)] (.agg (c.cells true)):=by
 obtain⟨hc1,hc2,hc3,hc4,hc5,hc6⟩:=hc;refine Q2a Tryz.func71 rfl rfl y29 rfl rfl (by simp[Tryz.f71]) λF hN hP=>?_;refine srQ hN λK hK=>?_;simp[Cat.cells];refine hK _ ?_;clear hK K;refine srQ hN λK hK=>?_;simp;refine Q3 (c47 u c.fr hc1) (.cons .lst .nil) ?_;simp[unk,unA,unE,unC,flat];refine Q3 (c47 u c.to hc2) (.cons .lst .nil) ?_;simp[unk,unA,unE,unC,flat];refine Q3 (c47 u c.id hc3) (.cons .lst .nil) ?_;simp[unk,unA,unE,unC,flat];refine Q3 (c48 u c.cs hc4 hc5) (.cons .lst .nil) ?_;simp[unk,unA,unE,unC,flat];refine hK _ (Qi ⟨_,_,_,_,_,rfl,rfl,by simp,by simp,?_⟩);clear hK K;exact⟨.agg rfl .nil,[iV c.n,lI c.fr,lI c.to,lI c.id,.lst true 1 (Ls c.cs)],[1,2,3,4],by simp,by simp,yN _⟩
end
section
attribute [local simp] Qa QD Qo QM Qx
def ix(xs:List Int)(j:Int):Int:=xs.getD j.toNat 0
def rx(xss:List (List Int))(j:Int):List Int:=xss.getD j.toNat []
theorem Q16(xs:List Int)(i:Nat)(h:i<xs.length):xs[i]=ix xs i:=by simp[ix,qB,h]
theorem Q3q(xs:List (List Int))(i:Nat)(h:i<xs.length):xs[i]=rx xs i:=by simp[rx,qB,h]
theorem Q2o(xs:List Int)(j:Int):ix xs (max j 0)=ix xs j:=by simp only[ix];congr 1;omega
theorem Q2G(xs:List (List Int))(j:Int):rx xs (max j 0)=rx xs j:=by simp only[rx];congr 1;omega
theorem Q6W{xs:List Int}{n j:Int}(h:∀x∈xs,inR n x=true)(h0:0≤j)(h1:j<xs.length):0≤ix xs j∧ix xs j<n:=by
 have hj:j.toNat<xs.length:=by omega
 have:=h _ (zY hj);simp only[inR,Bool.and_eq_true,decide_eq_true_eq]at this;simp only[ix,qB,qF hj,Option.getD_some];omega
def Cat.cell(c:Cat)(f g:Nat):Prop:=(ix c.to f≠ix c.fr g→ix (rx c.cs f) g= -1)∧
 (ix c.to f=ix c.fr g→0≤ix (rx c.cs f) g∧ix (rx c.cs f) g<c.fr.length∧ix c.fr (ix (rx c.cs f) g)=ix c.fr f∧ix c.to (ix (rx c.cs f) g)=ix c.to g)
structure Cat.Sh(c:Cat):Prop where
 n0:0≤c.n
 n8:c.n≤8
 m40:c.fr.length≤40
 lt:c.to.length=c.fr.length
 fr:(∀x∈c.fr,inR c.n x=true)
 to:(∀x∈c.to,inR c.n x=true)
 lc:c.cs.length=c.fr.length
 li:(c.id.length:Int)=c.n
 id:(∀x∈c.id,inR c.fr.length x=true)
 ids:∀x:Nat,x<c.id.length→ix c.fr (ix c.id x)=x∧ix c.to (ix c.id x)=x
 rows:∀f:Nat,f<c.fr.length→(rx c.cs f).length=c.fr.length∧∀g:Nat,g<c.fr.length→c.cell f g
open Classical in
def bo(p:Prop):Bool:=decide p
theorem bo_t{p:Prop}(h:p):Value.bool true=Value.bool (bo p):=by simp[bo,h]
theorem bo_f{p:Prop}(h:¬p):Value.bool false=Value.bool (bo p):=by simp[bo,h]
theorem c69(u:Bool)(c:Cat)(tl:List AV)(f g:Int)(h1:0≤f)(h2:f<c.cs.length)(h3:0≤g)(h4:g<(rx c.cs f).length):Contract Tryz.prog 70 [.rptr (c.cells u++tl),iV f,iV g] (iV (ix (rx c.cs f) g)):=by
 refine Qk (rs:=[iV (ix (rx c.cs f) g)]) Tryz.func70 rfl rfl rfl rfl (by simp[Tryz.f70]) λF hN hP=>?_;refine srQ hN λK hK=>?_;simp;refine hK _ ?_;clear hK K;refine srQ hN λK hK=>?_;simp[Cat.cells,Q16,Q3q,Q2o,Q2G,h1,h2,h3,h4];refine hK _ ?_;clear hK K;refine Qi (Qw rfl rfl)
theorem c68(u:Bool)(c:Cat)(tl:List AV)(f:Int)(h1:0≤f)(h2:f<c.fr.length)(h3:f<c.to.length):Contract Tryz.prog 91 [.rptr (c.cells u++tl),iV f] (.agg [iV (ix c.fr f),iV (ix c.to f)]):=by
 refine Q2a Tryz.func91 rfl rfl y86 rfl rfl (by simp[Tryz.f91]) λF hN hP=>?_;refine srQ hN λK hK=>?_;simp;refine hK _ ?_;clear hK K;refine srQ hN λK hK=>?_;simp[Cat.cells,Q16,Q2o,h1,h2,h3];refine hK _ (Qi ⟨_,_,_,_,_,rfl,rfl,by simp,by simp,?_⟩);clear hK K;exact⟨.agg rfl .nil,[iV (ix c.fr f),iV (ix c.to f)],[],by simp,by simp,yN _⟩
theorem yes{C:Prop}(h:C):(true=true↔C):=⟨λ_=>h,λ_=>rfl⟩
def Cat.P1(c:Cat):Prop:=0≤c.n∧c.n≤8∧c.fr.length≤40∧c.to.length=c.fr.length∧(∀x∈c.fr,inR c.n x=true)∧(∀x∈c.to,inR c.n x=true)∧c.cs.length=c.fr.length
def Cat.P2(c:Cat):Prop:=(c.id.length:Int)=c.n∧(∀x∈c.id,inR c.fr.length x=true)
def Cat.row(c:Cat)(f:Nat):Prop:=(rx c.cs f).length=c.fr.length∧∀g:Nat,g<c.fr.length→c.cell f g
theorem Q1j{P:Nat→Prop}{x:Nat}(h:∀y,y<x→P y)(hx:P x):∀y,y<x+1→P y:=by
 intro y hy;rcases zM y x with h1|h1
 ·exact h y h1
 have:y=x:=by omega
 subst this;exact hx
theorem Cat.Sh.P1{c:Cat}(h:c.Sh):c.P1:=⟨h.n0,h.n8,h.m40,h.lt,h.fr,h.to,h.lc⟩
theorem Cat.Sh.P2{c:Cat}(h:c.Sh):c.P2:=⟨h.li,h.id⟩
@[simp] abbrev Y8(a:Cat)(b:Bool)(c:List (Nat×Ent)):List (Nat×Ent):=(0,.mix 5 [[iV a.n,.lst b 1 (Is a.fr),.lst b 1 (Is a.to),.lst b 1 (Is a.id),.lst b 1 (Ls a.cs)]])::c
@[simp] abbrev Y0c(a:Cat)(b:List (Nat×AV)):List (Nat×AV):=(1,.adr 0 0 0)::(3,iV a.fr.length)::b
theorem c63(u:Bool)(c:Cat):Contract Tryz.prog 107 [.agg (c.cells u)] (.val (.bool (bo c.Sh))):=by
 refine Qk (rs:=[.val (.bool (bo c.Sh))]) Tryz.func107 rfl rfl rfl rfl (by simp[Tryz.f107]) λF hN hP=>?_;refine srQ hN λK hK=>?_;simp[Cat.cells];refine hK _ ?_;clear hK K;refine srQ hN λK hK=>?_;simp;refine hK _ ?_;clear hK K;refine Q0 (srQ hN λK hK=>?_);refine join hK (λb=>⟨Y0c c [(43,.val (.bool b))],Y8 c u [],1⟩) (¬c.P1) (λhJ=>?_) λb hb=>?_
 ·simp;refine Q3 (c56 c.n 0 8) (.cons .val (.cons .val (.cons .val .nil))) ?_;simp[unk,unA,unE,flat];refine⟨λa1 a2=>⟨λa3=>?_,λa3=>?_⟩,λa1=>?_⟩
  ·refine Q3 (c67 u c.fr c.fr.length c.n) (.cons .lst (.cons .val (.cons .val .nil))) ?_;simp[unk,unA,unE,flat];refine⟨λa4=>?_,λa4=>?_⟩
   ·refine Q3 (c67 u c.to c.fr.length c.n) (.cons .lst (.cons .val (.cons .val .nil))) ?_;simp[unk,unA,unE,flat];refine⟨λa5 a6=>?_,λa5=>?_⟩
    ·exact hJ ((c.cs.length:Int)!=c.fr.length) (by simp[Cat.P1];grind) _ (rbQ hP [(0,0)])
    intros;exact hJ (true) (yes λhp=>by simp[Cat.P1]at hp;grind) _ (rbQ hP [(0,0)])
   intros;exact hJ (true) (yes λhp=>by simp[Cat.P1]at hp;grind) _ (rbQ hP [(0,0)])
  ·exact hJ (true) (yes λhp=>by have:=hp.2.2.1;omega) _ (rbQ hP [(0,0)])
  exact hJ (true) (yes λhp=>by have:=hp.1;have:=hp.2.1;omega) _ (rbQ hP [(0,0)])
 clear hK K;refine Q6 rfl (λh=>?_) λh=>?_
 ·refine srQ hN λK hK=>?_;simp;refine hK _ (Qi (Qw rfl (bo_f λhs=>?_)));clear hK K;exact hb.1 h hs.P1
 have p1:c.P1:=yL λhn=>by rw[hb.2 hn]at h;cases h
 refine Q7 (Q0 (srQ hN λK hK=>?_));refine join hK (λb=>⟨Y0c c [(56,.val (.bool b))],Y8 c u [],1⟩) (¬c.P2) (λhJ=>?_) λb hb=>?_
 ·simp;refine⟨λa1=>?_,λa1=>?_⟩
  ·refine Q3 (c57 u c.id c.fr.length) (.cons .val (.cons .lst .nil)) ?_;simp[unk,unA,unE,flat];exact hJ (!c.id.all (inR c.fr.length)) (by simp[Cat.P2,a1]) _ (rbQ hP [(0,0)])
  exact hJ (true) (yes λhp=>a1 hp.1) _ (rbQ hP [(0,0)])
 clear hK K;refine Q6 rfl (λh=>?_) λh=>?_
 ·refine srQ hN λK hK=>?_;simp;refine hK _ (Qi (Qw rfl (bo_f λhs=>?_)));clear hK K;exact hb.1 h hs.P2
 have p2:c.P2:=yL λhn=>by rw[hb.2 hn]at h;cases h
 have hl1:c.to.length=c.fr.length:=p1.2.2.2.1;have hl2:c.cs.length=c.fr.length:=p1.2.2.2.2.2.2;have hl3:(c.id.length:Int)=c.n:=p2.1;have hn8:c.n≤8:=p1.2.1;have hm40:c.fr.length≤40:=p1.2.2.1;refine Q7 (Q0 (srQ hN λK hK=>?_));simp;refine hK _ (Q5 (Q1w (λx:Nat=>⟨Y0c c [(4,iV x)],Y8 c u [],1⟩) (λx=>x≤c.id.length∧∀y:Nat,y<x→ix c.fr (ix c.id y)=y∧ix c.to (ix c.id y)=y) (λx=>c.id.length - x) 0 (by simp) (rbQ hP [(0,0)]) ?_));clear hK K
 rintro x ⟨hx,hi0⟩
 refine Q0 (srQ hN λK hK=>?_);simp;refine hK _ ?_;clear hK K;refine Q6 rfl (λh=>?_) λh=>?_
 ·simp at h;have hx1:x<c.id.length:=by omega
  have b1:=Q6W p2.2 (j:=x) (by omega) (by omega);have b2:ix c.id x<c.to.length:=by omega
  refine Q7 (Q0 (Q5 (srQ hN λK hK=>?_)));refine join hK (λb=>⟨Y0c c [(4,iV x),(86,.val (.bool b))],Y8 c u [],1⟩) (¬(ix c.fr (ix c.id x)=x∧ix c.to (ix c.id x)=x)) (λhJ=>?_) λb hb=>?_
  ·simp[Q16,Q3q,Q2o,Q2G,hx1,b1.1,b1.2,b2];refine⟨λa1=>?_,λa1=>?_⟩
   ·exact hJ (ix c.to (ix c.id x)!=x) (by simp[a1]) _ (rbQ hP [(0,0)])
   exact hJ (true) (yes λhp=>a1 hp.1) _ (rbQ hP [(0,0)])
  clear hK K;refine Q6 rfl (λh=>?_) λh=>?_
  ·refine srQ hN λK hK=>?_;simp;refine hK _ (Qi (Qw rfl (bo_f λhs=>?_)));clear hK K;exact hb.1 h (hs.ids x hx1)
  have hc:ix c.fr (ix c.id x)=x∧ix c.to (ix c.id x)=x:=yL λhn=>by rw[hb.2 hn]at h;cases h
  refine Q7 (runQ hN λK hK=>?_);simp;refine hK _ ?_;clear hK K;rw[QE (n:=c.id.length) (by omega) (by omega)];refine⟨x+1,⟨by omega,Q1j hi0 hc⟩,by dsimp only;omega,(rbQ hP [(0,0)])⟩
 simp at h;have hx2:c.id.length≤x:=by omega
 clear h;refine Qj ?_;simp;refine Q0 (srQ hN λK hK=>?_);simp;refine hK _ (Q5 ?_);clear hK K;have hi1:∀y:Nat,y<c.id.length→ix c.fr (ix c.id y)=y∧ix c.to (ix c.id y)=y:=λy hy=>hi0 y (by omega);refine Q1w (λf:Nat=>⟨Y0c c [(5,iV f)],Y8 c u [],1⟩) (λf=>f≤c.fr.length∧∀y:Nat,y<f→c.row y) (λf=>c.fr.length - f) 0 (by simp) (rbQ hP [(0,0)]) ?_
 rintro f ⟨hf,hi2⟩
 refine Q0 (srQ hN λK hK=>?_);simp;refine hK _ ?_;clear hK K;refine Q6 rfl (λh=>?_) λh=>?_
 ·simp at h;have hf1:f<c.fr.length:=h;clear h;refine Q7 (Q0 (Q5 (Q0 (srQ hN λK hK=>?_))));simp[Q16,Q3q,Q2o,Q2G,hl2,hf1];refine hK _ ?_;clear hK K;refine Q6 rfl (λh=>?_) λh=>?_
  ·simp at h;refine srQ hN λK hK=>?_;simp;refine hK _ (Qi (Qw rfl (bo_f λhs=>?_)));clear hK K;exact absurd (hs.rows f hf1).1 (by omega)
  simp at h;have hr:(rx c.cs f).length=c.fr.length:=by omega
  clear h;refine Q7 (srQ hN λK hK=>?_);simp;refine hK _ (Q5 (Q1w (λg:Nat=>⟨Y0c c [(5,iV f),(6,iV g)],Y8 c u [],1⟩) (λg=>g≤c.fr.length∧∀y:Nat,y<g→c.cell f y) (λg=>c.fr.length - g) 0 (by simp) (rbQ hP [(0,0)]) ?_));clear hK K
  rintro g ⟨hg,hi3⟩
  refine Q0 (srQ hN λK hK=>?_);simp;refine hK _ ?_;clear hK K;refine Q6 rfl (λh=>?_) λh=>?_
  ·simp at h;have hg1:g<c.fr.length:=h;clear h;refine Q7 (Q0 (Q5 (srQ hN λK hK=>?_)));simp[Q16,Q3q,Q2o,Q2G,hl2,hf1,hr,hg1];refine hK _ ?_;clear hK K;refine Q0 (srQ hN λK hK=>?_);simp[Q16,Q3q,Q2o,Q2G,hl1,hf1,hg1];refine hK _ ?_;clear hK K;refine Q6 rfl (λh1=>?_) λh1=>?_
   ·simp at h1;refine Q0 (srQ hN λK hK=>?_);simp;refine hK _ ?_;clear hK K;refine Q6 rfl (λh2=>?_) λh2=>?_
    ·simp at h2;refine srQ hN λK hK=>?_;simp;refine hK _ (Qi (Qw rfl (bo_f λhs=>?_)));clear hK K;exact h2 (((hs.rows f hf1).2 g hg1).1 h1)
    simp at h2;have hc:c.cell f g:=⟨λ_=>h2,λe=>absurd e h1⟩;refine Q7 (Qj ?_);simp;refine runQ hN λK hK=>?_;simp;refine hK _ ?_;clear hK K;rw[QE (n:=c.fr.length) (by omega) (by omega)];refine⟨g+1,⟨by omega,Q1j hi3 hc⟩,by dsimp only;omega,(rbQ hP [(0,0)])⟩
   simp at h1;refine Q7 (srQ hN λK hK=>?_);refine join hK (λb=>⟨Y0c c [(5,iV f),(6,iV g),(158,.val (.bool b))],Y8 c u [],1⟩) (¬c.cell f g) (λhJ=>?_) λb hb=>?_
   ·simp +contextual [Q16,Q3q,Q2o,Q2G,hl1,hf1,hg1];have hcell:c.cell f g↔0≤ix (rx c.cs f) g∧ix (rx c.cs f) g<c.fr.length∧ix c.fr (ix (rx c.cs f) g)=ix c.fr f∧ix c.to (ix (rx c.cs f) g)=ix c.to g:=⟨λq=>q.2 h1,λq=>⟨λe=>absurd h1 e,λ_=>q⟩⟩;rw[hcell]at hJ;refine⟨λa1=>⟨λa2=>⟨λa3=>?_,λa3=>?_⟩,λa2=>?_⟩,λa1=>?_⟩
    ·exact hJ (ix c.to (ix (rx c.cs f) g)!=ix c.to g) (by simp[a1,a2,a3]) _ (rbQ hP [(0,0)])
    ·exact hJ (true) (yes λhp=>a3 hp.2.2.1) _ (rbQ hP [(0,0)])
    ·exact hJ (true) (yes λhp=>by omega) _ (rbQ hP [(0,0)])
    exact hJ (true) (yes λhp=>by omega) _ (rbQ hP [(0,0)])
   clear hK K;refine Q6 rfl (λh=>?_) λh=>?_
   ·refine srQ hN λK hK=>?_;simp;refine hK _ (Qi (Qw rfl (bo_f λhs=>?_)));clear hK K;exact hb.1 h ((hs.rows f hf1).2 g hg1)
   have hc:c.cell f g:=yL λhn=>by rw[hb.2 hn]at h;cases h
   refine Q7 (runQ hN λK hK=>?_);simp;refine hK _ ?_;clear hK K;rw[QE (n:=c.fr.length) (by omega) (by omega)];refine⟨g+1,⟨by omega,Q1j hi3 hc⟩,by dsimp only;omega,(rbQ hP [(0,0)])⟩
  simp at h;have hg2:c.fr.length≤g:=by omega
  clear h;refine Qj ?_;simp;refine runQ hN λK hK=>?_;simp;refine hK _ ?_;clear hK K;rw[QE (n:=c.fr.length) (by omega) (by omega)];refine⟨f+1,⟨by omega,Q1j hi2 ⟨hr,λy hy=>hi3 y (by omega)⟩⟩,by dsimp only;omega,(rbQ hP [(0,0)])⟩
 simp at h;have hf2:c.fr.length≤f:=by omega
 clear h;refine Qj ?_;simp;refine srQ hN λK hK=>?_;simp;refine hK _ (Qi (Qw rfl (bo_t ?_)));clear hK K;exact⟨p1.1,p1.2.1,p1.2.2.1,hl1,p1.2.2.2.2.1,p1.2.2.2.2.2.1,hl2,hl3,p2.2,hi1,λy hy=>hi2 y (by omega)⟩
def Cat.Q1(c:Cat):Prop:=0≤c.n∧c.n≤8∧c.fr.length≤40∧c.to.length=c.fr.length∧(∀x∈c.fr,inR c.n x=true)∧(∀x∈c.to,inR c.n x=true)
def Cat.Q2(c:Cat):Prop:=(c.id.length:Int)=c.n∧(∀x∈c.id,inR c.fr.length x=true)∧c.cs.length=c.fr.length
theorem Cat.Sh.Q1{c:Cat}(h:c.Sh):c.Q1:=⟨h.n0,h.n8,h.m40,h.lt,h.fr,h.to⟩
theorem Cat.Sh.Q2{c:Cat}(h:c.Sh):c.Q2:=⟨h.li,h.id,h.lc⟩
@[simp] abbrev Ye(a:Cat)(b:Bool)(c:List AV)(d:List (Nat×AV)):List (Nat×AV):=(0,.rptr (iV a.n::.lst b 1 (Is a.fr)::.lst b 1 (Is a.to)::.lst b 1 (Is a.id)::.lst b 1 (Ls a.cs)::c))::d
theorem c65(u:Bool)(c:Cat)(tl:List AV):Contract Tryz.prog 109 [.rptr (c.cells u++tl)] (.val (.bool (bo c.Sh))):=by
 refine Qk (rs:=[.val (.bool (bo c.Sh))]) Tryz.func109 rfl rfl rfl rfl (by simp[Tryz.f109]) λF hN hP=>?_;simp only[Cat.cells,List.cons_append,List.nil_append];refine srQ hN λK hK=>?_;simp[Cat.cells];refine hK _ ?_;clear hK K;refine srQ hN λK hK=>?_;simp;refine Q3 (c61 u c tl) (.cons .rptr .nil) ?_;simp[unk,unA,unE,flat];refine hK _ ?_;clear hK K;refine Q0 (srQ hN λK hK=>?_);refine join hK (λb=>⟨Ye c u tl [(3,iV c.fr.length),(54,.val (.bool b))],[],0⟩) (¬c.Q1) (λhJ=>?_) λb hb=>?_
 ·simp[Cat.cells];refine Q3 (c46 c.n 0 8) (.cons .val (.cons .val (.cons .val .nil))) ?_;simp[unk,unA,unE,flat];refine⟨λa1 a2=>⟨λa3=>⟨λa7=>?_,λa7=>?_⟩,λa3=>?_⟩,λa1=>?_⟩
  ·refine Q3 (c22 u c.fr c.n ⟨by omega,by omega⟩) (.cons .lst (.cons .val .nil)) ?_;simp[unk,unA,unE,flat];refine⟨λa4=>?_,λa4=>?_⟩
   ·refine Q3 (c22 u c.to c.n ⟨by omega,by omega⟩) (.cons .lst (.cons .val .nil)) ?_;simp[unk,unA,unE,flat];exact hJ (!c.to.all (inR c.n)) (by simp[Cat.Q1];grind) _ (rbQ hP [])
   intros;exact hJ (true) (yes λhp=>by simp[Cat.Q1]at hp;grind) _ (rbQ hP [])
  ·exact hJ (true) (yes λhp=>by have:=hp.2.2.2.1;omega) _ (rbQ hP [])
  ·exact hJ (true) (yes λhp=>by have:=hp.2.2.1;omega) _ (rbQ hP [])
  exact hJ (true) (yes λhp=>by have:=hp.1;have:=hp.2.1;omega) _ (rbQ hP [])
 clear hK K;refine Q6 rfl (λh=>?_) λh=>?_
 ·refine srQ hN λK hK=>?_;simp;refine hK _ (Qi (Qw rfl (bo_f λhs=>?_)));clear hK K;exact hb.1 h hs.Q1
 have p1:c.Q1:=yL λhn=>by rw[hb.2 hn]at h;cases h
 have hm40:c.fr.length≤40:=p1.2.2.1;refine Q7 (Q0 (srQ hN λK hK=>?_));refine join hK (λb=>⟨Ye c u tl [(3,iV c.fr.length),(82,.val (.bool b))],[],0⟩) (¬c.Q2) (λhJ=>?_) λb hb=>?_
 ·simp[Cat.cells];refine⟨λa1=>?_,λa1=>?_⟩
  ·refine Q3 (c22 u c.id c.fr.length ⟨by omega,by omega⟩) (.cons .lst (.cons .val .nil)) ?_;simp[unk,unA,unE,flat];refine⟨λa2=>?_,λa2=>?_⟩
   ·exact hJ ((c.cs.length:Int)!=c.fr.length) (by simp[Cat.Q2];grind) _ (rbQ hP [])
   intros;exact hJ (true) (yes λhp=>by simp[Cat.Q2]at hp;grind) _ (rbQ hP [])
  exact hJ (true) (yes λhp=>a1 hp.1) _ (rbQ hP [])
 clear hK K;refine Q6 rfl (λh=>?_) λh=>?_
 ·refine srQ hN λK hK=>?_;simp;refine hK _ (Qi (Qw rfl (bo_f λhs=>?_)));clear hK K;exact hb.1 h hs.Q2
 have p2:c.Q2:=yL λhn=>by rw[hb.2 hn]at h;cases h
 have hl1:c.to.length=c.fr.length:=p1.2.2.2.1;have hl2:c.cs.length=c.fr.length:=p2.2.2;have hl3:(c.id.length:Int)=c.n:=p2.1;have hn8:c.n≤8:=p1.2.1;refine Q7 (Q0 (srQ hN λK hK=>?_));simp;refine hK _ (Q5 (Q1w (λx:Nat=>⟨Ye c u tl [(3,iV c.fr.length),(86,.lst u 1 (Is c.id)),(87,iV c.id.length),(88,iV x)],[],0⟩) (λx=>x≤c.id.length∧∀y:Nat,y<x→ix c.fr (ix c.id y)=y∧ix c.to (ix c.id y)=y) (λx=>c.id.length - x) 0 (by simp) (rbQ hP []) ?_));clear hK K
 rintro x ⟨hx,hi0⟩
 refine srQ hN λK hK=>?_;simp;refine hK _ ?_;clear hK K;refine Q0 (Q6 rfl (λh=>?_) λh=>?_)
 ·simp at h;have hx1:x<c.id.length:=h;clear h;have b1:=Q6W p2.2.1 (j:=x) (by omega) (by omega);refine Q7 (Q0 (Q5 (srQ hN λK hK=>?_)));simp[Q16,Q3q,Q2o,Q2G,hx1];refine hK _ ?_;clear hK K;refine srQ hN λK hK=>?_;simp;refine Q3 (c68 u c tl (ix c.id x) b1.1 b1.2 (by omega)) (.cons .rptr (.cons .val .nil)) ?_;simp[unk,unA,unE,unC,flat,Qh];refine hK _ ?_;clear hK K;refine Q6 rfl (λh=>?_) λh=>?_
  ·simp at h;refine srQ hN λK hK=>?_;simp;refine hK _ (Qi (Qw rfl (bo_f λhs=>?_)));clear hK K;have:=hs.ids x hx1;simp[this.1,this.2]at h
  simp at h;have hc:ix c.fr (ix c.id x)=x∧ix c.to (ix c.id x)=x:=h;refine Q7 (runQ hN λK hK=>?_);simp;refine hK _ ?_;clear hK K;rw[QE (n:=c.id.length) (by omega) (by omega)];refine⟨x+1,⟨by omega,Q1j hi0 hc⟩,by dsimp only;omega,(rbQ hP [])⟩
 simp at h;have hx2:c.id.length≤x:=by omega
 clear h;refine Qj ?_;simp;refine Q0 (srQ hN λK hK=>?_);simp[hl2];refine hK _ (Q5 ?_);clear hK K;have hi1:∀y:Nat,y<c.id.length→ix c.fr (ix c.id y)=y∧ix c.to (ix c.id y)=y:=λy hy=>hi0 y (by omega);refine Q1w (λf:Nat=>⟨Ye c u tl [(3,iV c.fr.length),(104,.lst u 1 (Ls c.cs)),(105,iV c.fr.length),(106,iV f)],[],0⟩) (λf=>f≤c.fr.length∧∀y:Nat,y<f→c.row y) (λf=>c.fr.length - f) 0 (by simp) (rbQ hP []) ?_
 rintro f ⟨hf,hi2⟩
 refine srQ hN λK hK=>?_;simp;refine hK _ ?_;clear hK K;refine Q0 (Q6 rfl (λh=>?_) λh=>?_)
 ·simp at h;have hf1:f<c.fr.length:=h;clear h;refine Q7 (Q0 (Q5 (srQ hN λK hK=>?_)));simp[Q16,Q3q,Q2o,Q2G,hl2,hf1];refine hK _ ?_;clear hK K;refine Q0 (srQ hN λK hK=>?_);simp;refine hK _ ?_;clear hK K;refine Q6 rfl (λh=>?_) λh=>?_
  ·simp at h;refine srQ hN λK hK=>?_;simp;refine hK _ (Qi (Qw rfl (bo_f λhs=>?_)));clear hK K;exact absurd (hs.rows f hf1).1 (by omega)
  simp at h;have hr:(rx c.cs f).length=c.fr.length:=by omega
  clear h;refine Q7 (srQ hN λK hK=>?_);simp[hr];refine hK _ (Q5 (Q1w (λg:Nat=>⟨Ye c u tl [(3,iV c.fr.length),(6,iV f),(104,.lst u 1 (Ls c.cs)),(105,iV c.fr.length),(106,iV f),(115,lI (rx c.cs f)),(116,iV c.fr.length),(117,iV g)],[],0⟩) (λg=>g≤c.fr.length∧∀y:Nat,y<g→c.cell f y) (λg=>c.fr.length - g) 0 (by simp) (rbQ hP []) ?_));clear hK K
  rintro g ⟨hg,hi3⟩
  refine srQ hN λK hK=>?_;simp;refine hK _ ?_;clear hK K;refine Q0 (Q6 rfl (λh=>?_) λh=>?_)
  ·simp at h;have hg1:g<c.fr.length:=h;clear h;refine Q7 (Q0 (Q5 (srQ hN λK hK=>?_)));simp[Q16,Q3q,Q2o,Q2G,hr,hg1];refine hK _ ?_;clear hK K;refine Q0 (srQ hN λK hK=>?_);simp[Q16,Q3q,Q2o,Q2G,hl1,hf1,hg1];refine hK _ ?_;clear hK K;refine Q6 rfl (λh1=>?_) λh1=>?_
   ·simp at h1;refine Q0 (srQ hN λK hK=>?_);simp;refine hK _ ?_;clear hK K;refine Q6 rfl (λh2=>?_) λh2=>?_
    ·simp at h2;refine srQ hN λK hK=>?_;simp;refine hK _ (Qi (Qw rfl (bo_f λhs=>?_)));clear hK K;exact h2 (((hs.rows f hf1).2 g hg1).1 h1)
    simp at h2;have hc:c.cell f g:=⟨λ_=>h2,λe=>absurd e h1⟩;refine Q7 (Qj ?_);simp;refine runQ hN λK hK=>?_;simp;refine hK _ ?_;clear hK K;rw[QE (n:=c.fr.length) (by omega) (by omega)];refine⟨g+1,⟨by omega,Q1j hi3 hc⟩,by dsimp only;omega,(rbQ hP [])⟩
   simp at h1;refine Q7 (srQ hN λK hK=>?_);refine join hK (λb=>⟨Ye c u tl [(3,iV c.fr.length),(104,.lst u 1 (Ls c.cs)),(105,iV c.fr.length),(106,iV f),(115,lI (rx c.cs f)),(116,iV c.fr.length),(117,iV g),(6,iV f),(164,.val (.bool b))],[],0⟩) (¬c.cell f g) (λhJ=>?_) λb hb=>?_
   ·simp;have hcell:c.cell f g↔0≤ix (rx c.cs f) g∧ix (rx c.cs f) g<c.fr.length∧ix c.fr (ix (rx c.cs f) g)=ix c.fr f∧ix c.to (ix (rx c.cs f) g)=ix c.to g:=⟨λq=>q.2 h1,λq=>⟨λe=>absurd h1 e,λ_=>q⟩⟩;rw[hcell]at hJ;refine Q3 (c46 (ix (rx c.cs f) g) 0 (c.fr.length - 1)) (by rw[Qg ⟨by omega,by omega⟩];exact .cons .val (.cons .val (.cons .val .nil))) ?_;simp[unk,unA,unE,flat];refine⟨λa1 a2=>?_,λa1=>?_⟩
    ·refine Q3 (c68 u c tl (ix (rx c.cs f) g) a1 (by omega) (by omega)) (.cons .rptr (.cons .val .nil)) ?_;simp[unk,unA,unE,unC,flat,Qh,Q16,Q3q,Q2o,Q2G,hl1,hf1,hg1];exact hJ (!(ix c.fr (ix (rx c.cs f) g)==ix c.fr f)||!(ix c.to (ix (rx c.cs f) g)==ix c.to g)) (by simp[a1];grind) _ (rbQ hP [])
    exact hJ (true) (yes λhp=>by omega) _ (rbQ hP [])
   clear hK K;refine Q6 rfl (λh=>?_) λh=>?_
   ·refine srQ hN λK hK=>?_;simp;refine hK _ (Qi (Qw rfl (bo_f λhs=>?_)));clear hK K;exact hb.1 h ((hs.rows f hf1).2 g hg1)
   have hc:c.cell f g:=yL λhn=>by rw[hb.2 hn]at h;cases h
   refine Q7 (runQ hN λK hK=>?_);simp;refine hK _ ?_;clear hK K;rw[QE (n:=c.fr.length) (by omega) (by omega)];refine⟨g+1,⟨by omega,Q1j hi3 hc⟩,by dsimp only;omega,(rbQ hP [])⟩
  simp at h;have hg2:c.fr.length≤g:=by omega
  clear h;refine Qj ?_;simp;refine runQ hN λK hK=>?_;simp;refine hK _ ?_;clear hK K;rw[QE (n:=c.fr.length) (by omega) (by omega)];refine⟨f+1,⟨by omega,Q1j hi2 ⟨hr,λy hy=>hi3 y (by omega)⟩⟩,by dsimp only;omega,(rbQ hP [])⟩
 simp at h;have hf2:c.fr.length≤f:=by omega
 clear h;refine Qj ?_;simp;refine srQ hN λK hK=>?_;simp;refine hK _ (Qi (Qw rfl (bo_t ?_)));clear hK K;exact⟨p1.1,p1.2.1,p1.2.2.1,hl1,p1.2.2.2.2.1,p1.2.2.2.2.2,hl2,hl3,p2.2.1,hi1,λy hy=>hi2 y (by omega)⟩
end
section
attribute [local simp] Qa QD Qo QM Qx
def first{α:Type}(p:Nat→Option α):Nat→Option α
 |0=>none
 |n+1=>match first p n with
  |some a=>some a
  |none=>p n
theorem Q1L{α:Type}{p:Nat→Option α}:∀{n:Nat},(∀j,j<n→p j=none)→first p n=none:=by
 intro n
 induction n with
 |zero=>intro _;rfl
 |succ n ih=>intro h;simp only[first];rw[ih λj hj=>h j (by omega)];exact h n (by omega)
theorem Q4g{α:Type}{p:Nat→Option α}{i:Nat}{a:α}(h1:∀j,j<i→p j=none)(h2:p i=some a):∀{n:Nat},i<n→first p n=some a:=by
 intro n
 induction n with
 |zero=>intro h;omega
 |succ n ih=>
  intro h;simp only[first];rcases zM i n with hlt|hge
  ·rw[ih hlt]
  have:i=n:=by omega
  subst this;rw[Q1L h1];exact h2
theorem Q4N{α:Type}{p:Nat→Option α}:∀{n:Nat},first p n=none→∀j,j<n→p j=none:=by
 intro n
 induction n with
 |zero=>intro _ j hj;omega
 |succ n ih=>
  intro h j hj;simp only[first]at h;split at h
  ·cases h
  rename_i h0;rcases zM j n with hlt|hge
  ·exact ih h0 j hlt
  have:j=n:=by omega
  subst this;exact h
def Cat.un(c:Cat)(f:Nat):Prop:=ix (rx c.cs (ix c.id (ix c.fr f))) f=f∧ix (rx c.cs f) (ix c.id (ix c.to f))=f
def Cat.as(c:Cat)(f g h:Nat):Prop:=ix c.to f=ix c.fr g→ix c.to g=ix c.fr h→ix (rx c.cs (ix (rx c.cs f) g)) h=ix (rx c.cs f) (ix (rx c.cs g) h)
open Classical in
def Cat.f1(c:Cat)(f:Nat):Option (Int×Int×Int×Int):=if c.un f then none else some (1,f,0,0)
open Classical in
def Cat.f2(c:Cat)(f g h:Nat):Option (Int×Int×Int×Int):=if c.as f g h then none else some (2,f,g,h)
def Cat.fault(c:Cat):Option (Int×Int×Int×Int):=match first c.f1 c.fr.length with
 |some x=>some x
 |none=>first (λf=>first (λg=>first (λh=>c.f2 f g h) c.fr.length) c.fr.length) c.fr.length
def Cat.Law(c:Cat):Prop:=(∀f,f<c.fr.length→c.un f)∧∀f,f<c.fr.length→∀g,g<c.fr.length→∀h,h<c.fr.length→c.as f g h
section
variable {c:Cat}
theorem Q8t{f:Nat}(hf:f<c.fr.length)(h1:∀y,y<f→c.un y)(h2:¬c.un f):c.fault=some (1,(f:Int),0,0):=by
 unfold Cat.fault;rw[Q4g (i:=f) (a:=(1,(f:Int),0,0)) (λj hj=>by simp[Cat.f1,h1 j hj]) (by simp[Cat.f1,h2]) hf]
theorem Q8u{f g h:Nat}(hf:f<c.fr.length)(hg:g<c.fr.length)(hh:h<c.fr.length)(h0:∀y,y<c.fr.length→c.un y)(h1:∀y,y<f→∀g,g<c.fr.length→∀h,h<c.fr.length→c.as y g h)(h2:∀y,y<g→∀h,h<c.fr.length→c.as f y h)(h3:∀y,y<h→c.as f g y)(h4:¬c.as f g h):c.fault=some (2,(f:Int),(g:Int),(h:Int)):=by
 unfold Cat.fault;rw[Q1L λj hj=>by simp[Cat.f1,h0 j hj]];simp only;refine Q4g (i:=f) (λj hj=>Q1L λg hg=>Q1L λh hh=>by simp[Cat.f2,h1 j hj g hg h hh]) ?_ hf;refine Q4g (i:=g) (λj hj=>Q1L λh hh=>by simp[Cat.f2,h2 j hj h hh]) ?_ hg;refine Q4g (i:=h) (λj hj=>by simp[Cat.f2,h3 j hj]) ?_ hh;simp[Cat.f2,h4]
theorem Q5d(h0:∀y,y<c.fr.length→c.un y)(h1:∀y,y<c.fr.length→∀g,g<c.fr.length→∀h,h<c.fr.length→c.as y g h):c.fault=none:=by
 unfold Cat.fault;rw[Q1L λj hj=>by simp[Cat.f1,h0 j hj]];exact Q1L λf hf=>Q1L λg hg=>Q1L λh hh=>by simp[Cat.f2,h1 f hf g hg h hh]
theorem Cat.Sh.fr'(hs:c.Sh){j:Int}(h0:0≤j)(h1:j<c.fr.length):0≤ix c.fr j∧ix c.fr j<c.id.length:=by
 have:=Q6W hs.fr h0 h1;have:=hs.li;omega
theorem Cat.Sh.to'(hs:c.Sh){j:Int}(h0:0≤j)(h1:j<c.fr.length):0≤ix c.to j∧ix c.to j<c.id.length:=by
 have:=Q6W hs.to h0 (by rw[hs.lt];exact h1);have:=hs.li;omega
theorem Cat.Sh.id'(hs:c.Sh){j:Int}(h0:0≤j)(h1:j<c.id.length):0≤ix c.id j∧ix c.id j<c.fr.length:=Q6W hs.id h0 h1
theorem Cat.Sh.row'(hs:c.Sh){j:Int}(h0:0≤j)(h1:j<c.fr.length):(rx c.cs j).length=c.fr.length:=by
 have:=(hs.rows j.toNat (by omega)).1
 rwa[Int.toNat_of_nonneg h0]at this
theorem Cat.Sh.cell'(hs:c.Sh){f g:Int}(h0:0≤f)(h1:f<c.fr.length)(h2:0≤g)(h3:g<c.fr.length):(ix c.to f≠ix c.fr g→ix (rx c.cs f) g= -1)∧
  (ix c.to f=ix c.fr g→0≤ix (rx c.cs f) g∧ix (rx c.cs f) g<c.fr.length∧ix c.fr (ix (rx c.cs f) g)=ix c.fr f∧ix c.to (ix (rx c.cs f) g)=ix c.to g):=by
 have:=(hs.rows f.toNat (by omega)).2 g.toNat (by omega);simpa only[Cat.cell,Int.toNat_of_nonneg h0,Int.toNat_of_nonneg h2]using this
end
theorem nope{C:Prop}(h:¬C):(false=true↔C):=⟨λh1=>Bool.noConfusion h1,λh2=>absurd h2 h⟩
def four(k:Option (Int×Int×Int×Int)):List AV:=
 [.val (.int .i64 (k.getD (0,0,0,0)).1),.val (.int .i64 (k.getD (0,0,0,0)).2.1),.val (.int .i64 (k.getD (0,0,0,0)).2.2.1),.val (.int .i64 (k.getD (0,0,0,0)).2.2.2)]
theorem fault_zero{c:Cat}:(c.fault.getD (0,0,0,0)).1=0↔c.Law:=by
 by_cases h1:∀y,y<c.fr.length→c.un y
 ·by_cases h2:∀y,y<c.fr.length→∀g,g<c.fr.length→∀h,h<c.fr.length→c.as y g h
  ·rw[Q5d h1 h2];exact⟨λ_=>⟨h1,h2⟩,λ_=>rfl⟩
  have:c.fault≠none:=by
   intro h0;apply h2;unfold Cat.fault at h0;split at h0
   ·cases h0
   intro f hf g hg h hh;have:=Q4N (Q4N (Q4N h0 f hf) g hg) h hh;simpa[Cat.f2]using this
  refine⟨λh=>?_,λh=>absurd h.2 h2⟩;exfalso;unfold Cat.fault at this h;rw[Q1L λj hj=>by simp[Cat.f1,h1 j hj]]at this h;simp only at this h;have key:∀{α:Type} (p:Nat→Option α) (Q:α→Prop),(∀i a,p i=some a→Q a)→∀n a,first p n=some a→Q a:=by
   intro α p Q hp n
   induction n with
   |zero=>intro a h;cases h
   |succ n ih=>
    intro a h;simp only[first]at h;split at h
    ·rename_i x hx;cases h;exact ih _ hx
    exact hp _ _ h
  obtain⟨x,hx⟩:=Option.ne_none_iff_exists'.1 this;have:x.1=2:=key _ (λx=>x.1=2) (λf a ha=>key _ (λx=>x.1=2) (λg a ha=>key _ (λx=>x.1=2) (λh a ha=>by
   simp only[Cat.f2]at ha;split at ha
   ·cases ha
   cases ha;rfl) _ _ ha) _ _ ha) _ _ hx
  rw[hx]at h;simp[this]at h
 refine⟨λh=>?_,λh=>absurd h.1 h1⟩;exfalso;unfold Cat.fault at h;cases hq:first c.f1 c.fr.length with
 |none=>
  apply h1;intro y hy;have:=Q4N hq y hy;simpa[Cat.f1]using this
 |some x=>
  rw[hq]at h;have key:∀n a,first c.f1 n=some a→a.1=1:=by
   intro n
   induction n with
   |zero=>intro a h;cases h
   |succ n ih=>
    intro a h;simp only[first]at h;split at h
    ·rename_i x hx;cases h;exact ih _ hx
    simp only[Cat.f1]at h;split at h
    ·cases h
    cases h;rfl
  have:=key _ _ hq;simp[this]at h
@[simp] abbrev Y0j(a:Cat)(b:List (Nat×AV)):List (Nat×AV):=(1,.adr 0 0 0)::(6,iV a.fr.length)::b
theorem c64(u:Bool)(c:Cat)(hs:c.Sh):Contract Tryz.prog 108 [.agg (c.cells u)] (.tup (four c.fault)):=by
 refine Qk (rs:=four c.fault) Tryz.func108 rfl rfl rfl rfl (by simp[Tryz.f108]) λF hN hP=>?_;have hl1:=hs.lt;have hl2:=hs.lc;have hm40:=hs.m40;refine srQ hN λK hK=>?_;simp[Cat.cells];refine hK _ ?_;clear hK K;refine srQ hN λK hK=>?_;simp[Cat.cells];refine hK _ ?_;clear hK K;refine Q0 (srQ hN λK hK=>?_);simp;refine hK _ (Q5 (Q1w (λf:Nat=>⟨Y0j c [(7,iV f)],Y8 c u [],1⟩) (λf=>f≤c.fr.length∧∀y:Nat,y<f→c.un y) (λf=>c.fr.length - f) 0 (by simp) (rbQ hP [(0,0)]) ?_));clear hK K
 rintro f ⟨hf0,hi0⟩
 refine Q0 (srQ hN λK hK=>?_);simp;refine hK _ ?_;clear hK K;refine Q6 rfl (λh=>?_) λh=>?_
 ·simp at h;have hf:f<c.fr.length:=by omega
  clear h;have a1:=hs.fr' (j:=f) (by omega) (by omega);have a2:=hs.id' a1.1 a1.2;have a3:=hs.row' a2.1 a2.2;have a4:=hs.row' (j:=f) (by omega) (by omega);have a5:=hs.to' (j:=f) (by omega) (by omega);have a6:=hs.id' a5.1 a5.2;refine Q7 (Q0 (Q5 (srQ hN λK hK=>?_)));refine join hK (λb=>⟨Y0j c [(7,iV f),(56,.val (.bool b))],Y8 c u [],1⟩) (¬c.un f) (λhJ=>?_) λb hb=>?_
  ·simp[Q16,Q3q,Q2o,Q2G,hl1,hl2,hf,a1.1,a1.2,a2.1,a2.2,a3,a4,a5.1,a5.2,a6.1,a6.2];refine⟨λb1=>?_,λb1=>?_⟩
   ·exact hJ (ix (rx c.cs f) (ix c.id (ix c.to f))!=f) (by simp[Cat.un,b1]) _ (rbQ hP [(0,0)])
   exact hJ (true) (yes λhp=>b1 hp.1) _ (rbQ hP [(0,0)])
  clear hK K;refine Q6 rfl (λh=>?_) λh=>?_
  ·refine srQ hN λK hK=>?_;simp;refine hK _ (Qi ?_);clear hK K;rw[Q8t hf hi0 (hb.1 h)];refine⟨.one rfl rfl (.one rfl rfl (.one rfl rfl (.one rfl rfl .nil))),_,[],rfl,by simp,yN _⟩
  have hc:c.un f:=yL λhn=>by rw[hb.2 hn]at h;cases h
  refine Q7 (runQ hN λK hK=>?_);simp;refine hK _ ?_;clear hK K;rw[QE (n:=c.fr.length) (by omega) (by omega)];refine⟨f+1,⟨by omega,Q1j hi0 hc⟩,by dsimp only;omega,(rbQ hP [(0,0)])⟩
 simp at h;have hf2:c.fr.length≤f:=by omega
 clear h;have hi1:∀y:Nat,y<c.fr.length→c.un y:=λy hy=>hi0 y (by omega);refine Qj ?_;simp;refine Q0 (srQ hN λK hK=>?_);simp;refine hK _ (Q5 (Q1w (λf:Nat=>⟨Y0j c [(8,iV f)],Y8 c u [],1⟩) (λf=>f≤c.fr.length∧∀y:Nat,y<f→∀g:Nat,g<c.fr.length→∀h:Nat,h<c.fr.length→c.as y g h) (λf=>c.fr.length - f) 0 (by simp) (rbQ hP [(0,0)]) ?_));clear hK K;clear hi0 hf2 hf0 f
 rintro f ⟨hf0,hi2⟩
 refine Q0 (srQ hN λK hK=>?_);simp;refine hK _ ?_;clear hK K;refine Q6 rfl (λh=>?_) λh=>?_
 ·simp at h;have hf:f<c.fr.length:=by omega
  clear h;have rf:=hs.row' (j:=f) (by omega) (by omega);refine Q7 (Q0 (Q5 (srQ hN λK hK=>?_)));simp;refine hK _ (Q5 (Q1w (λg:Nat=>⟨Y0j c [(8,iV f),(9,iV g)],Y8 c u [],1⟩) (λg=>g≤c.fr.length∧∀y:Nat,y<g→∀h:Nat,h<c.fr.length→c.as f y h) (λg=>c.fr.length - g) 0 (by simp) (rbQ hP [(0,0)]) ?_));clear hK K
  rintro g ⟨hg0,hi3⟩
  refine Q0 (srQ hN λK hK=>?_);simp;refine hK _ ?_;clear hK K;refine Q6 rfl (λh=>?_) λh=>?_
  ·simp at h;have hg:g<c.fr.length:=(by omega);clear h;have rg:=hs.row' (j:=g) (by omega) (by omega);refine Q7 (Q0 (Q5 (Q0 (srQ hN λK hK=>?_))));simp[Q16,Q3q,Q2o,Q2G,hl1,hf,hg];refine hK _ ?_;clear hK K;refine Q6 rfl (λe1=>?_) λe1=>?_
   ·simp at e1;have hc:∀h:Nat,h<c.fr.length→c.as f g h:=λh _ q=>absurd q e1;refine Qj ?_;simp;refine runQ hN λK hK=>?_;simp;refine hK _ ?_;clear hK K;rw[QE (n:=c.fr.length) (by omega) (by omega)];refine⟨g+1,⟨by omega,Q1j hi3 hc⟩,by dsimp only;omega,(rbQ hP [(0,0)])⟩
   simp at e1;have d0:=(hs.cell' (f:=f) (g:=g) (by omega) (by omega) (by omega) (by omega)).2 e1;have r0:=hs.row' d0.1 d0.2.1;refine Q7 (srQ hN λK hK=>?_);simp;refine hK _ (Q5 (Q1w (λh:Nat=>⟨Y0j c [(8,iV f),(9,iV g),(10,iV h)],Y8 c u [],1⟩) (λh=>h≤c.fr.length∧∀y:Nat,y<h→c.as f g y) (λh=>c.fr.length - h) 0 (by simp) (rbQ hP [(0,0)]) ?_));clear hK K
   rintro h ⟨hh0,hi4⟩
   refine Q0 (srQ hN λK hK=>?_);simp;refine hK _ ?_;clear hK K;refine Q6 rfl (λg0=>?_) λg0=>?_
   ·simp at g0;have hh:h<c.fr.length:=(by omega);clear g0;refine Q7 (Q0 (Q5 (srQ hN λK hK=>?_)));refine join hK (λb=>⟨Y0j c [(8,iV f),(9,iV g),(10,iV h),(127,.val (.bool b))],Y8 c u [],1⟩) (¬c.as f g h) (λhJ=>?_) λb hb=>?_
    ·by_cases e2:ix c.to g=ix c.fr h
     ·have d1:=(hs.cell' (f:=g) (g:=h) (by omega) (by omega) (by omega) (by omega)).2 e2;simp[Q16,Q3q,Q2o,Q2G,e2,hl1,hl2,hf,hg,hh,rg,rf,d0.1,d0.2.1,r0,d1.1,d1.2.1];exact hJ (ix (rx c.cs (ix (rx c.cs f) g)) h !=ix (rx c.cs f) (ix (rx c.cs g) h)) (by simp[Cat.as,e1,e2]) _ (rbQ hP [(0,0)])
     simp[Q16,Q3q,Q2o,Q2G,e2,hl1,hg,hh];exact hJ (false) (nope λhp=>hp λ_ q=>absurd q e2) _ (rbQ hP [(0,0)])
    clear hK K;refine Q6 rfl (λg0=>?_) λg0=>?_
    ·refine srQ hN λK hK=>?_;simp;refine hK _ (Qi ?_);clear hK K;rw[Q8u hf hg hh hi1 hi2 hi3 hi4 (hb.1 g0)];refine⟨.one rfl rfl (.one rfl rfl (.one rfl rfl (.one rfl rfl .nil))),_,[],rfl,by simp,yN _⟩
    have hc:c.as f g h:=yL λhn=>by rw[hb.2 hn]at g0;cases g0
    refine Q7 (runQ hN λK hK=>?_);simp;refine hK _ ?_;clear hK K;rw[QE (n:=c.fr.length) (by omega) (by omega)];refine⟨h+1,⟨by omega,Q1j hi4 hc⟩,by dsimp only;omega,(rbQ hP [(0,0)])⟩
   simp at g0;have hh2:c.fr.length≤h:=(by omega);clear g0;have hc:∀h:Nat,h<c.fr.length→c.as f g h:=λy hy=>hi4 y (by omega);refine Qj ?_;simp;refine runQ hN λK hK=>?_;simp;refine hK _ ?_;clear hK K;rw[QE (n:=c.fr.length) (by omega) (by omega)];refine⟨g+1,⟨by omega,Q1j hi3 hc⟩,by dsimp only;omega,(rbQ hP [(0,0)])⟩
  simp at h;have hg2:c.fr.length≤g:=by omega
  clear h;refine Qj ?_;simp;refine runQ hN λK hK=>?_;simp;refine hK _ ?_;clear hK K;rw[QE (n:=c.fr.length) (by omega) (by omega)];refine⟨f+1,⟨by omega,Q1j hi2 λg hg h hh=>hi3 g (by omega) h hh⟩,by dsimp only;omega,(rbQ hP [(0,0)])⟩
 simp at h;have hf2:c.fr.length≤f:=by omega
 clear h;refine Qj ?_;simp;refine srQ hN λK hK=>?_;simp;refine hK _ (Qi ?_);clear hK K;rw[Q5d hi1 λy hy=>hi2 y (by omega)];refine⟨.one rfl rfl (.one rfl rfl (.one rfl rfl (.one rfl rfl .nil))),_,[],rfl,by simp,yN _⟩
theorem c66(u:Bool)(c:Cat)(tl:List AV)(hs:c.Sh):Contract Tryz.prog 110 [.rptr (c.cells u++tl)] (.tup (four c.fault)):=by
 refine Qk (rs:=four c.fault) Tryz.func110 rfl rfl rfl rfl (by simp[Tryz.f110]) λF hN hP=>?_;have hl1:=hs.lt;have hl2:=hs.lc;have hm40:=hs.m40;simp only[Cat.cells,List.cons_append,List.nil_append];refine srQ hN λK hK=>?_;simp;refine hK _ ?_;clear hK K;refine srQ hN λK hK=>?_;simp;refine Q3 (c61 u c tl) (.cons .rptr .nil) ?_;simp[unk,unA,unE,flat];refine hK _ ?_;clear hK K;refine Q0 (srQ hN λK hK=>?_);simp;refine hK _ (Q5 (Q1w (λf:Nat=>⟨Ye c u tl [(6,iV c.fr.length),(7,iV f)],[],0⟩) (λf=>f≤c.fr.length∧∀y:Nat,y<f→c.un y) (λf=>c.fr.length - f) 0 (by simp) (rbQ hP []) ?_));clear hK K
 rintro f ⟨hf0,hi0⟩
 refine Q0 (srQ hN λK hK=>?_);simp;refine hK _ ?_;clear hK K;refine Q6 rfl (λh=>?_) λh=>?_
 ·simp at h;have hf:f<c.fr.length:=by omega
  clear h;have a1:=hs.fr' (j:=f) (by omega) (by omega);have a2:=hs.id' a1.1 a1.2;have a3:=hs.row' a2.1 a2.2;have a4:=hs.row' (j:=f) (by omega) (by omega);have a5:=hs.to' (j:=f) (by omega) (by omega);have a6:=hs.id' a5.1 a5.2;refine Q7 (Q0 (Q5 (srQ hN λK hK=>?_)));refine join hK (λb=>⟨Ye c u tl [(6,iV c.fr.length),(7,iV f),(55,.val (.bool b))],[],0⟩) (¬c.un f) (λhJ=>?_) λb hb=>?_
  ·simp[Q16,Q3q,Q2o,Q2G,hl1,hf,a1.1,a1.2,a2.1,a2.2];refine Q3 (c69 u c tl (ix c.id (ix c.fr f)) (f) (a2.1) (by omega) (by omega) (by omega)) (.cons .rptr (.cons .val (.cons .val .nil))) ?_;simp[unk,unA,unE,flat,Q16,Q3q,Q2o,Q2G,hl1,hf,a5.1,a5.2];refine⟨λb1=>?_,λb1=>?_⟩
   ·refine Q3 (c69 u c tl (f) (ix c.id (ix c.to f)) (by omega) (by omega) (a6.1) (by omega)) (.cons .rptr (.cons .val (.cons .val .nil))) ?_;simp[unk,unA,unE,flat];exact hJ (ix (rx c.cs f) (ix c.id (ix c.to f))!=f) (by simp[Cat.un,b1]) _ (rbQ hP [])
   exact hJ (true) (yes λhp=>b1 hp.1) _ (rbQ hP [])
  clear hK K;refine Q6 rfl (λh=>?_) λh=>?_
  ·refine srQ hN λK hK=>?_;simp;refine hK _ (Qi ?_);clear hK K;rw[Q8t hf hi0 (hb.1 h)];refine⟨.one rfl rfl (.one rfl rfl (.one rfl rfl (.one rfl rfl .nil))),_,[],rfl,by simp,yN _⟩
  have hc:c.un f:=yL λhn=>by rw[hb.2 hn]at h;cases h
  refine Q7 (runQ hN λK hK=>?_);simp;refine hK _ ?_;clear hK K;rw[QE (n:=c.fr.length) (by omega) (by omega)];refine⟨f+1,⟨by omega,Q1j hi0 hc⟩,by dsimp only;omega,(rbQ hP [])⟩
 simp at h;have hf2:c.fr.length≤f:=by omega
 clear h;have hi1:∀y:Nat,y<c.fr.length→c.un y:=λy hy=>hi0 y (by omega);refine Qj ?_;simp;refine Q0 (srQ hN λK hK=>?_);simp;refine hK _ (Q5 (Q1w (λf:Nat=>⟨Ye c u tl [(6,iV c.fr.length),(8,iV f)],[],0⟩) (λf=>f≤c.fr.length∧∀y:Nat,y<f→∀g:Nat,g<c.fr.length→∀h:Nat,h<c.fr.length→c.as y g h) (λf=>c.fr.length - f) 0 (by simp) (rbQ hP []) ?_));clear hK K;clear hi0 hf2 hf0 f
 rintro f ⟨hf0,hi2⟩
 refine Q0 (srQ hN λK hK=>?_);simp;refine hK _ ?_;clear hK K;refine Q6 rfl (λh=>?_) λh=>?_
 ·simp at h;have hf:f<c.fr.length:=by omega
  clear h;have rf:=hs.row' (j:=f) (by omega) (by omega);refine Q7 (Q0 (Q5 (srQ hN λK hK=>?_)));simp;refine hK _ (Q5 (Q1w (λg:Nat=>⟨Ye c u tl [(6,iV c.fr.length),(8,iV f),(9,iV g)],[],0⟩) (λg=>g≤c.fr.length∧∀y:Nat,y<g→∀h:Nat,h<c.fr.length→c.as f y h) (λg=>c.fr.length - g) 0 (by simp) (rbQ hP []) ?_));clear hK K
  rintro g ⟨hg0,hi3⟩
  refine Q0 (srQ hN λK hK=>?_);simp;refine hK _ ?_;clear hK K;refine Q6 rfl (λh=>?_) λh=>?_
  ·simp at h;have hg:g<c.fr.length:=(by omega);clear h;have rg:=hs.row' (j:=g) (by omega) (by omega);refine Q7 (Q0 (Q5 (Q0 (srQ hN λK hK=>?_))));simp;refine Q3 (c69 u c tl (f) (g) (by omega) (by omega) (by omega) (by omega)) (.cons .rptr (.cons .val (.cons .val .nil))) ?_;simp[unk,unA,unE,flat];refine hK _ ?_;clear hK K;refine Q6 rfl (λe0=>?_) λe0=>?_
   ·simp at e0;have e1:¬ix c.to f=ix c.fr g:=λq=>by have:=((hs.cell' (f:=f) (g:=g) (by omega) (by omega) (by omega) (by omega)).2 q).1;omega
    have hc:∀h:Nat,h<c.fr.length→c.as f g h:=λh _ q=>absurd q e1;refine Qj ?_;simp;refine runQ hN λK hK=>?_;simp;refine hK _ ?_;clear hK K;rw[QE (n:=c.fr.length) (by omega) (by omega)];refine⟨g+1,⟨by omega,Q1j hi3 hc⟩,by dsimp only;omega,(rbQ hP [])⟩
   simp at e0;have e1:ix c.to f=ix c.fr g:=yL λq=>by have:=(hs.cell' (f:=f) (g:=g) (by omega) (by omega) (by omega) (by omega)).1 q;omega
   have d0:=(hs.cell' (f:=f) (g:=g) (by omega) (by omega) (by omega) (by omega)).2 e1;have r0:=hs.row' d0.1 d0.2.1;refine Q7 (srQ hN λK hK=>?_);simp;refine hK _ (Q5 (Q1w (λh:Nat=>⟨Ye c u tl [(6,iV c.fr.length),(8,iV f),(9,iV g),(10,iV h)],[],0⟩) (λh=>h≤c.fr.length∧∀y:Nat,y<h→c.as f g y) (λh=>c.fr.length - h) 0 (by simp) (rbQ hP []) ?_));clear hK K
   rintro h ⟨hh0,hi4⟩
   refine Q0 (srQ hN λK hK=>?_);simp;refine hK _ ?_;clear hK K;refine Q6 rfl (λg0=>?_) λg0=>?_
   ·simp at g0;have hh:h<c.fr.length:=(by omega);clear g0;refine Q7 (Q0 (Q5 (srQ hN λK hK=>?_)));refine join hK (λb=>⟨Ye c u tl [(6,iV c.fr.length),(8,iV f),(9,iV g),(10,iV h),(98,.val (.bool b))],[],0⟩) (¬c.as f g h) (λhJ=>?_) λb hb=>?_
    ·simp;refine Q3 (c69 u c tl (g) (h) (by omega) (by omega) (by omega) (by omega)) (.cons .rptr (.cons .val (.cons .val .nil))) ?_;simp[unk,unA,unE,flat]
     by_cases e2:ix c.to g=ix c.fr h
     ·have d1:=(hs.cell' (f:=g) (g:=h) (by omega) (by omega) (by omega) (by omega)).2 e2;simp[d1.1,Int.not_lt.2 d1.1];refine Q3 (c69 u c tl (f) (g) (by omega) (by omega) (by omega) (by omega)) (.cons .rptr (.cons .val (.cons .val .nil))) ?_;simp[unk,unA,unE,flat];refine Q3 (c69 u c tl (ix (rx c.cs f) g) (h) (d0.1) (by omega) (by omega) (by omega)) (.cons .rptr (.cons .val (.cons .val .nil))) ?_;simp[unk,unA,unE,flat];refine Q3 (c69 u c tl (g) (h) (by omega) (by omega) (by omega) (by omega)) (.cons .rptr (.cons .val (.cons .val .nil))) ?_;simp[unk,unA,unE,flat];refine Q3 (c69 u c tl (f) (ix (rx c.cs g) h) (by omega) (by omega) (d1.1) (by omega)) (.cons .rptr (.cons .val (.cons .val .nil))) ?_;simp[unk,unA,unE,flat];exact hJ (ix (rx c.cs (ix (rx c.cs f) g)) h !=ix (rx c.cs f) (ix (rx c.cs g) h)) (by simp[Cat.as,e1,e2]) _ (rbQ hP [])
     have d1:=(hs.cell' (f:=g) (g:=h) (by omega) (by omega) (by omega) (by omega)).1 e2;simp[d1];exact hJ (false) (nope λhp=>hp λ_ q=>absurd q e2) _ (rbQ hP [])
    clear hK K;refine Q6 rfl (λg0=>?_) λg0=>?_
    ·refine srQ hN λK hK=>?_;simp;refine hK _ (Qi ?_);clear hK K;rw[Q8u hf hg hh hi1 hi2 hi3 hi4 (hb.1 g0)];refine⟨.one rfl rfl (.one rfl rfl (.one rfl rfl (.one rfl rfl .nil))),_,[],rfl,by simp,yN _⟩
    have hc:c.as f g h:=yL λhn=>by rw[hb.2 hn]at g0;cases g0
    refine Q7 (runQ hN λK hK=>?_);simp;refine hK _ ?_;clear hK K;rw[QE (n:=c.fr.length) (by omega) (by omega)];refine⟨h+1,⟨by omega,Q1j hi4 hc⟩,by dsimp only;omega,(rbQ hP [])⟩
   simp at g0;have hh2:c.fr.length≤h:=(by omega);clear g0;have hc:∀h:Nat,h<c.fr.length→c.as f g h:=λy hy=>hi4 y (by omega);refine Qj ?_;simp;refine runQ hN λK hK=>?_;simp;refine hK _ ?_;clear hK K;rw[QE (n:=c.fr.length) (by omega) (by omega)];refine⟨g+1,⟨by omega,Q1j hi3 hc⟩,by dsimp only;omega,(rbQ hP [])⟩
  simp at h;have hg2:c.fr.length≤g:=by omega
  clear h;refine Qj ?_;simp;refine runQ hN λK hK=>?_;simp;refine hK _ ?_;clear hK K;rw[QE (n:=c.fr.length) (by omega) (by omega)];refine⟨f+1,⟨by omega,Q1j hi2 λg hg h hh=>hi3 g (by omega) h hh⟩,by dsimp only;omega,(rbQ hP [])⟩
 simp at h;have hf2:c.fr.length≤f:=by omega
 clear h;refine Qj ?_;simp;refine srQ hN λK hK=>?_;simp;refine hK _ (Qi ?_);clear hK K;rw[Q5d hi1 λy hy=>hi2 y (by omega)];refine⟨.one rfl rfl (.one rfl rfl (.one rfl rfl (.one rfl rfl .nil))),_,[],rfl,by simp,yN _⟩
end
section
attribute [local simp] Qa QD Qo QM Qx
def Cat.Is(c:Cat):Prop:=c.Sh∧c.Law
theorem beq_bo{a:Int}{p:Prop}(h:a=0↔p):Value.bool (a==0)=Value.bool (bo p):=by
 by_cases hp:p
 ·simp[bo,hp,h.2 hp]
 have:a≠0:=λq=>hp (h.1 q);simp[bo,hp,this]
theorem bo_not{p:Prop}(h:(!bo p)=true):¬p:=by simpa[bo]using h
theorem bo_yes{p:Prop}(h:(!bo p)=false):p:=by simpa[bo]using h
theorem c55(u:Bool)(c:Cat):Contract Tryz.prog 98 [.agg (c.cells u)] (.val (.bool (bo c.Is))):=by
 refine Qk (rs:=[.val (.bool (bo c.Is))]) Tryz.func98 rfl rfl rfl rfl (by simp[Tryz.f98]) λF hN hP=>?_;refine srQ hN λK hK=>?_;simp[Cat.cells];refine hK _ ?_;clear hK K;refine Q0 (srQ hN λK hK=>?_);simp;refine Q3 (c63 u c) (.cons (.aggL Cat.pur) .nil) ?_;simp[unk,unA,unE,flat];refine hK _ ?_;clear hK K;refine Q6 rfl (λh=>?_) λh=>?_
 ·refine srQ hN λK hK=>?_;simp;refine hK _ (Qi (Qw rfl (bo_f λhs=>?_)));clear hK K;exact bo_not h hs.1
 have hs:c.Sh:=bo_yes h;refine Q7 (srQ hN λK hK=>?_);simp;refine Q3 (c64 u c hs) (.cons (.aggL Cat.pur) .nil) ?_;simp[unk,unA,unE,unT,flat,four];refine hK _ ?_;clear hK K;refine srQ hN λK hK=>?_;simp;refine hK _ (Qi (Qw rfl (beq_bo ?_)));clear hK K;exact⟨λq=>⟨hs,fault_zero.1 q⟩,λq=>fault_zero.2 q.2⟩
theorem c60(u:Bool)(c:Cat)(tl:List AV):Contract Tryz.prog 101 [.rptr (c.cells u++tl)] (.val (.bool (bo c.Is))):=by
 refine Qk (rs:=[.val (.bool (bo c.Is))]) Tryz.func101 rfl rfl rfl rfl (by simp[Tryz.f101]) λF hN hP=>?_;refine srQ hN λK hK=>?_;simp;refine hK _ ?_;clear hK K;refine Q0 (srQ hN λK hK=>?_);simp;refine Q3 (c65 u c tl) (.cons .rptr .nil) ?_;simp[unk,unA,unE,flat];refine hK _ ?_;clear hK K;refine Q6 rfl (λh=>?_) λh=>?_
 ·refine srQ hN λK hK=>?_;simp;refine hK _ (Qi (Qw rfl (bo_f λhs=>?_)));clear hK K;exact bo_not h hs.1
 have hs:c.Sh:=bo_yes h;refine Q7 (srQ hN λK hK=>?_);simp;refine Q3 (c66 u c tl hs) (.cons .rptr .nil) ?_;simp[unk,unA,unE,unT,flat,four];refine hK _ ?_;clear hK K;refine srQ hN λK hK=>?_;simp;refine hK _ (Qi (Qw rfl (beq_bo ?_)));clear hK K;exact⟨λq=>⟨hs,fault_zero.1 q⟩,λq=>fault_zero.2 q.2⟩
def SF.actOk(f:SF)(a:Nat):Prop:=((rx f.ac a).length:Int)=ix f.sz (ix f.s.fr a)∧∀x∈rx f.ac a,inR (ix f.sz (ix f.s.to a)) x=true
structure SF.Sh(f:SF):Prop where
 cat:f.s.Is
 ls:(f.sz.length:Int)=f.s.n
 la:f.ac.length=f.s.fr.length
 sz:∀x∈f.sz,inR 17 x=true
 act:∀a:Nat,a<f.ac.length→f.actOk a
def SF.un(f:SF)(x e:Nat):Prop:=ix (rx f.ac (ix f.s.id x)) e=e
def SF.as(f:SF)(a b e:Nat):Prop:=ix f.s.to a=ix f.s.fr b→ix (rx f.ac (ix (rx f.s.cs a) b)) e=ix (rx f.ac b) (ix (rx f.ac a) e)
def SF.lu(f:SF)(x:Nat):Nat:=(rx f.ac (ix f.s.id x)).length
def SF.la(f:SF)(a:Nat):Nat:=(rx f.ac a).length
def SF.Law(f:SF):Prop:=(∀x,x<f.s.id.length→∀e,e<f.lu x→f.un x e)∧∀a,a<f.s.fr.length→∀b,b<f.s.fr.length→∀e,e<f.la a→f.as a b e
section
variable {f:SF}
end
def SF.Is(f:SF):Prop:=f.Sh∧f.Law
end
section
attribute [local simp] Qa QD Qo QM Qx
theorem Q7O{l:Int}{n:Nat}(h:0≤less l n):(n:Int)≤l∧less l n=l - n:=by
 unfold less at h⊢;split at h
 ·omega
 rename_i h1;rw[if_neg h1];omega
theorem nn_ok{a:Int}{f:Int→Int}(h:0≤nn a f):0≤a∧0≤f a∧nn a f=f a:=by
 unfold nn at h⊢;split at h
 ·omega
 rename_i h1;rw[if_neg h1];exact⟨by omega,h,rfl⟩
theorem lessS_ok(xs:List (List Int)):∀l:Int,0≤Q7N l xs→(sumL xs:Int)≤l∧(∀x∈xs,(x.length:Int)≤l)∧Q7N l xs=l - sumL xs:=by
 induction xs with
 |nil=>intro l h;simp only[Q7N]at h⊢;simp[sumL];exact h
 |cons x r ih=>
  intro l h;simp only[Q7N]at h⊢;split at h
  ·omega
  rename_i h1;rw[if_neg h1];obtain⟨a1,a2⟩:=Q7O (l:=l) (n:=x.length) (by omega);rw[a2]at h⊢;obtain⟨b1,b2,b3⟩:=ih _ h;have hs:sumL (x::r)=x.length+sumL r:=by simp[sumL]
  refine⟨by rw[hs];push_cast;omega,λy hy=>?_,by rw[b3,hs];push_cast;omega⟩;rcases List.mem_cons.1 hy with rfl|hy
  ·exact a1
  have:=b2 y hy;omega
theorem lessSS_ok{l:Int}{xs:List (List Int)}(h:0≤Q4v l xs):(xs.length:Int)≤l∧(sumL xs:Int)≤l∧(∀x∈xs,(x.length:Int)≤l)∧Q4v l xs≤l:=by
 unfold Q4v at h⊢;split at h
 ·omega
 rename_i h1;rw[if_neg h1];obtain⟨b1,b2,b3⟩:=lessS_ok xs _ h;exact⟨by omega,by omega,λx hx=>by have:=b2 x hx;omega,by omega⟩
theorem szCat_ok{l:Int}{c:Cat}(hl:l≤1048576)(h:0≤Q6z l c):c.ok:=by
 unfold Q6z at h;obtain⟨a1,a2,_⟩:=nn_ok h;obtain⟨b1,b2,_⟩:=nn_ok a2;obtain⟨c1,c2,_⟩:=nn_ok b2;obtain⟨d1,d2,_⟩:=nn_ok c2;obtain⟨e1,e2⟩:=Q7O a1;obtain⟨f1,f2⟩:=Q7O b1;obtain⟨g1,g2⟩:=Q7O c1;obtain⟨h1,h2,h3,_⟩:=lessSS_ok d1;exact⟨by omega,by omega,by omega,by omega,λx hx=>by have:=h3 x hx;omega,by omega⟩
theorem Cat.ok_size{f:Cat}(h:f.ok):f.size≤1099514773504:=by
 obtain⟨hfr,hto,hid,hcs1,hcs2,hcs3⟩:=h;simp only[Cat.size];omega
structure SM where
 s:SF
 t:SF
 p:List (List Int)
def SM.cells(u:Bool)(f:SM):List AV:=[iV f.s.s.n,.lst u 1 (Is f.s.s.fr),.lst u 1 (Is f.s.s.to),.lst u 1 (Is f.s.s.id),.lst u 1 (Ls f.s.s.cs),.lst u 1 (Is f.s.sz),.lst u 1 (Ls f.s.ac),iV f.t.s.n,.lst u 1 (Is f.t.s.fr),.lst u 1 (Is f.t.s.to),.lst u 1 (Is f.t.s.id),.lst u 1 (Ls f.t.s.cs),.lst u 1 (Is f.t.sz),.lst u 1 (Ls f.t.ac),.lst u 1 (Ls f.p)]
end
section
attribute [local simp] Qa QD Qo QM Qx
def SF.part(f g:SF)(p:List (List Int))(x:Nat):Prop:=((rx p x).length:Int)=ix f.sz x∧∀y∈rx p x,inR (ix g.sz x) y=true
structure SM.Sh(m:SM):Prop where
 hs:m.s.Is
 ht:m.t.Is
 eq:m.s.s=m.t.s
 lp:m.p.length=m.s.sz.length
 pt:∀x:Nat,x<m.p.length→m.s.part m.t m.p x
def SM.nat(m:SM)(a e:Nat):Prop:=ix (rx m.p (ix m.s.s.to a)) (ix (rx m.s.ac a) e)=ix (rx m.t.ac a) (ix (rx m.p (ix m.s.s.fr a)) e)
def SM.Law(m:SM):Prop:=∀a,a<m.s.s.fr.length→∀e,e<m.s.la a→m.nat a e
def SM.Is(m:SM):Prop:=m.Sh∧m.Law
section
variable {m:SM}
end
@[simp] theorem bo_true{p:Prop}:bo p=true↔p:=by simp[bo]
theorem n54(ux uy:Bool)(xs ys:List Int):Contract Tryz.prog 83 [.lst ux 1 (Is xs),.lst uy 1 (Is ys)] (.val (.bool (decide (xs=ys)))):=by
 refine Qk (rs:=[.val (.bool (decide (xs=ys)))]) Tryz.func83 rfl rfl rfl rfl (by simp[Tryz.f83]) λF hN hP=>?_;refine Q5E 0 λh0=>?_;simp at h0;obtain⟨hl0,hb0⟩:=h0.is;refine srQ hN λK hK=>?_;simp;refine hK _ ?_;clear hK K;refine Q0 (w_sr mo (by rw[hN];decide) λK hK=>?_);simp;refine hK _ (Q6 rfl (λh=>?_) λh=>?_)<;>clear hK K
 ·simp at h;refine srQ hN λK hK=>?_;simp;refine hK _ (Qi (Qw rfl ?_));clear hK K;simp
  rintro rfl;exact h rfl
 simp at h;refine Q7 ?_;simp only[Q4F];refine Q0 (w_sr mo (by rw[hN];decide) λK hK=>?_);simp;refine hK _ (Q5 ?_);clear hK K;refine Q1w (λi:Nat=>⟨[(0,.lst ux 1 (Is xs)),(1,.lst uy 1 (Is ys)),(5,iV i)],[],0⟩) (λi=>i≤xs.length∧xs.take i=ys.take i) (λi=>xs.length - i) 0 (by simp) (Wk.cut (by simp) rfl rfl) ?_
 rintro i ⟨hi,hti⟩
 refine Q0 (w_sr mo (by rw[hN];decide) λK hK=>?_);simp;refine hK _ (Q6 rfl (λh=>?_) λh=>?_)<;>clear hK K
 ·simp at h;refine Q7 ?_;simp only[Q4F];refine Q0 (Q5 (w_sr mo (by rw[hN];decide) λK hK=>?_));have h2:i<ys.length:=by omega
  simp[h,h2];refine hK _ (Q6 rfl (λh=>?_) λh=>?_)<;>clear hK K
  ·simp at h;refine srQ hN λK hK=>?_;simp;refine hK _ (Qi (Qw rfl ?_));clear hK K;simp
   rintro rfl;exact h rfl
  simp at h;refine Q7 ?_;simp;refine runQ hN λK hK=>?_;simp;refine hK _ ?_;clear hK K;refine⟨i+1,⟨by omega,Q9Q (by omega) h2 hti h⟩,by dsimp only;omega,Wk.cut ?_ rfl rfl⟩;rw[QE (n:=xs.length) (by omega) hl0];simp
 simp at h;refine Qj ?_;simp;refine srQ hN λK hK=>?_;simp;refine hK _ (Qi (Qw rfl ?_));clear hK K;rw[yP (by omega),yP (by omega)]at hti;simp[hti]
end
section
attribute [local simp] Qa QD Qo QM Qx
theorem Cat.Sh.size2{c:Cat}(hs:c.Sh):c.ok∧c.size≤2000:=by
 have h0:=hs.n8;have h1:=hs.li;have h2:=hs.m40;have hr:∀xs∈c.cs,xs.length≤40:=by
  intro xs hx;obtain⟨i,hi,rfl⟩:=zX hx;rw[Q3q _ _ hi,hs.row' (by omega) (by have:=hs.lc;omega)];exact h2
 have hb:∀{l:List (List Int)},(∀xs∈l,xs.length≤40)→sumL l≤l.length*40:=by
  intro l
  induction l with
  |nil=>intro _;simp[sumL]
  |cons x r ih=>
   intro h;have h1:=ih λxs hx=>h xs (zJ _ hx);have h2:=h x (by simp);simp only[sumL,qK,List.sum_cons,qH]at h1⊢;rw[Nat.add_mul];omega
 have h3:=hb hr;have h4:=hs.lc;have h5:=hs.lt;have:c.cs.length*40≤40*40:=Nat.mul_le_mul_right _ (by omega);refine⟨⟨by omega,by omega,by omega,by omega,λxs hx=>by have:=hr xs hx;omega,by omega⟩,?_⟩;simp only[Cat.size];omega
end
section
attribute [local simp] Qa QD Qo QM Qx
@[simp] theorem ze93:elm Tryz.prog 77=some 4:=by kernel_rfl
@[simp] theorem z4:tyi Tryz.prog 4=some ⟨false,1,1,[.bool false]⟩:=by kernel_rfl
def bsF(f:List Int)(n:Nat):Nat→List Bool
 |0=>zF n false
 |i+1=>(bsF f n i).set (ix f i).toNat true
@[simp] theorem QaW(f:List Int)(n:Nat):∀i,(bsF f n i).length=n:=by
 intro i
 induction i with
 |zero=>simp[bsF]
 |succ i ih=>simp[bsF,ih]
def mkF(bs:List Bool)(i:Nat):List Int:=((zW i).filter λk=>bs.getD k false).map λk:Nat=>(k:Int)
def imgL(n:Nat)(f:List Int):List Int:=mkF (bsF f n f.length) n
theorem bsF_get(f:List Int)(n:Nat)(hf:∀y,y<f.length→0≤ix f y∧ix f y<n):∀i,i≤f.length→∀k,k<n→((bsF f n i).getD k false=true↔∃y,y<i∧ix f y=k):=by
 intro i
 induction i with
 |zero=>intro _ k hk;simp[bsF,qB,hk]
 |succ i ih=>
  intro hi k hk;obtain⟨h1,h2⟩:=hf i (by omega);simp only[bsF,qB,List.getElem?_set]
  by_cases h:(ix f i).toNat=k
  ·rw[if_pos h,if_pos (by rw[QaW];omega)];simp only[Option.getD_some,true_iff];exact⟨i,by omega,by omega⟩
  rw[if_neg h,←qB,ih (by omega) k hk];constructor
  ·rintro ⟨y,hy,e⟩;exact⟨y,by omega,e⟩
  rintro ⟨y,hy,e⟩
  refine⟨y,?_,e⟩;rcases zM y i with q|q
  ·exact q
  have:y=i:=by omega
  subst this;omega
theorem count_add(p q:Nat→Bool)(a:Nat)(h1:p a=false)(h2:∀k,q k=(p k||decide (k=a))):∀n,((zW n).filter q).length=((zW n).filter p).length+(if a<n then 1 else 0):=by
 intro n
 induction n with
 |zero=>simp
 |succ n ih=>
  simp only[List.range_succ,List.filter_append,qD,ih,List.filter_cons,List.filter_nil,h2 n]
  by_cases h:n=a
  ·subst h;simp[h1]
  have:(a<n+1)↔(a<n):=by omega
  simp only[h,decide_false,Bool.or_false,this];cases p n<;>simp<;>omega
def cnt(n:Nat)(f:List Int):Nat:=((zW n).filter λk:Nat=>decide ((k:Int)∈f)).length
theorem Qab{n:Nat}{a:Int}{f:List Int}(h0:0≤a)(h1:a<n):cnt n (a::f)=cnt n f+(if a∈f then 0 else 1):=by
 by_cases h:a∈f
 ·simp only[cnt,if_pos h,Nat.add_zero]
  congr 1
  apply List.filter_congr;intro k _;simp only[List.mem_cons,decide_eq_decide];constructor
  ·rintro (rfl|q)
   ·exact h
   exact q
  exact .inr
 simp only[cnt,if_neg h];have:=count_add (λk:Nat=>decide ((k:Int)∈f)) (λk:Nat=>decide ((k:Int)∈a::f)) a.toNat (by
  simp only[decide_eq_false_iff_not,Int.toNat_of_nonneg h0];exact h) (λk=>by
  rw[Bool.eq_iff_iff];simp only[List.mem_cons,decide_eq_true_eq,Bool.or_eq_true];constructor
  ·rintro (q|q)
   ·exact .inr (by omega)
   exact .inl q
  rintro (q|q)
  ·exact .inr q
  exact .inl (by omega)) n
 rw[this,if_pos (by omega)]
theorem cnt_le{n:Nat}:∀{f:List Int},(∀y∈f,0≤y∧y<(n:Int))→cnt n f≤f.length:=by
 intro f
 induction f with
 |nil=>intro _;simp[cnt]
 |cons a f ih=>
  intro h;have h1:=h a (by simp);have h2:=ih λy hy=>h y (zJ _ hy);rw[Qab h1.1 h1.2];simp only[qH];split<;>omega
theorem Q5Y{n:Nat}:∀{f:List Int},(∀y∈f,0≤y∧y<(n:Int))→(cnt n f=f.length↔f.Nodup):=by
 intro f
 induction f with
 |nil=>intro _;simp[cnt]
 |cons a f ih=>
  intro h;have h1:=h a (by simp);have h2:=ih λy hy=>h y (zJ _ hy);have h3:=cnt_le λy hy=>h y (zJ _ hy);rw[Qab h1.1 h1.2,List.nodup_cons,←h2];simp only[qH]
  by_cases q:a∈f
  ·rw[if_pos q];constructor
   ·intro e;omega
   intro e;exact absurd q e.1
  rw[if_neg q];constructor
  ·intro e;exact⟨q,by omega⟩
  intro e;omega
theorem Q7J{n:Nat}{f:List Int}(hf:∀y∈f,0≤y∧y<(n:Int)):(imgL n f).length=cnt n f:=by
 simp only[imgL,mkF,cnt,List.length_map]
 congr 1
 apply List.filter_congr;intro k hk;have hk':k<n:=by simpa using hk
 have h1:=bsF_get f n (λy hy=>by
  rw[←Q16 _ _ hy];exact hf _ (zY hy)) f.length (Nat.le_refl _) k hk'
 rw[Bool.eq_iff_iff,h1,decide_eq_true_eq];constructor
 ·rintro ⟨y,hy,e⟩
  rw[←e,←Q16 _ _ hy];exact zY hy
 intro q;obtain⟨y,hy,e⟩:=zX q;exact⟨y,hy,by rw[←Q16 _ _ hy];exact e⟩
def SM.Inv(m:SM):Prop:=∀x:Nat,x<m.p.length→((rx m.p x).length:Int)=ix m.t.sz x∧(rx m.p x).Nodup
def SM.I1(m:SM):Prop:=∀x:Nat,x<m.p.length→(imgL (ix m.t.sz x).toNat (rx m.p x)).length=(rx m.p x).length
def SM.I2(m:SM):Prop:=∀x:Nat,x<m.p.length→((imgL (ix m.t.sz x).toNat (rx m.p x)).length:Int)=ix m.t.sz x
theorem SM.inv_iff{m:SM}(hm:m.Sh):m.Inv↔m.I1∧m.I2:=by
 have hv:∀x:Nat,x<m.p.length→∀y∈rx m.p x,0≤y∧y<((ix m.t.sz x).toNat:Int):=by
  intro x hx y hy;have:=(hm.pt x hx).2 y hy;simp only[inR,Bool.and_eq_true,decide_eq_true_eq]at this;omega
 constructor
 ·intro h;refine⟨λx hx=>?_,λx hx=>?_⟩
  ·rw[Q7J (hv x hx)];exact(Q5Y (hv x hx)).2 (h x hx).2
  rw[Q7J (hv x hx),(Q5Y (hv x hx)).2 (h x hx).2];exact(h x hx).1
 rintro ⟨h1,h2⟩ x hx
 have a1:=h1 x hx;have a2:=h2 x hx;refine⟨by omega,(Q5Y (hv x hx)).1 ?_⟩;rw[←Q7J (hv x hx)];exact a1
def Bs(bs:List Bool):List (List AV):=bs.map λb=>[.val (.bool b)]
@[simp] theorem Bs_length(bs:List Bool):(Bs bs).length=bs.length:=by simp[Bs]
@[simp] theorem Bs_set(bs:List Bool)(i:Nat)(b:Bool):(Bs bs).set i [.val (.bool b)]=Bs (bs.set i b):=by simp[Bs,List.map_set]
@[simp] theorem Bs_rep(n:Nat)(b:Bool):zF n [.val (.bool b)]=Bs (zF n b):=by simp[Bs]
theorem iq72(u:Bool)(xs:List Int)(n:Int):Contract Tryz.prog 51 [.lst u 1 (Is xs),iV n] (.val (.bool (bo (n∈xs)))):=by
 refine Qk (rs:=[.val (.bool (bo (n∈xs)))]) Tryz.func51 rfl rfl rfl rfl (by simp[Tryz.f51]) λF hN hP=>?_;refine Q5E 0 λh0=>?_;simp at h0;obtain⟨hl0,hb0⟩:=h0.is;refine srQ hN λK hK=>?_;simp;refine hK _ ?_;clear hK K;refine Q0 (srQ hN λK hK=>?_);simp;refine hK _ (Q5 (Q1w (λi:Nat=>⟨[(0,.lst u 1 (Is xs)),(1,iV n),(5,iV i)],[],0⟩) (λi=>i≤xs.length∧∀y:Nat,y<i→ix xs y≠n) (λi=>xs.length - i) 0 (by simp) (Wk.cut (by simp) (by simp) rfl) ?_));clear hK K
 rintro i ⟨hi,ht⟩
 refine Q0 (srQ hN λK hK=>?_);simp;refine hK _ ?_;clear hK K;refine Q6 rfl (λh=>?_) λh=>?_
 ·simp at h;refine Q7 (Q0 (Q5 (srQ hN λK hK=>?_)));simp[h,Q16];refine hK _ ?_;clear hK K;refine Q6 rfl (λh2=>?_) λh2=>?_
  ·simp at h2;refine srQ hN λK hK=>?_;simp;refine hK _ (Qi (Qw rfl (bo_t ?_)));clear hK K;rw[←h2,←Q16 _ _ h];exact zY h
  simp at h2;refine Q7 (runQ hN λK hK=>?_);simp;refine hK _ ?_;clear hK K;rw[QE (n:=xs.length) (by omega) (by omega)];refine⟨i+1,⟨by omega,Q1j ht h2⟩,by dsimp only;omega,(rbQ hP [])⟩
 simp at h;have hi2:i=xs.length:=by omega
 refine Qj ?_;simp;refine srQ hN λK hK=>?_;simp;refine hK _ (Qi (Qw rfl (bo_f λhm=>?_)));clear hK K;obtain⟨y,hy,e⟩:=zX hm;exact ht y (by omega) (by rw[←Q16 _ _ hy];exact e)
end
section
attribute [local simp] Qa QD Qo QM Qx
def Es{α:Type}(c:α→List AV)(xs:List α):List (List AV):=xs.map c
def gx{α:Type}[Inhabited α](xs:List α)(j:Int):α:=xs.getD j.toNat default
def eB(b:Bool):List AV:=[.val (.bool b)]
def eI(b:Int):List AV:=[iV b]
def eL(x:List (List Int)):List AV:=[.lst true 1 (Ls x)]
section
variable {α:Type}{c:α→List AV}
@[simp] theorem Es_length(xs:List α):(Es c xs).length=xs.length:=by simp[Es]
@[simp] theorem Es_nil:Es c []=[]:=rfl
theorem Es_append(xs ys:List α):Es c (xs++ys)=Es c xs++Es c ys:=by simp[Es]
theorem Es_set'(xs:List α)(i:Nat)(x:α):Es c (xs.set i x)=(Es c xs).set i (c x):=by simp[Es,List.map_set]
theorem at_E[Inhabited α]{xs:List α}{j:Int}(h:0≤j∧j<(xs.length:Int)):(Es c xs)[j.toNat]? =some (c (gx xs j)):=by
 have h2:j.toNat<xs.length:=by omega
 simp[Es,gx,qB,h2]
end
@[simp] theorem Ls_nil':Ls []=[]:=rfl
theorem Ls_append(xs ys:List (List Int)):Ls (xs++ys)=Ls xs++Ls ys:=by simp[Ls]
@[simp] theorem Ls_rep0(n:Nat):Ls (zF n [])=zF n [AV.lst true 1 []]:=by simp[Ls]
theorem at_I{xs:List Int}{j:Int}(h:0≤j∧j<(xs.length:Int)):(Is xs)[j.toNat]? =some [iV (ix xs j)]:=by
 have h2:j.toNat<xs.length:=by omega
 simp[Is,ix,qB,h2]
theorem at_L{xs:List (List Int)}{j:Int}(h:0≤j∧j<(xs.length:Int)):(Ls xs)[j.toNat]? =some [lI (rx xs j)]:=by
 have h2:j.toNat<xs.length:=by omega
 simp[Ls,rx,qB,h2]
@[simp] theorem Is_takeE(xs:List Int)(k:Nat):List.take k (Is xs)=Is (xs.take k):=by simp[Is,List.map_take]
@[simp] theorem Ls_takeA(xs:List (List Int)):List.take xs.length (Ls xs)=Ls xs:=yP (by simp)
@[simp] theorem Es_takeE{α:Type}{f:α→List AV}(xs:List α)(k:Nat):List.take k (Es f xs)=Es f (xs.take k):=by simp[Es,List.map_take]
theorem Bs_append(xs ys:List Bool):Bs (xs++ys)=Bs xs++Bs ys:=by simp[Bs]
theorem at_B{xs:List Bool}{j:Int}(h:0≤j∧j<(xs.length:Int)):(Bs xs)[j.toNat]? =some [.val (.bool (gx xs j))]:=by
 have h2:j.toNat<xs.length:=by omega
 simp[Bs,gx,qB,h2]
theorem IA(xs ys:List Int):Is (xs++ys)=Is xs++Is ys:=Is_append xs ys
theorem I1(x:Int)(xs:List Int):Is (x::xs)=[iV x]::Is xs:=rfl
theorem LA(xs ys:List (List Int)):Ls (xs++ys)=Ls xs++Ls ys:=Ls_append xs ys
theorem L1(x:List Int)(xs:List (List Int)):Ls (x::xs)=[lI x]::Ls xs:=rfl
theorem BA(xs ys:List Bool):Bs (xs++ys)=Bs xs++Bs ys:=Bs_append xs ys
theorem B1(x:Bool)(xs:List Bool):Bs (x::xs)=[.val (.bool x)]::Bs xs:=rfl
theorem EA{α:Type}{c:α→List AV}(xs ys:List α):Es c (xs++ys)=Es c xs++Es c ys:=Es_append xs ys
theorem E1{α:Type}{c:α→List AV}(x:α)(xs:List α):Es c (x::xs)=c x::Es c xs:=rfl
theorem E2{α:Type}{c:α→List AV}(xs:List α)(i:Nat)(x:α):Es c (xs.set i x)=(Es c xs).set i (c x):=Es_set' xs i x
theorem rlLL_c{α:Type}{m:List (Nat×Nat)}{c:α→List AV}(h:∀x,rlL m (c x)=c x):∀xs:List α,rlLL m (xs.map c)=xs.map c:=by
 intro xs
 induction xs with
 |nil=>rfl
 |cons a r ih=>simp only[qK,rlLL,h,ih]
@[simp] theorem rlLL_Ls(m:List (Nat×Nat))(xs:List (List Int)):rlLL m (Ls xs)=Ls xs:=rlLL_c (λ_=>rfl) xs
@[simp] theorem Q4A{α:Type}(m:List (Nat×Nat))(c:α→List AV)(xs:List α)(h:∀x,rlL m (c x)=c x):rlLL m (Es c xs)=Es c xs:=rlLL_c h xs
@[simp] theorem rlLL_append(m:List (Nat×Nat))(xs ys:List (List AV)):rlLL m (xs++ys)=rlLL m xs++rlLL m ys:=by
 induction xs with
 |nil=>rfl
 |cons a r ih=>simp only[List.cons_append,rlLL,ih]
theorem Ls_st{xss:List (List Int)}{i:Nat}{x:List Int}:(Ls xss).set i (((Ls xss).getD i []).set 0 (lI x))=Ls (xss.set i x):=by
 by_cases h:i<xss.length
 ·rw[←Ls_set];congr 1;simp[Ls,qB,h]
 rw[List.set_eq_of_length_le (by simp;omega),List.set_eq_of_length_le (by omega)]
end
section
attribute [local simp] Qa QD Qo QM Qx
def QI(x:Cat):List AV:=[.rptr (x.cells true)]
def Q9j(x:Fn):List AV:=[.rptr (x.cells true)]
instance:Inhabited Cat:=⟨⟨0,[],[],[],[]⟩⟩
instance:Inhabited Fn:=⟨⟨default,default,[],[]⟩⟩
structure Ends where
 a:Int
 b:Int
def Ends.cells(u:Bool)(f:Ends):List AV:=[iV f.a,iV f.b]
instance:Inhabited Ends:=⟨⟨default,default⟩⟩
def Q4x(x:Ends):List AV:=[.rptr (x.cells true)]
instance Ends_deq:DecidableEq Ends:=λx y=>decidable_of_iff (x.a=y.a∧x.b=y.b) ⟨λh=>by cases x;cases y;simp_all,λh=>by subst h;simp⟩
def Ends.kv(x:Ends):Value:=.agg #[.int .i64 x.a,.int .i64 x.b]
theorem Ends.kv_inj(x y:Ends)(h:Ends.kv x=Ends.kv y):x=y:=by cases x;cases y;simp[Ends.kv]at h;simp[h]
def Q1h(xs:List (Ends×Int)):List (Value×Value):=Em Ends.kv vI xs
@[simp] theorem Mk_Ends_nil:Q1h []=[]:=rfl
@[simp] theorem find_Mk_Ends(k0 k1:Int)(xs:List (Ends×Int)):(Q1F (.agg #[.int .i64 k0,.int .i64 k1]) (Q1h xs)).getD (.int .i64 0)= .int .i64 ((QO (⟨k0,k1⟩:Ends) xs).getD 0):=by
 have:=Q4T (ev:=vI) Ends.kv_inj (⟨k0,k1⟩:Ends) xs;show(Q1F (Ends.kv (⟨k0,k1⟩:Ends)) (Em Ends.kv vI xs)).getD (.int .i64 0)=_;rw[this];cases QO (⟨k0,k1⟩:Ends) xs<;>rfl
structure XD where
 c_:Cat
 list_:List Int
 there_:List Bool
def XD.cells(u:Bool)(f:XD):List AV:=[.rptr (Cat.cells true f.c_),.lst u 1 (Is f.list_),.lst u 1 (Bs f.there_)]
instance:Inhabited XD:=⟨⟨default,default,default⟩⟩
def Qz(x:XD):List AV:=[.rptr (x.cells true)]
structure XF where
 c_:Cat
 w_:List Int
 spans_:List (List (List (List Int)))
 classes_:List (List (List Int))
 rows_:List (List Int)
def XF.cells(u:Bool)(f:XF):List AV:=[iV f.c_.n,.lst u 1 (Is f.c_.fr),.lst u 1 (Is f.c_.to),.lst u 1 (Is f.c_.id),.lst u 1 (Ls f.c_.cs),.lst u 1 (Is f.w_),.lst u 1 (Es (λx=>[.lst u 1 (Es eL x)]) f.spans_),.lst u 1 (Es eL f.classes_),.lst u 1 (Ls f.rows_)]
instance:Inhabited XF:=⟨⟨default,default,default,default,default⟩⟩
def QX(x:XF):List AV:=[.rptr (x.cells true)]
structure X3 where
 a_:Int
 b_:Int
 c_:Int
def X3.cells(u:Bool)(f:X3):List AV:=[iV f.a_,iV f.b_,iV f.c_]
instance:Inhabited X3:=⟨⟨default,default,default⟩⟩
def Q13(x:X3):List AV:=[.rptr (x.cells true)]
instance XTripleint64_deq:DecidableEq X3:=λx y=>decidable_of_iff (x.a_=y.a_∧x.b_=y.b_∧x.c_=y.c_) ⟨λh=>by cases x;cases y;simp_all,λh=>by subst h;simp⟩
def X3.kv(x:X3):Value:=.agg #[.int .i64 x.a_,.int .i64 x.b_,.int .i64 x.c_]
theorem X3.kv_inj(x y:X3)(h:X3.kv x=X3.kv y):x=y:=by cases x;cases y;simp[X3.kv]at h;simp[h]
def Q8(xs:List (X3×Int)):List (Value×Value):=Em X3.kv vI xs
@[simp] theorem Q9e:Q8 []=[]:=rfl
@[simp] theorem Q8e(xs:List (X3×Int)):(Q8 xs).length=xs.length:=by simp[Q8,Em]
@[simp] theorem Q9b(k0 k1 k2:Int)(xs:List (X3×Int)):(Q1F (.agg #[.int .i64 k0,.int .i64 k1,.int .i64 k2]) (Q8 xs)).getD (.int .i64 0)= .int .i64 ((QO (⟨k0,k1,k2⟩:X3) xs).getD 0):=by
 have:=Q4T (ev:=vI) X3.kv_inj (⟨k0,k1,k2⟩:X3) xs;show(Q1F (X3.kv (⟨k0,k1,k2⟩:X3)) (Em X3.kv vI xs)).getD (.int .i64 0)=_;rw[this];cases QO (⟨k0,k1,k2⟩:X3) xs<;>rfl
@[simp] theorem Q9c(k0 k1 k2:Int)(xs:List (X3×Int)):(Q1F (.agg #[.int .i64 k0,.int .i64 k1,.int .i64 k2]) (Q8 xs)).isSome=(QO (⟨k0,k1,k2⟩:X3) xs).isSome:=by
 have:=Q4T (ev:=vI) X3.kv_inj (⟨k0,k1,k2⟩:X3) xs;show(Q1F (X3.kv (⟨k0,k1,k2⟩:X3)) (Em X3.kv vI xs)).isSome=_;rw[this];cases QO (⟨k0,k1,k2⟩:X3) xs<;>rfl
@[simp] theorem Q9I(k0 k1 k2:Int)(v:Int)(xs:List (X3×Int)):mset (.agg #[.int .i64 k0,.int .i64 k1,.int .i64 k2]) (.int .i64 v) (Q8 xs)=Q8 (tset (⟨k0,k1,k2⟩:X3) v xs):=Q7U (ev:=vI) X3.kv_inj (⟨k0,k1,k2⟩:X3) v xs
structure XL where
 w_:XD
 category_:Cat
 first_:List (Ends×Int)
 spans_:List (Ends×(List (X3×Int)))
 leaders_:List X3
def XL.cells(u:Bool)(f:XL):List AV:=[.rptr [.rptr (Cat.cells true f.w_.c_),.lst u 1 (Is f.w_.list_),.lst u 1 (Bs f.w_.there_)],iV f.category_.n,.lst u 1 (Is f.category_.fr),.lst u 1 (Is f.category_.to),.lst u 1 (Is f.category_.id),.lst u 1 (Ls f.category_.cs),.cmap (.st 2) (Q1h f.first_),.cmapM (.st 2) (.st 3) (EC Ends.kv Q8 f.spans_),.lst u 3 (Es (X3.cells true) f.leaders_)]
instance:Inhabited XL:=⟨⟨default,default,default,default,default⟩⟩
def Q1p(x:XL):List AV:=[.rptr (x.cells true)]
set_option linter.defProp false in
def CN:=(And.intro @Cat.cells.eq_1 (And.intro @Fn.cells.eq_1 (And.intro @XD.cells.eq_1 (And.intro @Ends.cells.eq_1 (And.intro @X3.cells.eq_1 (And.intro @XF.cells.eq_1 @XL.cells.eq_1))))))
set_option linter.defProp false in
def BN:=(And.intro @UA (And.intro @U1 (And.intro @IA (And.intro @I1 (And.intro @LA (And.intro @L1 (And.intro @BA (And.intro @B1 (And.intro @EA (And.intro @E1 (And.intro @E2 (And.intro (λ(b:Bool)=>(rfl:eB b=[.val (.bool b)])) (And.intro (λ(b:Int)=>(rfl:eI b=[iV b])) (And.intro (λ(b:List (List Int))=>(rfl:eL b=[.lst true 1 (Ls b)])) (And.intro @Cat.cells.eq_1 (And.intro @Fn.cells.eq_1 (And.intro @XD.cells.eq_1 (And.intro @Ends.cells.eq_1 (And.intro @X3.cells.eq_1 (And.intro @XF.cells.eq_1 (And.intro @XL.cells.eq_1 (And.intro (λm xs=>Q4A m Qz xs (λ_=>rfl)) (And.intro (λm xs=>Q4A m Q13 xs (λ_=>rfl)) (And.intro (λm xs=>Q4A m (X3.cells true) xs (λ_=>rfl)) (And.intro (λm xs=>Q4A m QX xs (λ_=>rfl)) (And.intro (λm xs=>Q4A m (λx=>[.lst true 1 (Es eL x)]) xs (λ_=>rfl)) (And.intro (λm xs=>Q4A m eL xs (λ_=>rfl)) (λm xs=>Q4A m Q1p xs (λ_=>rfl)))))))))))))))))))))))))))))
abbrev Ta:=(List Int×List Int×List Int×List (List Int)×(List (Ends×Int))×(List (Ends×(List (X3×Int))))×List X3)
abbrev Tb:=List Int×List Int×(List (Ends×Int))×(List (Ends×(List (X3×Int))))×List X3×Bool×Int
abbrev Tc:=List Int×List Int×(List (Ends×Int))×(List (Ends×(List (X3×Int))))×List X3×Bool
abbrev Td:=(List (Ends×(List (X3×Int))))
abbrev Te:=(List (X3×Int))
theorem wkQ{F:Fx}{st st':St}(m:List (Nat×Nat))(h:(m.map Prod.fst).Nodup∧(m.map Prod.snd).Nodup∧(∀id,id<F.pins→look id m=some id)∧(∀p∈m,p.2<st'.n)∧(∀p∈st'.h,p.1<st'.n)∧(∀p∈st'.s,p.2=rl m (st.get p.1)∨p.2= .bot)∧∀p∈st'.h,hhOk m st.h p.1 p.2:=by simp[hP,hhOk,back,idQ,BN]):Wk F st st':=Wk.r1 m h
theorem wkI{F:Fx}{st st':St}(m:Nat)(h:((idQ m).map Prod.fst).Nodup∧((idQ m).map Prod.snd).Nodup∧(∀id,id<F.pins→look id (idQ m)=some id)∧(∀p∈(idQ m),p.2<st'.n)∧(∀p∈st'.h,p.1<st'.n)∧(∀p∈st'.s,p.2=rl (idQ m) (st.get p.1)∨p.2= .bot)∧∀p∈st'.h,hhOk (idQ m) st.h p.1 p.2:=by simp[hP,hhOk,back,idQ,BN]):Wk F st st':=Wk.r1 (idQ m) h
theorem wkP{F:Fx}{st st':St}{n:Nat}(m:List (Nat×Nat))(hP:F.pins=n)(hq:pinsB n m=true:=by rfl)(h:(m.map Prod.fst).Nodup∧(m.map Prod.snd).Nodup∧(∀p∈m,p.2<st'.n)∧(∀p∈st'.h,p.1<st'.n)∧(∀p∈st'.s,p.2=rl m (st.get p.1)∨p.2= .bot)∧∀p∈st'.h,hhOk m st.h p.1 p.2:=by simp[hhOk,back,idQ,BN]):Wk F st st':=Wk.rP n m hP hq h
theorem wkJ{F:Fx}{st st':St}{n:Nat}(m:Nat)(hP:F.pins=n)(hq:pinsB n (idQ m)=true:=by rfl)(h:((idQ m).map Prod.fst).Nodup∧((idQ m).map Prod.snd).Nodup∧(∀p∈(idQ m),p.2<st'.n)∧(∀p∈st'.h,p.1<st'.n)∧(∀p∈st'.s,p.2=rl (idQ m) (st.get p.1)∨p.2= .bot)∧∀p∈st'.h,hhOk (idQ m) st.h p.1 p.2:=by simp[hhOk,back,idQ,BN]):Wk F st st':=Wk.rP n (idQ m) hP hq h
theorem rxQ{F:Fx}{AQ:Exit→St→Prop}{st:St}{id:Nat}{ops:Array Oper}{d:Bool}{n:Nat}(hN:F.N=n)(h:∀K:St→Prop,(∀st',AQ .normal st'→K st')→runX Tryz.prog false [] ops ops.toList st K)(hok:(okN n ops&&(!d||(Q4V false ops&&Q2g ops)))=true:=by decide):Wp Tryz.prog F (.region id ops d) AQ st:=w_runX [] mo (by rw[hN];exact hok) h
theorem rxF{F:Fx}{AQ:Exit→St→Prop}{st:St}{id:Nat}{ops:Array Oper}{d:Bool}{n:Nat}(fz:List Nat)(hN:F.N=n)(h:∀K:St→Prop,(∀st',AQ .normal st'→K st')→runX Tryz.prog false fz ops ops.toList st K)(hok:(okN n ops&&(!d||(Q4V false ops&&Q2g ops)))=true:=by decide):Wp Tryz.prog F (.region id ops d) AQ st:=w_runX fz mo (by rw[hN];exact hok) h
end
section
attribute [local simp] Qa QD Qo QM Qx
@[simp] theorem ef_44:elm Tryz.prog 44=some 45:=by kernel_rfl
@[simp] theorem ef_45:elm Tryz.prog 45=some 23:=by kernel_rfl
@[simp] theorem ef_62:elm Tryz.prog 62=some 82:=by kernel_rfl
@[simp] theorem ef_102:elm Tryz.prog 102=some 2:=by kernel_rfl
@[simp] theorem ef_127:elm Tryz.prog 127=some 2:=by kernel_rfl
@[simp] theorem ff_29_0:fld Tryz.prog 29 0=some (0,5,true):=by kernel_rfl
@[simp] theorem ff_29_1:fld Tryz.prog 29 1=some (5,5,true):=by kernel_rfl
@[simp] theorem ff_29_2:fld Tryz.prog 29 2=some (10,1,false):=by kernel_rfl
@[simp] theorem ff_29_3:fld Tryz.prog 29 3=some (11,1,false):=by kernel_rfl
@[simp] theorem ff_47_0:fld Tryz.prog 47 0=some (0,5,true):=by kernel_rfl
@[simp] theorem ff_47_1:fld Tryz.prog 47 1=some (5,1,false):=by kernel_rfl
@[simp] theorem ff_47_2:fld Tryz.prog 47 2=some (6,1,false):=by kernel_rfl
@[simp] theorem ff_47_3:fld Tryz.prog 47 3=some (7,1,false):=by kernel_rfl
@[simp] theorem ff_47_4:fld Tryz.prog 47 4=some (8,1,false):=by kernel_rfl
@[simp] theorem ff_64_0:fld Tryz.prog 64 0=some (0,1,false):=by kernel_rfl
@[simp] theorem ff_64_1:fld Tryz.prog 64 1=some (1,5,true):=by kernel_rfl
@[simp] theorem ff_64_2:fld Tryz.prog 64 2=some (6,1,false):=by kernel_rfl
@[simp] theorem ff_64_3:fld Tryz.prog 64 3=some (7,1,false):=by kernel_rfl
@[simp] theorem ff_64_4:fld Tryz.prog 64 4=some (8,1,false):=by kernel_rfl
@[simp] theorem ff_79_0:fld Tryz.prog 79 0=some (0,1,false):=by kernel_rfl
@[simp] theorem ff_79_1:fld Tryz.prog 79 1=some (1,1,false):=by kernel_rfl
@[simp] theorem ff_79_2:fld Tryz.prog 79 2=some (2,1,false):=by kernel_rfl
@[simp] theorem ff_82_0:fld Tryz.prog 82 0=some (0,1,false):=by kernel_rfl
@[simp] theorem ff_82_1:fld Tryz.prog 82 1=some (1,1,false):=by kernel_rfl
@[simp] theorem ff_82_2:fld Tryz.prog 82 2=some (2,1,false):=by kernel_rfl
@[simp] theorem mf_60:mty Tryz.prog 60=some ((.st 2),.int .i64 0):=by kernel_rfl
@[simp] theorem mf_61:mty Tryz.prog 61=some ((.st 2),.map none):=by kernel_rfl
@[simp] theorem mf_107:mty Tryz.prog 107=some ((.st 3),.int .i64 0):=by kernel_rfl
@[simp] theorem mf_139:mty Tryz.prog 139=some ((.int .i64),.int .i64 0):=by kernel_rfl
@[simp] theorem pf_29:Q40 Tryz.prog 29=some [(0,5),(5,5),(10,1),(11,1)]:=by kernel_rfl
@[simp] theorem pf_47:Q40 Tryz.prog 47=some [(0,5),(5,1),(6,1),(7,1),(8,1)]:=by kernel_rfl
@[simp] theorem pf_64:Q40 Tryz.prog 64=some [(0,1),(1,5),(6,1),(7,1),(8,1)]:=by kernel_rfl
@[simp] theorem pf_79:Q40 Tryz.prog 79=some [(0,1),(1,1),(2,1)]:=by kernel_rfl
@[simp] theorem pf_82:Q40 Tryz.prog 82=some [(0,1),(1,1),(2,1)]:=by kernel_rfl
@[simp] theorem tf_22:tyi Tryz.prog 22=some ⟨false,1,24,[.slice none 0 0]⟩:=by kernel_rfl
@[simp] theorem tf_27:tyi Tryz.prog 27=some ⟨true,5,104,[.int .i64 0,.slice none 0 0,.slice none 0 0,.slice none 0 0,.slice none 0 0]⟩:=by kernel_rfl
@[simp] theorem tf_29:tyi Tryz.prog 29=some ⟨true,12,256,[.int .i64 0,.slice none 0 0,.slice none 0 0,.slice none 0 0,.slice none 0 0,.int .i64 0,.slice none 0 0,.slice none 0 0,.slice none 0 0,.slice none 0 0,.slice none 0 0,.slice none 0 0]⟩:=by kernel_rfl
@[simp] theorem tf_44:tyi Tryz.prog 44=some ⟨false,1,24,[.slice none 0 0]⟩:=by kernel_rfl
@[simp] theorem tf_45:tyi Tryz.prog 45=some ⟨false,1,24,[.slice none 0 0]⟩:=by kernel_rfl
@[simp] theorem tf_47:tyi Tryz.prog 47=some ⟨true,9,200,[.int .i64 0,.slice none 0 0,.slice none 0 0,.slice none 0 0,.slice none 0 0,.slice none 0 0,.slice none 0 0,.slice none 0 0,.slice none 0 0]⟩:=by kernel_rfl
@[simp] theorem tf_52:tyi Tryz.prog 52=some ⟨false,1,8,[.pointer none]⟩:=by kernel_rfl
@[simp] theorem tf_55:tyi Tryz.prog 55=some ⟨false,1,8,[.pointer none]⟩:=by kernel_rfl
@[simp] theorem tf_59:tyi Tryz.prog 59=some ⟨false,1,8,[.pointer none]⟩:=by kernel_rfl
@[simp] theorem tf_60:tyi Tryz.prog 60=some ⟨false,1,8,[.map none]⟩:=by kernel_rfl
@[simp] theorem tf_61:tyi Tryz.prog 61=some ⟨false,1,8,[.map none]⟩:=by kernel_rfl
@[simp] theorem tf_62:tyi Tryz.prog 62=some ⟨false,1,24,[.slice none 0 0]⟩:=by kernel_rfl
@[simp] theorem tf_64:tyi Tryz.prog 64=some ⟨true,9,152,[.pointer none,.int .i64 0,.slice none 0 0,.slice none 0 0,.slice none 0 0,.slice none 0 0,.map none,.map none,.slice none 0 0]⟩:=by kernel_rfl
@[simp] theorem tf_77:tyi Tryz.prog 77=some ⟨false,1,24,[.slice none 0 0]⟩:=by kernel_rfl
@[simp] theorem tf_79:tyi Tryz.prog 79=some ⟨true,3,56,[.pointer none,.slice none 0 0,.slice none 0 0]⟩:=by kernel_rfl
@[simp] theorem tf_82:tyi Tryz.prog 82=some ⟨true,3,24,[.int .i64 0,.int .i64 0,.int .i64 0]⟩:=by kernel_rfl
end
section
attribute [local simp] Qa QD Qo QM Qx
theorem toCat(u:Bool)(c:Cat)(hc:c.ok):Contract Tryz.prog 7 [.agg (c.cells u)] (.agg (c.cells true)):=c18 c u hc
theorem cszCat(u:Bool)(c:Cat)(l:Int)(h1:0≤l)(h2:l≤1048576):Contract Tryz.prog 5 [.agg (c.cells u),iV l] (iV (Q6z l c)):=c13 u c l h1 h2
theorem markCat(f:Cat)(k:Int)(hf:f.ok)(h2:0≤k)(h3:k+f.size≤576460752303423488):MContract Tryz.prog 13 [.agg [iV f.n,.own 0 0 f.fr.length,.own 1 0 f.to.length,.own 2 0 f.id.length,.own 3 0 f.cs.length],iV k] (f.mu k) (iV (k+f.size)):=by
 have q:=m31 f k hf h2 (by omega)
 rwa[show k+f.fr.length+f.to.length+f.id.length+sumL f.cs=k+f.size by simp[Cat.size,Int.add_assoc]]at q
end
section
attribute [local simp] Qa QD Qo QM Qx
def Q2U(xs:List Int)(n:Int):Option (Bool):=
 ass (B64 (n - 1))<|some ((xs.all (inR n)))
theorem Q7k(xs:List Int)(n:Int)(r:Bool)(h:Q2U xs n=some r):Contract Tryz.prog 86 [lI xs,iV n] (.val (.bool r)):=by
 unfold Q2U at h;replace⟨hn,h⟩:=Q1 h;cases h;exact c22 true xs n hn
def Q4l(n:Int)(xs:List Int):Option (Bool):=
 some ((xs.all (inR n)))
theorem Qbu(n:Int)(xs:List Int)(r:Bool)(h:Q4l n xs=some r):Contract Tryz.prog 99 [iV n,lI xs] (.val (.bool r)):=by
 unfold Q4l at h;cases h;exact c57 true xs n
def Q3A(xs:List Int):Option (List Int):=
 ass (xs.length≤1048576)<|some (xs)
theorem Q7l(xs:List Int)(r:List Int)(h:Q3A xs=some r):Contract Tryz.prog 60 [lI xs] (lI r):=by
 unfold Q3A at h;replace⟨hx,h⟩:=Q1 h;cases h;exact c58 true xs hx
def Q4d(xs:List Int):Option (List Int):=
 ass (xs.length≤1048576)<|some (xs)
theorem Q96(xs:List Int)(r:List Int)(h:Q4d xs=some r):Contract Tryz.prog 72 [lI xs] (lI r):=by
 unfold Q4d at h;replace⟨hx,h⟩:=Q1 h;cases h;exact c47 true xs hx
def Qt(c:Cat):Option (Int):=
 some (c.fr.length)
@[simp] abbrev Y0x(a:Cat)(b:List (AV)):List (AV):=.rptr (a.cells true)::b
theorem Q1n(c:Cat)(r:Int)(h:Qt c=some r):Contract Tryz.prog 65 (Y0x c []) (iV r):=by
 unfold Qt at h;cases h;have q:=c61 true c [];simp only[yQ]at q;exact q
def Q3B(c:Cat):Option (Cat):=
 ass (c.ok)<|some (c)
@[simp] abbrev Y0u(a:Cat)(b:List (AV)):List (AV):=.agg (a.cells true)::b
theorem Q7m(c:Cat)(r:Cat)(h:Q3B c=some r):Contract Tryz.prog 59 (Y0u c []) (.agg (r.cells true)):=by
 unfold Q3B at h;replace⟨hc,h⟩:=Q1 h;cases h;exact c41 true c hc
def Q1A(c:Cat):Option (Cat):=
 ass (c.ok)<|some (c)
theorem Q3D(c:Cat)(r:Cat)(h:Q1A c=some r):Contract Tryz.prog 71 (Y0x c []) (.agg (r.cells true)):=by
 unfold Q1A at h;replace⟨hc,h⟩:=Q1 h;cases h;have q:=c23 true c [] hc;simp only[yQ]at q;exact q
def Qn(c:Cat)(f:Int)(g:Int):Option (Int):=
 ass (0≤f)<|ass (f<c.cs.length)<|ass (0≤g)<|ass (g<(rx c.cs f).length)<|some ((ix (rx c.cs f) g))
theorem QF(c:Cat)(f:Int)(g:Int)(r:Int)(h:Qn c f g=some r):Contract Tryz.prog 70 (Y0x c [iV f,iV g]) (iV r):=by
 unfold Qn at h;replace⟨h1,h⟩:=Q1 h;replace⟨h2,h⟩:=Q1 h;replace⟨h3,h⟩:=Q1 h;replace⟨h4,h⟩:=Q1 h;cases h;have q:=c69 true c [] f g h1 h2 h3 h4;simp only[yQ]at q;exact q
def Q4Y(c:Cat):Option (Bool):=
 some ((bo c.Is))
theorem w_s_l02Is(c:Cat)(r:Bool)(h:Q4Y c=some r):Contract Tryz.prog 98 (Y0u c []) (.val (.bool r)):=by
 unfold Q4Y at h;cases h;exact c55 true c
def Q1k(c:Cat):Option (Bool):=
 some ((bo c.Is))
theorem Q3U(c:Cat)(r:Bool)(h:Q1k c=some r):Contract Tryz.prog 101 (Y0x c []) (.val (.bool r)):=by
 unfold Q1k at h;cases h;have q:=c60 true c [];simp only[yQ]at q;exact q
def Q3T(xs:List Int)(ys:List Int):Option (Bool):=
 some ((decide (xs=ys)))
theorem Q9U(xs:List Int)(ys:List Int)(r:Bool)(h:Q3T xs ys=some r):Contract Tryz.prog 83 [lI xs,lI ys] (.val (.bool r)):=by
 unfold Q3T at h;cases h;exact n54 true true xs ys
def Q15(xs:List Int)(n:Int):Option (Bool):=
 some ((bo (n∈xs)))
theorem Q3I(xs:List Int)(n:Int)(r:Bool)(h:Q15 xs n=some r):Contract Tryz.prog 51 [lI xs,iV n] (.val (.bool r)):=by
 unfold Q15 at h;cases h;exact iq72 true xs n
def Q19(c_:Cat)(f_:Int):Option Ends:=
 ass (0≤f_∧f_<c_.fr.length∧f_<c_.to.length)<|some ⟨ix c_.fr f_,ix c_.to f_⟩
theorem Q3E(c_:Cat)(f_:Int)(r:Ends)(h:Q19 c_ f_=some r):Contract Tryz.prog 91 (Y0x c_ [iV f_]) (.agg (r.cells true)):=by
 unfold Q19 at h;replace h:=Q1 h;obtain⟨⟨h1,h2,h3⟩,h⟩:=h;cases h;have q:=c68 true c_ [] f_ h1 h2 h3;simp only[yQ]at q;exact q
end
section
attribute [local simp] Qa QD Qo QM Qx
@[simp] theorem ass_true{α:Type}{k:Option α}:ass True k=k:=Q2 trivial
theorem QaV(p:Prop):(bo p=true)=p:=by simp[bo]
theorem Qu{p:Prop}(h:p):bo p=true:=by simp[bo,h]
theorem Qp{p:Prop}(h:¬p):bo p=false:=by simp[bo,h]
theorem Q9g{p q:Prop}(h:p↔q):bo p=bo q:=by simp[bo,h]
theorem loop_go{σ ε:Type}{body:σ→Option (Ctl σ ε)}(g:Nat→σ)(m:Nat):∀(k:Nat),m≤k→(∀i,i<m→body (g i)=some (.next (g (i+1))))→Qd body k (g 0)=Qd body (k - m) (g m):=by
 induction m with
 |zero=>intro k _ _;rfl
 |succ m ih=>
  intro k hk h;rw[ih k (by omega) λi hi=>h i (by omega)];obtain⟨j,hj⟩:∃j,k - m=j+1:=⟨k - m - 1,by omega⟩;rw[hj,show k - (m+1)=j by omega];simp only[Qd,h m (by omega)]
theorem Q1d{σ ε:Type}{body:σ→Option (Ctl σ ε)}(g:Nat→σ)(n:Nat){e:ε}{s0:σ}(h0:s0=g 0)(hn:n<4611686018427387904)(h:∀i,i<n→body (g i)=some (.next (g (i+1))))(he:body (g n)=some (.ret e)):Qd body fuel s0=some e:=by
 subst h0;rw[loop_go g n fuel (by unfold fuel;omega) h];obtain⟨j,hj⟩:∃j,fuel - n=j+1:=⟨fuel - n - 1,by unfold fuel;omega⟩;rw[hj];simp only[Qd,he]
theorem loop_chk{ε:Type}{body:Int→Option (Ctl Int ε)}(n:Nat)(p:Nat→Prop){eb eg:ε}(hn:n<4611686018427387904)(h1:∀i:Nat,i<n→p i→body (i:Int)=some (.next ((i:Int)+1)))(h2:∀i:Nat,i<n→¬p i→body (i:Int)=some (.ret eb))(h3:body (n:Int)=some (.ret eg)):
  Qd body fuel 0=some (@ite _ (∀i:Nat,i<n→p i) (Classical.propDecidable _) eg eb):=by
 by_cases hall:∀i:Nat,i<n→p i
 ·rw[if_pos hall];exact Q1d (λi:Nat=>(i:Int)) n rfl hn (λi hi=>h1 i hi (hall i hi)) h3
 rw[if_neg hall];have hex:∃i,i<n∧¬p i:=yL λhx=>hall λi hi=>yL λhp=>hx ⟨i,hi,hp⟩;obtain⟨m,⟨hm,hp⟩,hmin⟩:∃m,(m<n∧¬p m)∧∀k,k<m→¬(k<n∧¬p k):=by
  obtain⟨i,hi⟩:=hex
  induction i using Nat.strongRecOn with
  |_ i ih=>
   by_cases h:∃k,k<i∧k<n∧¬p k
   ·obtain⟨k,h1,h2⟩:=h;exact ih k h1 h2
   exact⟨i,hi,λk hk hh=>h ⟨k,hk,hh⟩⟩
 exact Q1d (λi:Nat=>(i:Int)) m rfl (by omega) (λi hi=>h1 i (by omega) (yL λhh=>hmin i hi ⟨by omega,hh⟩)) (h2 m hm hp)
theorem Q7Q{ε:Type}{body:Int→Option (Ctl Int ε)}(n:Nat)(p:Nat→Prop){eb:Nat→ε}{eg:ε}(hn:n<4611686018427387904)(h1:∀i:Nat,i<n→p i→body (i:Int)=some (.next ((i:Int)+1)))(h2:∀i:Nat,i<n→¬p i→body (i:Int)=some (.ret (eb i)))(h3:body (n:Int)=some (.ret eg)):
  ((∀i:Nat,i<n→p i)∧Qd body fuel 0=some eg)∨∃m,m<n∧¬p m∧(∀k,k<m→p k)∧Qd body fuel 0=some (eb m):=by
 by_cases hall:∀i:Nat,i<n→p i
 ·exact .inl ⟨hall,Q1d (λi:Nat=>(i:Int)) n rfl hn (λi hi=>h1 i hi (hall i hi)) h3⟩
 right;have hex:∃i,i<n∧¬p i:=yL λhx=>hall λi hi=>yL λhp=>hx ⟨i,hi,hp⟩;obtain⟨m,⟨hm,hp⟩,hmin⟩:∃m,(m<n∧¬p m)∧∀k,k<m→¬(k<n∧¬p k):=by
  obtain⟨i,hi⟩:=hex
  induction i using Nat.strongRecOn with
  |_ i ih=>
   by_cases h:∃k,k<i∧k<n∧¬p k
   ·obtain⟨k,h1,h2⟩:=h;exact ih k h1 h2
   exact⟨i,hi,λk hk hh=>h ⟨k,hk,hh⟩⟩
 have hlt:∀k,k<m→p k:=λk hk=>yL λhh=>hmin k hk ⟨by omega,hh⟩;exact⟨m,hm,hp,hlt,Q1d (λi:Nat=>(i:Int)) m rfl (by omega) (λi hi=>h1 i (by omega) (hlt i hi)) (h2 m hm hp)⟩
theorem Q7P{α ε:Type}{body:α×Int→Option (Ctl (α×Int) ε)}(g:Nat→α)(n:Nat){e:ε}{a0:α}(h0:a0=g 0)(hn:n<4611686018427387904)(h:∀i:Nat,i<n→body (g i,(i:Int))=some (.next (g (i+1),(i:Int)+1)))(he:body (g n,(n:Int))=some (.ret e)):Qd body fuel (a0,0)=some e:=by
 subst h0;exact Q1d (λi:Nat=>(g i,(i:Int))) n rfl hn h he
theorem Qa9{ε β:Type}{body:Int→Option (Ctl Int ε)}{K:ε→Option β}{r:β}(n:Nat)(p:Nat→Prop){eb eg:ε}(hn:n<4611686018427387904)(h1:∀i:Nat,i<n→p i→body (i:Int)=some (.next ((i:Int)+1)))(h2:∀i:Nat,i<n→¬p i→body (i:Int)=some (.ret eb))(h3:body (n:Int)=some (.ret eg))(hb:(¬∀i:Nat,i<n→p i)→K eb=some r)(hg:(∀i:Nat,i<n→p i)→K eg=some r):(Qd body fuel 0).bind K=some r:=by
 rw[loop_chk n p hn h1 h2 h3]
 by_cases h:∀i:Nat,i<n→p i
 ·rw[if_pos h];exact hg h
 rw[if_neg h];exact hb h
theorem Q11{α ε β:Type}{body:α×Int→Option (Ctl (α×Int) ε)}{K:ε→Option β}{r:Option β}{a0:α}(n:Nat)(g:Nat→α){e:ε}(h0:a0=g 0)(hn:n<4611686018427387904)(h:∀i:Nat,i<n→body (g i,(i:Int))=some (.next (g (i+1),(i:Int)+1)))(he:body (g n,(n:Int))=some (.ret e))(hk:K e=r):(Qd body fuel (a0,0)).bind K=r:=by
 rw[Q7P g n h0 hn h he];exact hk
end
section
attribute [local simp] Qa QD Qo QM Qx
structure Fn.Is(f:Fn):Prop where
 s:f.s.Is
 t:f.t.Is
 lo:(f.ob.length:Int)=f.s.n
 la:f.ar.length=f.s.fr.length
 ob:∀j:Nat,j<f.ob.length→0≤ix f.ob j∧ix f.ob j<f.t.n
 ar:∀j:Nat,j<f.ar.length→0≤ix f.ar j∧ix f.ar j<f.t.fr.length
 ends:∀a:Nat,a<f.s.fr.length→ix f.t.fr (ix f.ar a)=ix f.ob (ix f.s.fr a)∧ix f.t.to (ix f.ar a)=ix f.ob (ix f.s.to a)
 ids:∀x:Nat,x<f.s.id.length→ix f.ar (ix f.s.id x)=ix f.t.id (ix f.ob x)
 comp:∀a:Nat,a<f.s.fr.length→∀b:Nat,b<f.s.fr.length→ix f.s.to a=ix f.s.fr b→ix f.ar (ix (rx f.s.cs a) b)=ix (rx f.t.cs (ix f.ar a)) (ix f.ar b)
end
attribute [local simp] unk unA unE unT unC flat eL eI Qh QI Q9j Cat.cells Fn.cells
def Q34(c_:Cat)(d_:Cat)(objects_:List Int)(arrows_:List Int):Option Fn:=
 (Q1A c_).bind λv1=>
 (Q1A d_).bind λv2=>
 (Q4d objects_).bind λv3=>
 (Q4d arrows_).bind λv4=>
 some (⟨v1,v2,v3,v4⟩:Fn)
@[simp] abbrev Yt(a:Cat)(b:List (Nat×AV)):List (Nat×AV):=(0,.rptr (Cat.cells true a))::b
@[simp] abbrev Y0w(a:List (AV)):List (AV):=iV 0::nS::nS::nS::nS::a
@[simp] abbrev YA(a:List (Nat×Ent)):List (Nat×Ent):=(0,.mix 12 [(Y0w (Y0w [nS,nS]))])::a
@[simp] abbrev YG(a b:Cat)(c d:List Int)(e:List (Nat×Ent)):List (Nat×Ent):=(0,.mix 12 [[iV a.n,.own 1 0 a.fr.length,.own 2 0 a.to.length,.own 3 0 a.id.length,.own 4 0 a.cs.length,iV b.n,.own 5 0 b.fr.length,.own 6 0 b.to.length,.own 7 0 b.id.length,.own 8 0 b.cs.length,.own 9 0 c.length,.own 10 0 d.length]])::(1,rI a.fr)::(2,rI a.to)::(3,rI a.id)::(4,.row 1 (Ls a.cs))::(5,rI b.fr)::(6,rI b.to)::(7,rI b.id)::(8,.row 1 (Ls b.cs))::(9,rI c)::(10,rI d)::e
theorem Q9S(c_:Cat)(d_:Cat)(objects_:List Int)(arrows_:List Int)(r:Fn)(h:Q34 c_ d_ objects_ arrows_=some r):Contract Tryz.prog 43 (Y0x c_ (Y0x d_ [lI objects_,lI arrows_])) (.agg (r.cells true)):=by
 refine Q9 (rvs:=[.cell 8 29]) (rs:=[.agg (r.cells true)]) Tryz.func43 rfl rfl rfl rfl (by simp[Tryz.f43]) λF hN hP=>?_;unfold Q34 at h;refine Q0 (runQ hN λK hK=>?_);simp;repeat refine sdQ ?_
 refine hK _ ?_;clear hK K;refine tn (Q4 (st':=⟨Yt c_ [(1,.rptr (Cat.cells true d_)),(2,lI objects_),(3,lI arrows_),(8,.adr 0 0 0)],YA [],1⟩) (wkQ [(0,0)]) (Q0 (runQ hN λK hK=>?_)));simp;repeat with_reducible refine sdQ ?_
 replace⟨v1,hv1,h⟩:=bind_some h;refine Q3 (Q3D _ v1 hv1) (.cons (.preT (by simp[CN])) .nil) ?_;simp;repeat with_reducible refine sdQ ?_
 replace⟨v2,hv2,h⟩:=bind_some h;refine Q3 (Q3D _ v2 hv2) (.cons (.preT (by simp[CN])) .nil) ?_;simp;repeat with_reducible refine sdQ ?_
 replace⟨v3,hv3,h⟩:=bind_some h;refine Q3 (Q96 _ v3 hv3) (.cons .lst .nil) ?_;simp;repeat with_reducible refine sdQ ?_
 replace⟨v4,hv4,h⟩:=bind_some h;refine Q3 (Q96 _ v4 hv4) (.cons .lst .nil) ?_;simp;repeat refine sdQ ?_
 refine hK _ (tn (Q4 (st':=⟨[(8,.adr 0 0 0)],YG v1 v2 v3 v4 [],11⟩) (wkQ [(0,0),(2,1),(3,2),(4,3),(5,4),(7,5),(8,6),(9,7),(10,8),(11,9),(12,10)]) (Qi ?_)));clear hK K;have hr:=yJ h;rw[←hr];refine⟨_,(.cell tf_29 rfl rfl rfl (by simp) (by simp) .nil),?_⟩;refine⟨(.agg rfl .nil),[iV v1.n,lI v1.fr,lI v1.to,lI v1.id,.lst true 1 (Ls v1.cs),iV v2.n,lI v2.fr,lI v2.to,lI v2.id,.lst true 1 (Ls v2.cs),lI v3,lI v4],[1,2,3,4,5,6,7,8,9,10],by simp[BN],by simp,(yN _)⟩
attribute [local simp] unk unA unE unT unC flat eL eI Qh
def Q2v(n_:Int):Option (List Int):=
 ass (0≤n_∧n_≤1073741824)<|
 (Qd (σ:=List Int×Int) (ε:=List Int) (λs6=>
  if s6.2<((zF n_.toNat 0).length:Int)then
   ass (0≤s6.2∧s6.2<(s6.1.length:Int))<|
   ass (B64 (s6.2+1))<|
   some (yM (s6.1.set s6.2.toNat s6.2,s6.2+1))
  else
   some (yK s6.1)) fuel (zF n_.toNat 0,0)).bind λb2=>
 some b2
@[simp] abbrev Y0r(a:Int)(b:List (Nat×AV)):List (Nat×AV):=(8,iV ((zF a.toNat 0).length:Int))::b
theorem Q6A(n_:Int)(r:List Int)(h:Q2v n_=some r):Contract Tryz.prog 44 [iV n_] (lI r):=by
 refine Q9 (rvs:=[.tmp 2]) (rs:=[lI r]) Tryz.func44 rfl rfl rfl rfl (by simp[Tryz.f44]) λF hN hP=>?_;unfold Q2v at h;refine Q0 (runQ hN λK hK=>?_);simp;repeat refine sdQ ?_
 refine hK _ ?_;clear hK K;refine tn (Q4 (st':=⟨[(0,iV n_)],[],0⟩) (wkQ []) (Q0 (runQ hN λK hK=>?_)));replace⟨a1,h⟩:=Q1 h;simp;repeat refine sdQ ?_
 refine hK _ ?_;clear hK K;refine tn (Q4 (st':=⟨[(3,.own 0 0 ((zF n_.toNat 0).length))],[(0,rI (zF n_.toNat 0))],1⟩) (wkQ [(0,0)]) (Q0 (Q0 (runQ hN λK hK=>?_))));simp;repeat refine sdQ ?_
 refine hK _ (tn (Q4 (st':=⟨(3,.own 0 0 ((zF n_.toNat 0).length))::Y0r n_ [(9,iV 0)],[(0,rI (zF n_.toNat 0))],1⟩) (wkQ [(0,0)]) ?_));clear hK K;replace⟨e2,h,h2⟩:=bind_some h;refine Qc (λb2:List Int=>⟨[(3,.own 0 0 b2.length)],[(0,rI b2)],1⟩) (λb2=>b2=e2) ?_ ?_
 ·refine Q5 (Qm h (λs6:List Int×Int=>⟨(3,.own 0 0 s6.1.length)::Y0r n_ [(9,iV s6.2)],[(0,rI s6.1)],1⟩) (wkQ [(0,0)]) ?_);clear h;intro k6 s6 c6 h hk6;refine Q0 (runQ hN λK hK=>?_);simp;repeat refine sdQ ?_
  refine hK _ ?_;clear hK K;refine tn (Q0 (Q6 rfl (λg=>?_) λg=>?_))
  ·have g7:s6.2<((zF n_.toNat 0).length:Int):=gQ;clear g;replace h:=if_l g7 h;refine Q7 (tn (Q0 (Q5 (Q0 (runQ hN λK hK=>?_)))));simp;(repeat refine sdQ ?_);refine hK _ ?_;clear hK K;refine tn (Q4 (st':=⟨(3,.own 0 0 s6.1.length)::(4,iV s6.2)::Y0r n_ [(9,iV s6.2)],[(0,rI s6.1)],1⟩) (wkQ [(0,0)]) (runQ hN λK hK=>?_));replace⟨a8,h⟩:=Q1 h;simp[at_I a8];(repeat refine sdQ ?_);refine hK _ ?_;clear hK K;refine bn (tn (Q4 (st':=⟨(3,.own 0 0 ((s6.1.set s6.2.toNat s6.2).length))::Y0r n_ [(9,iV s6.2)],[(0,rI (s6.1.set s6.2.toNat s6.2))],1⟩) (wkQ [(0,0)]) (runQ hN λK hK=>?_)));replace⟨a9,h⟩:=Q1 h;simp[Qg a9];(repeat refine sdQ ?_);refine hK _ ?_;clear hK K;cases h;exact rn (s':=(s6.1.set s6.2.toNat s6.2,s6.2+1)) hk6 (wkQ [(0,0)])
  have g7:¬(s6.2<((zF n_.toNat 0).length:Int)):=gQ;clear g;replace h:=if_r g7 h;refine Qj (tx (lx (bh ?_)));cases h;exact jn (b:=s6.1) hk6 (wkQ [(0,0)])
 intro b2 hb2;have h:=h2;try rw[←hb2]at h
 clear h2;try dsimp only at h
 refine Q0 (runQ hN λK hK=>?_);simp;repeat refine sdQ ?_
 refine hK _ (tn (Q4 (st':=⟨[(2,.own 0 0 b2.length)],[(0,rI b2)],1⟩) (wkQ [(0,0)]) (Qi ?_)));clear hK K;have hr:=yJ h;rw[←hr];refine⟨_,(.tmp .nil),?_⟩;refine⟨(.one rfl rfl .nil),[lI b2],[0],by simp[BN],by simp,(yN _)⟩
attribute [local simp] unk unA unE unT unC flat eL eI Qh QI Q9j Cat.cells Fn.cells
def Q2x(c_:Cat)(d_:Cat)(objects_:List Int)(arrows_:List Int):Option Fn:=
 (Q3B c_).bind λv1=>
 (Q3B d_).bind λv2=>
 (Q3A objects_).bind λv3=>
 (Q3A arrows_).bind λv4=>
 some (⟨v1,v2,v3,v4⟩:Fn)
@[simp] abbrev Y6(a:Cat)(b:List (Nat×Ent)):List (Nat×Ent):=(0,.mix 5 [(Cat.cells true a)])::b
@[simp] abbrev Y07(a:List (Nat×AV)):List (Nat×AV):=(4,.adr 0 0 0)::(5,.adr 1 0 0)::a
theorem Q6E(c_:Cat)(d_:Cat)(objects_:List Int)(arrows_:List Int)(r:Fn)(h:Q2x c_ d_ objects_ arrows_=some r):Contract Tryz.prog 38 (Y0u c_ (Y0u d_ [lI objects_,lI arrows_])) (.agg (r.cells true)):=by
 refine Q9 (rvs:=[.cell 8 29]) (rs:=[.agg (r.cells true)]) Tryz.func38 rfl rfl rfl rfl (by simp[Tryz.f38]) λF hN hP=>?_;unfold Q2x at h;refine Q0 (runQ hN λK hK=>?_);simp;repeat refine sdQ ?_
 refine hK _ ?_;clear hK K;refine tn (Q4 (st':=⟨(2,lI objects_)::(3,lI arrows_)::Y07 [(8,.adr 2 0 0)],Y6 c_ [(1,.mix 5 [(Cat.cells true d_)]),(2,.mix 12 [(Y0w (Y0w [nS,nS]))])],3⟩) (wkI 3) (Q0 (runQ hN λK hK=>?_)));simp;repeat with_reducible refine sdQ ?_
 replace⟨v1,hv1,h⟩:=bind_some h;refine Q3 (Q7m _ v1 hv1) (.cons (.aggL (.cons .val (.cons .lst (.cons .lst (.cons .lst (.cons .lst .nil)))))) .nil) ?_;simp;repeat with_reducible refine sdQ ?_
 replace⟨v2,hv2,h⟩:=bind_some h;refine Q3 (Q7m _ v2 hv2) (.cons (.aggL (.cons .val (.cons .lst (.cons .lst (.cons .lst (.cons .lst .nil)))))) .nil) ?_;simp;repeat with_reducible refine sdQ ?_
 replace⟨v3,hv3,h⟩:=bind_some h;refine Q3 (Q7l _ v3 hv3) (.cons .lst .nil) ?_;simp;repeat with_reducible refine sdQ ?_
 replace⟨v4,hv4,h⟩:=bind_some h;refine Q3 (Q7l _ v4 hv4) (.cons .lst .nil) ?_;simp;repeat refine sdQ ?_
 refine hK _ (tn (Q4 (st':=⟨[(8,.adr 0 0 0)],YG v1 v2 v3 v4 [],11⟩) (wkQ [(2,0),(4,1),(5,2),(6,3),(7,4),(9,5),(10,6),(11,7),(12,8),(13,9),(14,10)]) (Qi ?_)));clear hK K;have hr:=yJ h;rw[←hr];refine⟨_,(.cell tf_29 rfl rfl rfl (by simp) (by simp) .nil),?_⟩;refine⟨(.agg rfl .nil),[iV v1.n,lI v1.fr,lI v1.to,lI v1.id,.lst true 1 (Ls v1.cs),iV v2.n,lI v2.fr,lI v2.to,lI v2.id,.lst true 1 (Ls v2.cs),lI v3,lI v4],[1,2,3,4,5,6,7,8,9,10],by simp[BN],by simp,(yN _)⟩
attribute [local simp] unk unA unE unT unC flat eL eI Qh QI Q9j Cat.cells Fn.cells
def Q36(c_:Cat):Option Fn:=
 (Qd (σ:=List Int×Int) (ε:=List Int) (λs5=>
  if s5.2<c_.n then
   ass ((s5.1++[s5.2]).length≤1073741824)<|
   ass (B64 (s5.2+1))<|
   some (yM (s5.1++[s5.2],s5.2+1))
  else
   some (yK s5.1)) fuel ([],0)).bind λb1=>
 (Qd (σ:=List Int×Int) (ε:=List Int) (λs13=>
  if s13.2<(c_.fr.length:Int)then
   ass ((s13.1++[s13.2]).length≤1073741824)<|
   ass (B64 (s13.2+1))<|
   some (yM (s13.1++[s13.2],s13.2+1))
  else
   some (yK s13.1)) fuel ([],0)).bind λb9=>
 (Q2x c_ c_ b1 b9).bind λv17=>
 some v17
@[simp] abbrev Yo(a:Fn)(b:List (Nat×Ent)):List (Nat×Ent):=(0,.mix 12 [[iV a.s.n,.own 1 0 a.s.fr.length,.own 2 0 a.s.to.length,.own 3 0 a.s.id.length,.own 4 0 a.s.cs.length,iV a.t.n,.own 5 0 a.t.fr.length,.own 6 0 a.t.to.length,.own 7 0 a.t.id.length,.own 8 0 a.t.cs.length,.own 9 0 a.ob.length,.own 10 0 a.ar.length]])::(1,rI a.s.fr)::(2,rI a.s.to)::(3,rI a.s.id)::(4,.row 1 (Ls a.s.cs))::(5,rI a.t.fr)::(6,rI a.t.to)::(7,rI a.t.id)::(8,.row 1 (Ls a.t.cs))::(9,rI a.ob)::(10,rI a.ar)::b
@[simp] abbrev Yv(a:List (Nat×Ent)):List (Nat×Ent):=(1,.mix 12 [(Y0w (Y0w [nS,nS]))])::a
@[simp] abbrev Yw(a:List (Nat×AV)):List (Nat×AV):=(2,.adr 0 0 0)::a
@[simp] abbrev YK(a:List (Nat×AV)):List (Nat×AV):=(1,.adr 0 0 0)::(2,.adr 1 0 0)::a
theorem Q9V(c_:Cat)(r:Fn)(h:Q36 c_=some r):Contract Tryz.prog 39 (Y0u c_ []) (.agg (r.cells true)):=by
 refine Q9 (rvs:=[.cell 2 29]) (rs:=[.agg (r.cells true)]) Tryz.func39 rfl rfl rfl rfl (by simp[Tryz.f39]) λF hN hP=>?_;unfold Q36 at h;refine Q0 (runQ hN λK hK=>?_);simp;repeat refine sdQ ?_
 refine hK _ ?_;clear hK K;refine tn (Q4 (st':=⟨YK [],Y6 c_ (Yv []),2⟩) (wkQ [(0,0),(1,1)]) (Q0 (runQ hN λK hK=>?_)));simp;repeat refine sdQ ?_
 refine hK _ ?_;clear hK K;refine tn (Q4 (st':=⟨YK [(3,.own 2 0 0),(4,.own 3 0 0)],Y6 c_ (Yv [(2,.mix 1 []),(3,.mix 1 [])]),4⟩) (wkI 4) (Q0 (Q0 (runQ hN λK hK=>?_))));simp;repeat refine sdQ ?_
 refine hK _ (tn (Q4 (st':=⟨YK [(3,.own 2 0 0),(4,.own 3 0 0),(5,iV 0)],Y6 c_ (Yv [(2,.mix 1 []),(3,.mix 1 [])]),4⟩) (wkI 4) ?_));clear hK K;replace⟨e1,h,h1⟩:=bind_some h;refine Qc (λb1:List Int=>⟨YK [(3,.own 2 0 b1.length),(4,.own 3 0 0)],Y6 c_ (Yv [(2,rI b1),(3,.mix 1 [])]),4⟩) (λb1=>b1=e1) ?_ ?_
 ·refine Q5 (Qm h (λs5:List Int×Int=>⟨YK [(3,.own 2 0 s5.1.length),(4,.own 3 0 0),(5,iV s5.2)],Y6 c_ (Yv [(2,rI s5.1),(3,.mix 1 [])]),4⟩) (Q2M ⟨YK [(3,.own 2 0 0),(4,.own 3 0 0),(5,iV 0)],Y6 c_ (Yv [(2,rI []),(3,.mix 1 [])]),4⟩ (Wk.nils [] (by simp) (by simp) (by simp[nlA]) (by simp[entN,nlL,nlA,BN]) (by simp)) (wkI 4)) ?_);clear h;intro k5 s5 c5 h hk5;refine Q0 (Q0 (runQ hN λK hK=>?_));simp;repeat refine sdQ ?_
  refine hK _ ?_;clear hK K;refine tn (Q6 rfl (λg=>?_) λg=>?_)
  ·have g6:s5.2<c_.n:=gQ;clear g;replace h:=if_l g6 h;refine Q7 (tn (Q0 (Q5 (runQ hN λK hK=>?_))));replace⟨a7,h⟩:=Q1 h;(try simp only[qD,qH,zS]at a7);simp[a7];(repeat refine sdQ ?_);refine hK _ ?_;clear hK K;refine bn (tn (Q4 (st':=⟨YK [(3,.own 2 0 ((s5.1++[s5.2]).length)),(4,.own 3 0 0),(5,iV s5.2)],Y6 c_ (Yv [(2,rI (s5.1++[s5.2])),(3,.mix 1 [])]),4⟩) (wkQ [(0,0),(1,1),(5,2),(3,3)]) (runQ hN λK hK=>?_)));replace⟨a8,h⟩:=Q1 h;simp[Qg a8];(repeat refine sdQ ?_);refine hK _ ?_;clear hK K;cases h;exact rn (s':=(s5.1++[s5.2],s5.2+1)) hk5 (wkI 4)
  have g6:¬(s5.2<c_.n):=gQ;clear g;replace h:=if_r g6 h;refine Qj (tx (lx (bh ?_)));cases h;exact jn (b:=s5.1) hk5 (wkI 4)
 intro b1 hb1;have h:=h1;try rw[←hb1]at h
 clear h1;try dsimp only at h
 refine Q0 (Q0 (runQ hN λK hK=>?_));simp;repeat refine sdQ ?_
 refine hK _ (tn (Q4 (st':=⟨YK [(3,.own 2 0 b1.length),(4,.own 3 0 0),(6,iV 0)],Y6 c_ (Yv [(2,rI b1),(3,.mix 1 [])]),4⟩) (wkI 4) ?_));clear hK K;replace⟨e9,h,h9⟩:=bind_some h;refine Qc (λb9:List Int=>⟨YK [(3,.own 2 0 b1.length),(4,.own 3 0 b9.length)],Y6 c_ (Yv [(2,rI b1),(3,rI b9)]),4⟩) (λb9=>b9=e9) ?_ ?_
 ·refine Q5 (Qm h (λs13:List Int×Int=>⟨YK [(3,.own 2 0 b1.length),(4,.own 3 0 s13.1.length),(6,iV s13.2)],Y6 c_ (Yv [(2,rI b1),(3,rI s13.1)]),4⟩) (Q2M ⟨YK [(3,.own 2 0 b1.length),(4,.own 3 0 0),(6,iV 0)],Y6 c_ (Yv [(2,rI b1),(3,rI [])]),4⟩ (Wk.nils [] (by simp) (by simp) (by simp[nlA]) (by simp[entN,nlL,nlA,BN]) (by simp)) (wkI 4)) ?_);clear h;intro k13 s13 c13 h hk13;refine Q0 (Q0 (runQ hN λK hK=>?_));simp;repeat refine sdQ ?_
  refine hK _ ?_;clear hK K;refine tn (Q6 rfl (λg=>?_) λg=>?_)
  ·have g14:s13.2<(c_.fr.length:Int):=gQ;clear g;replace h:=if_l g14 h;refine Q7 (tn (Q0 (Q5 (runQ hN λK hK=>?_))));replace⟨a15,h⟩:=Q1 h;(try simp only[qD,qH,zS]at a15);simp[a15];(repeat refine sdQ ?_);refine hK _ ?_;clear hK K;refine bn (tn (Q4 (st':=⟨YK [(3,.own 2 0 b1.length),(4,.own 3 0 ((s13.1++[s13.2]).length)),(6,iV s13.2)],Y6 c_ (Yv [(2,rI b1),(3,rI (s13.1++[s13.2]))]),4⟩) (wkQ [(0,0),(1,1),(2,2),(5,3)]) (runQ hN λK hK=>?_)));replace⟨a16,h⟩:=Q1 h;simp[Qg a16];(repeat refine sdQ ?_);refine hK _ ?_;clear hK K;cases h;exact rn (s':=(s13.1++[s13.2],s13.2+1)) hk13 (wkI 4)
  have g14:¬(s13.2<(c_.fr.length:Int)):=gQ;clear g;replace h:=if_r g14 h;refine Qj (tx (lx (bh ?_)));cases h;exact jn (b:=s13.1) hk13 (wkI 4)
 intro b9 hb9;have h:=h9;try rw[←hb9]at h
 clear h9;try dsimp only at h
 refine Q0 (runQ hN λK hK=>?_);simp;repeat with_reducible refine sdQ ?_
 replace⟨v17,hv17,h⟩:=bind_some h;refine Q3 (Q6E _ _ _ _ v17 hv17) (.cons (.aggL (.cons .val (.cons .lst (.cons .lst (.cons .lst (.cons .lst .nil)))))) (.cons (.aggL (.cons .val (.cons .lst (.cons .lst (.cons .lst (.cons .lst .nil)))))) (.cons .w (.cons .w .nil)))) ?_;simp;repeat refine sdQ ?_
 refine hK _ (tn (Q4 (st':=⟨Yw [],Yo v17 [],11⟩) (wkQ [(1,0),(5,1),(6,2),(7,3),(8,4),(10,5),(11,6),(12,7),(13,8),(14,9),(15,10)]) (Qi ?_)));clear hK K;have hr:=yJ h;rw[←hr];refine⟨_,(.cell tf_29 rfl rfl rfl (by simp) (by simp) .nil),?_⟩;refine⟨(.agg rfl .nil),[iV v17.s.n,lI v17.s.fr,lI v17.s.to,lI v17.s.id,.lst true 1 (Ls v17.s.cs),iV v17.t.n,lI v17.t.fr,lI v17.t.to,lI v17.t.id,.lst true 1 (Ls v17.t.cs),lI v17.ob,lI v17.ar],[1,2,3,4,5,6,7,8,9,10],by simp[BN],by simp,(yN _)⟩
section
attribute [local simp] Qa QD Qo QM Qx
theorem Q69(n:Nat){j:Int}(h0:0≤j)(h1:j<n):ix (iota n) j=j:=by
 obtain⟨i,rfl⟩:∃i:Nat,j=i:=⟨j.toNat,by omega⟩;rw[←Q16 _ _ (show i<(iota n).length by simp[iota];omega)];simp[iota]
theorem set_fill{α:Type}(xs:List α)(k:Nat)(v z:α){i:Nat}(h:i=xs.length):(xs++zF (k+1) z).set i v=(xs++[v])++zF k z:=by
 subst h;simp[List.replicate_succ]
def selfF(c:Cat):Fn:=⟨c,c,iota c.n.toNat,iota c.fr.length⟩
theorem Cat.Is.ok{c:Cat}(h:c.Is):c.ok:=h.1.size2.1
theorem Q8o{c d:Cat}{ob ar:List Int}(hc:c.ok)(hd:d.ok)(ho:ob.length≤1048576)(ha:ar.length≤1048576):Q2x c d ob ar=some ⟨c,d,ob,ar⟩:=by
 simp[Q2x,Q3B,Q3A,hc,hd,ho,ha]
theorem e_functor{c d:Cat}{ob ar:List Int}(hc:c.ok)(hd:d.ok)(ho:ob.length≤1048576)(ha:ar.length≤1048576):Q34 c d ob ar=some ⟨c,d,ob,ar⟩:=by
 simp[Q34,Q1A,Q4d,hc,hd,ho,ha]
theorem Q8p{n:Int}(h0:0≤n)(h1:n≤1048576):Q2v n=some (iota n.toNat):=by
 unfold Q2v;rw[Q2 (by omega)];simp only[List.length_replicate];refine Q11 n.toNat (λi:Nat=>iota i++zF (n.toNat - i) 0) (e:=iota n.toNat) (by simp[iota]) (by omega) (λi hi=>?_) (by simp) (by simp);obtain⟨k,hk⟩:∃k,n.toNat - i=k+1:=⟨n.toNat - i - 1,by omega⟩;have hl:(iota i).length=i:=by simp[iota]
 have hs:=set_fill (iota i) k (i:Int) 0 (i:=i) (by rw[hl]);rw[Q67,hk,show n.toNat - (i+1)=k by omega,←hs];simp(disch:=omega) [Q2,B64,hl];omega
theorem e_l06Self{c:Cat}(h:c.Is):Q36 c=some (selfF c):=by
 have n0:=h.1.n0;have n8:=h.1.n8;have m40:=h.1.m40;unfold Q36;refine Q11 c.n.toNat (λi:Nat=>iota i) (e:=iota c.n.toNat) (by simp[iota]) (by omega) (λi hi=>?_) (by simp;omega) ?_
 ·have hl:(iota i).length=i:=by simp[iota]
  simp(disch:=omega) [Q2,B64,Q67,hl];omega
 refine Q11 c.fr.length (λi:Nat=>iota i) (e:=iota c.fr.length) (by simp[iota]) (by omega) (λi hi=>?_) (by simp) ?_
 ·have hl:(iota i).length=i:=by simp[iota]
  simp(disch:=omega) [Q2,B64,Q67,hl];omega
 rw[Q8o h.ok h.ok (by simp[iota];omega) (by simp[iota];omega)];rfl
end
attribute [local simp] unk unA unE unT unC flat
def Qs(c_:Cat)(f_:Int)(g_:Int):Option Int:=
 ass (0≤f_∧f_<(c_.cs.length:Int))<|
 ass (0≤g_∧g_<((rx c_.cs f_).length:Int))<|
 some (ix (rx c_.cs f_) g_)
@[simp] abbrev YV(a b:Int)(c:List (Nat×AV)):List (Nat×AV):=(1,iV a)::(2,iV b)::c
theorem QZ(c_:Cat)(f_:Int)(g_:Int)(r:Int)(h:Qs c_ f_ g_=some r):Contract Tryz.prog 57 (Y0u c_ [iV f_,iV g_]) (iV r):=by
 refine Q9 (rvs:=[.tmp 6]) (rs:=[iV r]) Tryz.func57 rfl rfl rfl rfl (by simp[Tryz.f57]) λF hN hP=>?_;unfold Qs at h;refine Q0 (runQ hN λK hK=>?_);simp[eL,eI,Qh,QI,Cat.cells];repeat refine sdQ ?_
 refine hK _ ?_;clear hK K;refine tn (Q4 (st':=⟨YV f_ g_ [(3,.adr 0 0 0)],Y6 c_ [],1⟩) (wkQ [(0,0)]) (Q0 (runQ hN λK hK=>?_)));replace⟨a1,h⟩:=Q1 h;replace⟨a2,h⟩:=Q1 h;simp[eL,eI,Qh,QI,Cat.cells,at_L a1,at_I a2];repeat refine sdQ ?_
 refine hK _ (tn (Q4 (st':=⟨[(6,iV (ix (rx c_.cs f_) g_))],[],0⟩) (wkQ []) (Qi ?_)));clear hK K;have hr:=yJ h;rw[←hr];refine⟨_,(.tmp .nil),?_⟩;refine⟨(.one rfl rfl .nil),[iV (ix (rx c_.cs f_) g_)],[],by simp[BN],by simp,(yN _)⟩
section
attribute [local simp] Qa QD Qo QM Qx
structure Para(f g:Fn):Prop where
 hf:f.Is
 hg:g.Is
 s:f.s=g.s
 t:f.t=g.t
theorem Q4J{c:Cat}{f g:Int}(h0:0≤f∧f<(c.cs.length:Int))(h1:0≤g∧g<((rx c.cs f).length:Int)):Qs c f g=some (ix (rx c.cs f) g):=by
 unfold Qs;rw[Q2 h0,Q2 h1]
theorem Q7x{c:Cat}{f g:Int}(h0:0≤f∧f<(c.cs.length:Int))(h1:0≤g∧g<((rx c.cs f).length:Int)):Qn c f g=some (ix (rx c.cs f) g):=by
 unfold Qn;rw[Q2 h0.1,Q2 h0.2,Q2 h1.1,Q2 h1.2]
end
attribute [local simp] unk unA unE unT unC flat
def Q2w(c_:Cat)(f_:Int):Option Bool:=
 ass (0≤f_∧f_<(c_.fr.length:Int))<|
 ass (0≤ix c_.fr f_∧ix c_.fr f_<(c_.id.length:Int))<|
 some ((ix c_.id (ix c_.fr f_))==f_)
theorem Q6C(c_:Cat)(f_:Int)(r:Bool)(h:Q2w c_ f_=some r):Contract Tryz.prog 73 (Y0u c_ [iV f_]) (.val (.bool r)):=by
 refine Q9 (rvs:=[.tmp 4]) (rs:=[.val (.bool r)]) Tryz.func73 rfl rfl rfl rfl (by simp[Tryz.f73]) λF hN hP=>?_;unfold Q2w at h;refine Q0 (runQ hN λK hK=>?_);simp[eL,eI,Qh,QI,Cat.cells];repeat refine sdQ ?_
 refine hK _ ?_;clear hK K;refine tn (Q4 (st':=⟨(1,iV f_)::Yw [],Y6 c_ [],1⟩) (wkQ [(0,0)]) (Q0 (runQ hN λK hK=>?_)));replace⟨a1,h⟩:=Q1 h;replace⟨a2,h⟩:=Q1 h;simp[eL,eI,Qh,QI,Cat.cells,at_I a1,at_I a2];repeat refine sdQ ?_
 refine hK _ (tn (Q4 (st':=⟨[(4,.val (.bool ((ix c_.id (ix c_.fr f_))==f_)))],[],0⟩) (wkQ []) (Qi ?_)));clear hK K;have hr:=yJ h;rw[←hr];refine⟨_,(.tmp .nil),?_⟩;refine⟨(.one rfl rfl .nil),[.val (.bool ((ix c_.id (ix c_.fr f_))==f_))],[],by simp[BN],by simp,(yN _)⟩
section
attribute [local simp] Qa QD Qo QM Qx
def tab{α:Type}(n:Nat)(g:Nat→α):List α:=(zW n).map g
@[simp] theorem Q7g{α:Type}(n:Nat)(g:Nat→α):(tab n g).length=n:=by simp[tab]
theorem Q4n{α:Type}(n:Nat)(g:Nat→α):tab (n+1) g=tab n g++[g n]:=by simp[tab,List.range_succ]
theorem tab_zero{α:Type}(g:Nat→α):tab 0 g=[]:=rfl
theorem Q8G(n:Nat)(g:Nat→Int){i:Nat}(h:i<n):ix (tab n g) i=g i:=by
 rw[←Q16 _ _ (show i<(tab n g).length by simpa using h)];simp[tab]
end
section
attribute [local simp] Qa QD Qo QM Qx
def mixr{α:Type}(m g:Nat)(v:Nat→α)(z:α):List α:=tab m λj=>if j<g then v j else z
@[simp] theorem mixr_length{α:Type}(m g:Nat)(v:Nat→α)(z:α):(mixr m g v z).length=m:=by simp[mixr]
theorem Q7T{α:Type}{m g:Nat}{v:Nat→α}{z:α}:(mixr m g v z).set g (v g)=mixr m (g+1) v z:=by
 refine List.ext_getElem (by simp) λj h1 h2=>?_;simp only[mixr,tab,List.getElem_set,List.getElem_map,List.getElem_range]
 by_cases h:g=j
 ·subst h;simp
 have:(j<g)=(j<g+1):=propext ⟨λ_=>by omega,λ_=>by omega⟩;simp[h,this]
theorem Q8U{α:Type}(m:Nat)(v:Nat→α)(z:α):mixr m 0 v z=zF m z:=by
 refine List.ext_getElem (by simp) λj h1 h2=>?_;simp[mixr,tab]
theorem Qay{α:Type}(m:Nat)(v:Nat→α)(z:α):mixr m m v z=tab m v:=by
 refine List.ext_getElem (by simp) λj h1 h2=>?_;have:j<m:=by simpa using h1
 simp[mixr,tab,this]
theorem Q51{α:Type}{n:Nat}{f g:Nat→α}(h:∀i,i<n→f i=g i):tab n f=tab n g:=by
 unfold tab;exact List.map_congr_left λi hi=>h i (by simpa using hi)
theorem rx_set{xs:List (List Int)}{i:Nat}(h:i<xs.length)(r:List Int):rx (xs.set i r) (i:Int)=r:=by
 simp[rx,qB,h]
end
attribute [local simp] unk unA unE unT unC flat eL eI Qh QI Cat.cells
def QA(c_:Cat)(x_:Int)(y_:Int):Option (List Int):=
 (Qd (σ:=List Int×Int) (ε:=List Int) (λs11=>
  if s11.2<(c_.fr.length:Int)then
   (
    (
     ass (0≤s11.2∧s11.2<(c_.fr.length:Int))<|
     if(ix c_.fr s11.2)=x_ then
      ass (0≤s11.2∧s11.2<(c_.to.length:Int))<|
      some ((ix c_.to s11.2)==y_)
     else
      some false:Option (Bool)).bind λb14=>
    if b14=true then
     ass ((s11.1++[s11.2]).length≤1073741824)<|
     some (s11.1++[s11.2])
    else
     some s11.1:Option (List Int)).bind λb13=>
   ass (B64 (s11.2+1))<|
   some (yM (b13,s11.2+1))
  else
   some (yK s11.1)) fuel ([],0)).bind λb1=>
 some b1
theorem Q1K(c_:Cat)(x_:Int)(y_:Int)(r:List Int)(h:QA c_ x_ y_=some r):Contract Tryz.prog 74 (Y0x c_ [iV x_,iV y_]) (lI r):=by
 refine Q9 (rvs:=[.tmp 6]) (rs:=[lI r]) Tryz.func74 rfl rfl rfl rfl (by simp[Tryz.f74]) λF hN hP=>?_;unfold QA at h;refine Q0 (runQ hN λK hK=>?_);simp;repeat refine sdQ ?_
 refine hK _ ?_;clear hK K;refine tn (Q4 (st':=⟨Yt c_ (YV x_ y_ []),[],0⟩) (wkQ []) (Q0 (runQ hN λK hK=>?_)));simp;repeat refine sdQ ?_
 refine hK _ ?_;clear hK K;refine tn (Q4 (st':=⟨Yt c_ (YV x_ y_ [(7,.own 0 0 0)]),[(0,.mix 1 [])],1⟩) (wkQ [(0,0)]) (Q0 (Q0 (runQ hN λK hK=>?_))));simp;repeat refine sdQ ?_
 refine hK _ (tn (Q4 (st':=⟨Yt c_ (YV x_ y_ [(7,.own 0 0 0),(14,iV (c_.fr.length:Int)),(15,iV 0)]),[(0,.mix 1 [])],1⟩) (wkQ [(0,0)]) ?_));clear hK K;replace⟨e1,h,h1⟩:=bind_some h;refine Qc (λb1:List Int=>⟨[(7,.own 0 0 b1.length)],[(0,rI b1)],1⟩) (λb1=>b1=e1) ?_ ?_
 ·refine Q5 (Qm h (λs11:List Int×Int=>⟨Yt c_ (YV x_ y_ [(7,.own 0 0 s11.1.length),(14,iV (c_.fr.length:Int)),(15,iV s11.2)]),[(0,rI s11.1)],1⟩) (Q2M ⟨Yt c_ (YV x_ y_ [(7,.own 0 0 0),(14,iV (c_.fr.length:Int)),(15,iV 0)]),[(0,rI [])],1⟩ (Wk.nils [] (by simp) (by simp) (by simp[nlA]) (by simp[entN,nlL,nlA,BN]) (by simp)) (wkQ [(0,0)])) ?_);clear h;intro k11 s11 c11 h hk11;refine Q0 (runQ hN λK hK=>?_);simp;repeat refine sdQ ?_
  refine hK _ ?_;clear hK K;refine tn (Q0 (Q6 rfl (λg=>?_) λg=>?_))
  ·have g12:s11.2<(c_.fr.length:Int):=gQ;clear g;replace h:=if_l g12 h;refine Q7 (tn (Q0 ?_));replace⟨e13,h,h13⟩:=bind_some h;refine Qc (λb13:List Int=>⟨Yt c_ (YV x_ y_ [(7,.own 0 0 b13.length),(14,iV (c_.fr.length:Int)),(15,iV s11.2)]),[(0,rI b13)],1⟩) (λb13=>b13=e13) ?_ ?_
   ·refine Q5 (Q0 (runQ hN λK hK=>?_));simp;(repeat refine sdQ ?_);refine hK _ (tn (Q4 (st':=⟨Yt c_ (YV x_ y_ [(7,.own 0 0 s11.1.length),(8,iV s11.2),(14,iV (c_.fr.length:Int)),(15,iV s11.2)]),[(0,rI s11.1)],1⟩) (wkQ [(0,0)]) (Q0 ?_)));clear hK K;replace⟨e14,h,h14⟩:=bind_some h;refine Qc (λb14:Bool=>⟨Yt c_ (YV x_ y_ [(7,.own 0 0 s11.1.length),(8,iV s11.2),(14,iV (c_.fr.length:Int)),(15,iV s11.2),(37,.val (.bool b14))]),[(0,rI s11.1)],1⟩) (λb14=>b14=e14) ?_ ?_
    ·refine runQ hN λK hK=>?_;replace⟨a15,h⟩:=Q1 h;simp[at_I a15];(repeat with_reducible refine sdQ ?_);refine Qv (λg=>?_) (λg=>?_)
     ·have g16:(ix c_.fr s11.2)=x_:=gQ;clear g;replace h:=if_l g16 h;replace⟨a17,h⟩:=Q1 h;simp[at_I a15,at_I a17];(repeat refine sdQ ?_);refine hK _ ?_;exact jn (b:=(ix c_.to s11.2)==y_) (yJ h) (wkQ [(0,0)])
     have g16:¬((ix c_.fr s11.2)=x_):=gQ;clear g;replace h:=if_r g16 h;simp[at_I a15];(repeat refine sdQ ?_);refine hK _ ?_;exact jn (b:=false) (yJ h) (wkQ [(0,0)])
    intro b14 hb14;have h:=h14;(try rw[←hb14]at h);clear h14;(try dsimp only at h);refine Q6 rfl (λg=>?_) λg=>?_
    ·have g18:b14=true:=gQ;clear g;replace h:=if_l g18 h;refine runQ hN λK hK=>?_;replace⟨a19,h⟩:=Q1 h;(try simp only[qD,qH,zS]at a19);simp[a19];(repeat refine sdQ ?_);refine hK _ (bn ?_);clear hK K;exact jn (b:=s11.1++[s11.2]) (yJ h) (wkQ [(2,0)])
    have g18:¬(b14=true):=gQ;clear g;replace h:=if_r g18 h;refine Q7 (bn ?_);exact jn (b:=s11.1) (yJ h) (wkQ [(0,0)])
   intro b13 hb13;have h:=h13;(try rw[←hb13]at h);clear h13;(try dsimp only at h);refine runQ hN λK hK=>?_;replace⟨a20,h⟩:=Q1 h;simp[Qg a20];(repeat refine sdQ ?_);refine hK _ ?_;clear hK K;cases h;exact rn (s':=(b13,s11.2+1)) hk11 (wkQ [(0,0)])
  have g12:¬(s11.2<(c_.fr.length:Int)):=gQ;clear g;replace h:=if_r g12 h;refine Qj (tx (lx (bh ?_)));cases h;exact jn (b:=s11.1) hk11 (wkQ [(0,0)])
 intro b1 hb1;have h:=h1;try rw[←hb1]at h
 clear h1;try dsimp only at h
 refine Q0 (runQ hN λK hK=>?_);simp;repeat refine sdQ ?_
 refine hK _ (tn (Q4 (st':=⟨[(6,.own 0 0 b1.length)],[(0,rI b1)],1⟩) (wkQ [(0,0)]) (Qi ?_)));clear hK K;have hr:=yJ h;rw[←hr];refine⟨_,(.tmp .nil),?_⟩;refine⟨(.one rfl rfl .nil),[lI b1],[0],by simp[BN],by simp,(yN _)⟩
attribute [local simp] unk unA unE unT unC flat eL eI Qh QI Cat.cells
def Q1i(c_:Cat)(f_:Int):Option Int:=
 ass (0≤f_∧f_<(c_.fr.length:Int))<|
 ass (0≤f_∧f_<(c_.to.length:Int))<|
 (QA c_ (ix c_.to f_) (ix c_.fr f_)).bind λv3=>
 (Qd (σ:=Int) (ε:=Unit⊕Int) (λs15=>
  if s15<(v3.length:Int)then
   ass (0≤s15∧s15<(v3.length:Int))<|
   (
    (Qn c_ f_ (ix v3 s15)).bind λv19=>
    ass (0≤ix c_.fr f_∧ix c_.fr f_<(c_.id.length:Int))<|
    if v19=(ix c_.id (ix c_.fr f_))then
     (Qn c_ (ix v3 s15) f_).bind λv22=>
     ass (0≤ix c_.to f_∧ix c_.to f_<(c_.id.length:Int))<|
     some (v22==(ix c_.id (ix c_.to f_)))
    else
     some false:Option (Bool)).bind λb18=>
   if b18=true then
    some (yK (Sum.inr (ix v3 s15)))
   else
    ass (B64 (s15+1))<|
    some (yM (s15+1))
  else
   some (yK (Sum.inl ()))) fuel 0).bind λe4=>
 match e4 with
 | .inl b4=>
  some (-1)
 | .inr p4=>
  some p4
@[simp] abbrev Y0e(a:Int)(b:Cat)(c:List (Nat×AV)):List (Nat×AV):=(1,iV a)::(5,iV (ix b.fr a))::(6,iV (ix b.to a))::c
theorem Q4p(c_:Cat)(f_:Int)(r:Int)(h:Q1i c_ f_=some r):Contract Tryz.prog 47 (Y0x c_ [iV f_]) (iV r):=by
 refine Q9 (rvs:=[.tmp 4]) (rs:=[iV r]) Tryz.func47 rfl rfl rfl rfl (by simp[Tryz.f47]) λF hN hP=>?_;unfold Q1i at h;refine Q0 (runQ hN λK hK=>?_);simp;repeat refine sdQ ?_
 refine hK _ ?_;clear hK K;refine tn (Q4 (st':=⟨Yt c_ [(1,iV f_)],[],0⟩) (wkQ []) (Q0 (runQ hN λK hK=>?_)));replace⟨a1,h⟩:=Q1 h;replace⟨a2,h⟩:=Q1 h;simp[at_I a1,at_I a2];repeat refine sdQ ?_
 refine hK _ ?_;clear hK K;refine tn (Q4 (st':=⟨Yt c_ (Y0e f_ c_ []),[],0⟩) (wkQ []) (Q0 (Q0 (runQ hN λK hK=>?_))));simp;repeat with_reducible refine sdQ ?_
 replace⟨v3,hv3,h⟩:=bind_some h;refine Q3 (Q1K _ _ _ v3 hv3) (.cons (.preT (by simp[CN])) (.cons .val (.cons .val .nil))) ?_;simp;repeat refine sdQ ?_
 refine hK _ (tn (Q4 (st':=⟨Yt c_ (Y0e f_ c_ [(26,.own 0 0 v3.length),(27,iV (v3.length:Int)),(28,iV 0)]),[(0,rI v3)],1⟩) (wkQ [(0,0)]) ?_));clear hK K;replace⟨e4,h,h4⟩:=bind_some h;refine Qc (λb4:Unit=>⟨[],[],0⟩) (λb4=>Sum.inl b4=e4) ?_ ?_
 ·refine Q5 (Qm h (λs15:Int=>⟨Yt c_ (Y0e f_ c_ [(26,.own 0 0 v3.length),(27,iV (v3.length:Int)),(28,iV s15)]),[(0,rI v3)],1⟩) (wkQ [(0,0)]) ?_);clear h;intro k15 s15 c15 h hk15;refine Q0 (runQ hN λK hK=>?_);simp;repeat refine sdQ ?_
  refine hK _ ?_;clear hK K;refine tn (Q0 (Q6 rfl (λg=>?_) λg=>?_))
  ·have g16:s15<(v3.length:Int):=gQ;clear g;replace h:=if_l g16 h;refine Q7 (tn (Q0 (Q5 (Q0 (runQ hN λK hK=>?_)))));replace⟨a17,h⟩:=Q1 h;simp[at_I a17];(repeat refine sdQ ?_);refine hK _ (tn (Q4 (st':=⟨Yt c_ (Y0e f_ c_ [(8,iV (ix v3 s15)),(26,.own 0 0 v3.length),(27,iV (v3.length:Int)),(28,iV s15)]),[(0,rI v3)],1⟩) (wkQ [(0,0)]) (Q0 ?_)));clear hK K;replace⟨e18,h,h18⟩:=bind_some h;refine Qc (λb18:Bool=>⟨Yt c_ (Y0e f_ c_ [(8,iV (ix v3 s15)),(26,.own 0 0 v3.length),(27,iV (v3.length:Int)),(28,iV s15),(57,.val (.bool b18))]),[(0,rI v3)],1⟩) (λb18=>b18=e18) ?_ ?_
   ·refine runQ hN λK hK=>?_;simp;(repeat with_reducible refine sdQ ?_);replace⟨v19,hv19,h⟩:=bind_some h;refine Q3 (QF _ _ _ v19 hv19) (.cons (.preT (by simp[CN])) (.cons .val (.cons .val .nil))) ?_;replace⟨a20,h⟩:=Q1 h;simp[at_I a20];(repeat with_reducible refine sdQ ?_);refine Qv (λg=>?_) (λg=>?_)
    ·have g21:v19=(ix c_.id (ix c_.fr f_)):=gQ;clear g;replace h:=if_l g21 h;simp[at_I a20];(repeat with_reducible refine sdQ ?_);replace⟨v22,hv22,h⟩:=bind_some h;refine Q3 (QF _ _ _ v22 hv22) (.cons (.preT (by simp[CN])) (.cons .val (.cons .val .nil))) ?_;replace⟨a23,h⟩:=Q1 h;simp[at_I a20,at_I a23];(repeat refine sdQ ?_);refine hK _ ?_;exact jn (b:=v22==(ix c_.id (ix c_.to f_))) (yJ h) (wkQ [(0,0)])
    have g21:¬(v19=(ix c_.id (ix c_.fr f_))):=gQ;clear g;replace h:=if_r g21 h;simp[at_I a20];(repeat refine sdQ ?_);refine hK _ ?_;exact jn (b:=false) (yJ h) (wkQ [(0,0)])
   intro b18 hb18;have h:=h18;(try rw[←hb18]at h);clear h18;(try dsimp only at h);refine Q6 rfl (λg=>?_) λg=>?_
   ·have g24:b18=true:=gQ;clear g;replace h:=if_l g24 h;refine Q0 (runQ hN λK hK=>?_);simp;(repeat refine sdQ ?_);refine hK _ (tn (Q4 (st':=⟨[(4,iV (ix v3 s15))],[],0⟩) (wkQ []) (Qi (br (tr (lr (br (tr ?_))))))));clear hK K;cases h;have q:_=e4:=hk15;have h:=h4;rw[←q]at h;clear q;(try dsimp only at h);have hr:=yJ h;rw[←hr];refine⟨_,(.tmp .nil),?_⟩;refine⟨(.one rfl rfl .nil),[iV (ix v3 s15)],[],by simp[BN],by simp,(yN _)⟩
   have g24:¬(b18=true):=gQ;clear g;replace h:=if_r g24 h;refine Q7 (bn (tn (runQ hN λK hK=>?_)));replace⟨a25,h⟩:=Q1 h;simp[Qg a25];(repeat refine sdQ ?_);refine hK _ ?_;clear hK K;cases h;exact rn (s':=s15+1) hk15 (wkQ [(0,0)])
  have g16:¬(s15<(v3.length:Int)):=gQ;clear g;replace h:=if_r g16 h;refine Qj (tx (lx (bh ?_)));cases h;exact jn (b:=()) hk15 (wkQ [])
 intro b4 hb4;have h:=h4;try rw[←hb4]at h
 clear h4;try dsimp only at h
 refine Q0 (runQ hN λK hK=>?_);simp;repeat refine sdQ ?_
 refine hK _ (tn (Q4 (st':=⟨[(4,iV (-1))],[],0⟩) (wkQ []) (Qi ?_)));clear hK K;have hr:=yJ h;rw[←hr];refine⟨_,(.tmp .nil),?_⟩;refine⟨(.one rfl rfl .nil),[iV (-1)],[],by simp[BN],by simp,(yN _)⟩
attribute [local simp] unk unA unE unT unC flat eL eI Qh QI Cat.cells
def Q1b(c_:Cat)(x_:Int)(y_:Int):Option (List Int):=
 (Qd (σ:=List Int×Int) (ε:=List Int) (λs11=>
  if s11.2<(c_.fr.length:Int)then
   (
    (
     ass (0≤s11.2∧s11.2<(c_.fr.length:Int))<|
     if(ix c_.fr s11.2)=x_ then
      ass (0≤s11.2∧s11.2<(c_.to.length:Int))<|
      some ((ix c_.to s11.2)==y_)
     else
      some false:Option (Bool)).bind λb14=>
    if b14=true then
     ass ((s11.1++[s11.2]).length≤1073741824)<|
     some (s11.1++[s11.2])
    else
     some s11.1:Option (List Int)).bind λb13=>
   ass (B64 (s11.2+1))<|
   some (yM (b13,s11.2+1))
  else
   some (yK s11.1)) fuel ([],0)).bind λb1=>
 some b1
theorem Q2z(c_:Cat)(x_:Int)(y_:Int)(r:List Int)(h:Q1b c_ x_ y_=some r):Contract Tryz.prog 50 (Y0u c_ [iV x_,iV y_]) (lI r):=by
 refine Q9 (rvs:=[.tmp 6]) (rs:=[lI r]) Tryz.func50 rfl rfl rfl rfl (by simp[Tryz.f50]) λF hN hP=>?_;unfold Q1b at h;refine Q0 (runQ hN λK hK=>?_);simp;repeat refine sdQ ?_
 refine hK _ ?_;clear hK K;refine tn (Q4 (st':=⟨YV x_ y_ [(3,.adr 0 0 0)],Y6 c_ [],1⟩) (wkQ [(0,0)]) (Q0 (runQ hN λK hK=>?_)));simp;repeat refine sdQ ?_
 refine hK _ ?_;clear hK K;refine tn (Q4 (st':=⟨YV x_ y_ [(3,.adr 0 0 0),(7,.own 1 0 0)],Y6 c_ [(1,.mix 1 [])],2⟩) (wkQ [(0,0),(1,1)]) (Q0 (Q0 (runQ hN λK hK=>?_))));simp;repeat refine sdQ ?_
 refine hK _ (tn (Q4 (st':=⟨YV x_ y_ [(3,.adr 0 0 0),(7,.own 1 0 0),(8,iV 0)],Y6 c_ [(1,.mix 1 [])],2⟩) (wkQ [(0,0),(1,1)]) ?_));clear hK K;replace⟨e1,h,h1⟩:=bind_some h;refine Qc (λb1:List Int=>⟨[(7,.own 0 0 b1.length)],[(0,rI b1)],1⟩) (λb1=>b1=e1) ?_ ?_
 ·refine Q5 (Qm h (λs11:List Int×Int=>⟨YV x_ y_ [(3,.adr 0 0 0),(7,.own 1 0 s11.1.length),(8,iV s11.2)],Y6 c_ [(1,rI s11.1)],2⟩) (Q2M ⟨YV x_ y_ [(3,.adr 0 0 0),(7,.own 1 0 0),(8,iV 0)],Y6 c_ [(1,rI [])],2⟩ (Wk.nils [] (by simp) (by simp) (by simp[nlA]) (by simp[entN,nlL,nlA,BN]) (by simp)) (wkQ [(0,0),(1,1)])) ?_);clear h;intro k11 s11 c11 h hk11;refine Q0 (Q0 (runQ hN λK hK=>?_));simp;repeat refine sdQ ?_
  refine hK _ ?_;clear hK K;refine tn (Q6 rfl (λg=>?_) λg=>?_)
  ·have g12:s11.2<(c_.fr.length:Int):=gQ;clear g;replace h:=if_l g12 h;refine Q7 (tn (Q0 ?_));replace⟨e13,h,h13⟩:=bind_some h;refine Qc (λb13:List Int=>⟨YV x_ y_ [(3,.adr 0 0 0),(7,.own 1 0 b13.length),(8,iV s11.2)],Y6 c_ [(1,rI b13)],2⟩) (λb13=>b13=e13) ?_ ?_
   ·refine Q5 (Q0 ?_);replace⟨e14,h,h14⟩:=bind_some h;refine Qc (λb14:Bool=>⟨YV x_ y_ [(3,.adr 0 0 0),(7,.own 1 0 s11.1.length),(8,iV s11.2),(32,.val (.bool b14))],Y6 c_ [(1,rI s11.1)],2⟩) (λb14=>b14=e14) ?_ ?_
    ·refine runQ hN λK hK=>?_;replace⟨a15,h⟩:=Q1 h;simp[at_I a15];(repeat with_reducible refine sdQ ?_);refine Qv (λg=>?_) (λg=>?_)
     ·have g16:(ix c_.fr s11.2)=x_:=gQ;clear g;replace h:=if_l g16 h;replace⟨a17,h⟩:=Q1 h;simp[at_I a15,at_I a17];(repeat refine sdQ ?_);refine hK _ ?_;exact jn (b:=(ix c_.to s11.2)==y_) (yJ h) (wkQ [(0,0),(1,1)])
     have g16:¬((ix c_.fr s11.2)=x_):=gQ;clear g;replace h:=if_r g16 h;simp[at_I a15];(repeat refine sdQ ?_);refine hK _ ?_;exact jn (b:=false) (yJ h) (wkQ [(0,0),(1,1)])
    intro b14 hb14;have h:=h14;(try rw[←hb14]at h);clear h14;(try dsimp only at h);refine Q6 rfl (λg=>?_) λg=>?_
    ·have g18:b14=true:=gQ;clear g;replace h:=if_l g18 h;refine runQ hN λK hK=>?_;replace⟨a19,h⟩:=Q1 h;(try simp only[qD,qH,zS]at a19);simp[a19];(repeat refine sdQ ?_);refine hK _ (bn ?_);clear hK K;exact jn (b:=s11.1++[s11.2]) (yJ h) (wkQ [(0,0),(3,1)])
    have g18:¬(b14=true):=gQ;clear g;replace h:=if_r g18 h;refine Q7 (bn ?_);exact jn (b:=s11.1) (yJ h) (wkQ [(0,0),(1,1)])
   intro b13 hb13;have h:=h13;(try rw[←hb13]at h);clear h13;(try dsimp only at h);refine runQ hN λK hK=>?_;replace⟨a20,h⟩:=Q1 h;simp[Qg a20];(repeat refine sdQ ?_);refine hK _ ?_;clear hK K;cases h;exact rn (s':=(b13,s11.2+1)) hk11 (wkQ [(0,0),(1,1)])
  have g12:¬(s11.2<(c_.fr.length:Int)):=gQ;clear g;replace h:=if_r g12 h;refine Qj (tx (lx (bh ?_)));cases h;exact jn (b:=s11.1) hk11 (wkQ [(1,0)])
 intro b1 hb1;have h:=h1;try rw[←hb1]at h
 clear h1;try dsimp only at h
 refine Q0 (runQ hN λK hK=>?_);simp;repeat refine sdQ ?_
 refine hK _ (tn (Q4 (st':=⟨[(6,.own 0 0 b1.length)],[(0,rI b1)],1⟩) (wkQ [(0,0)]) (Qi ?_)));clear hK K;have hr:=yJ h;rw[←hr];refine⟨_,(.tmp .nil),?_⟩;refine⟨(.one rfl rfl .nil),[lI b1],[0],by simp[BN],by simp,(yN _)⟩
section
attribute [local simp] Qa QD Qo QM Qx
def flt(n:Nat)(p:Nat→Prop):List Int:=((zW n).filter λi=>bo (p i)).map Int.ofNat
def fstN(n:Nat)(p:Nat→Prop):Int:=(((zW n).find? λi=>bo (p i)).map Int.ofNat).getD (-1)
theorem Q2r{n:Nat}{p:Nat→Prop}(h:p n):flt (n+1) p=flt n p++[(n:Int)]:=by simp[flt,List.range_succ,Qu h]
theorem Q2b{n:Nat}{p:Nat→Prop}(h:¬p n):flt (n+1) p=flt n p:=by simp[flt,List.range_succ,Qp h]
theorem Q2q(n:Nat)(p:Nat→Prop):(flt n p).length≤n:=by
 unfold flt;rw[List.length_map];exact Nat.le_trans (List.length_filter_le _ _) (by simp)
theorem mem_flt{n:Nat}{p:Nat→Prop}{x:Int}:x∈flt n p↔∃i:Nat,i<n∧p i∧x=(i:Int):=by
 simp only[flt,List.mem_map,List.mem_filter,List.mem_range,QaV];constructor
 ·rintro ⟨i,⟨h1,h2⟩,rfl⟩;exact⟨i,h1,h2,rfl⟩
 rintro ⟨i,h1,h2,rfl⟩;exact⟨i,⟨h1,h2⟩,rfl⟩
theorem Q68{n:Nat}{p:Nat→Prop}{i:Nat}(h:i<(flt n p).length):∃k:Nat,k<n∧p k∧ix (flt n p) i=(k:Int):=by
 have:=zY h;rw[Q16 _ _ h]at this;exact mem_flt.1 this
theorem Q4M(n:Nat)(p:Nat→Prop):(fstN n p= -1∧∀i,i<n→¬p i)∨∃k:Nat,k<n∧p k∧fstN n p=(k:Int):=by
 unfold fstN;cases h:(zW n).find? λi=>bo (p i)with
 |none=>
  refine .inl ⟨rfl,λi hi=>?_⟩;have:=List.find?_eq_none.1 h i (by simpa using hi);simpa[QaV]using this
 |some k=>
  have h1:=List.find?_some h;have h2:=List.mem_of_find?_eq_some h;exact .inr ⟨k,by simpa using h2,by simpa[QaV]using h1,rfl⟩
theorem first_flt(n:Nat)(p:Nat→Prop)(q:Int→Prop):((flt n p).find? λv=>bo (q v)).getD (-1)=fstN n λi=>p i∧q i:=by
 unfold flt fstN;rw[List.find?_map,List.find?_filter]
 congr 3
 funext i
 by_cases h1:p i<;>by_cases h2:q i<;>simp[bo,h1,h2]
theorem find_loop{ε:Type}{body:Int→Option (Ctl Int ε)}(xs:List Int)(q:Int→Prop){eb:Int→ε}{eg:ε}(hn:xs.length<4611686018427387904)(h1:∀i:Nat,i<xs.length→¬q (ix xs i)→body (i:Int)=some (.next ((i:Int)+1)))(h2:∀i:Nat,i<xs.length→q (ix xs i)→body (i:Int)=some (.ret (eb (ix xs i))))(h3:body (xs.length:Int)=some (.ret eg)):
  Qd body fuel 0=some (((xs.find? λv=>bo (q v)).map eb).getD eg):=by
 rcases Q7Q (body:=body) xs.length (λi=>¬q (ix xs i)) (eb:=λi=>eb (ix xs i)) (eg:=eg) hn h1 (λi hi h=>h2 i hi (yL h)) h3 with⟨h,e⟩|⟨m,hm,hq,hlt,e⟩
 ·rw[e,List.find?_eq_none.2 λx hx=>?_]
  ·rfl
  obtain⟨i,hi,rfl⟩:=zX hx;have:=h i hi;rw[←Q16 _ _ hi]at this;simpa[QaV]using this
 rw[e,show(xs.find? λv=>bo (q v))=some (ix xs m) from List.find?_eq_some_iff_getElem.2 ⟨by rw[QaV];exact yL hq,m,hm,Q16 _ _ hm,λj hj=>?_⟩]
 ·rfl
 have:=hlt j hj;rw[←Q16 _ _ (by omega)]at this;simp[Qp this]
theorem Q8v{ε:Type}{body:Int→Option (Ctl Int ε)}{K:ε→Option Int}{xs:List Int}(n:Nat)(p:Nat→Prop)(q:Int→Prop){eb:Int→ε}{eg:ε}(hx:xs=flt n p)(hn:n<4611686018427387904)(h1:∀i k:Nat,i<xs.length→i<n→k<n→p k→ix xs i=(k:Int)→¬q k→body (i:Int)=some (.next ((i:Int)+1)))(h2:∀i k:Nat,i<xs.length→i<n→k<n→p k→ix xs i=(k:Int)→q k→body (i:Int)=some (.ret (eb k)))(h3:body (xs.length:Int)=some (.ret eg))(hb:∀v,K (eb v)=some v)(hg:K eg=some (-1)):(Qd body fuel 0).bind K=some (fstN n λi=>p i∧q i):=by
 subst hx;have hl:=Q2q n p;rw[find_loop (flt n p) q (eb:=eb) (eg:=eg) (by omega) (λi hi h=>?_) (λi hi h=>?_) h3,←first_flt]
 ·cases (flt n p).find? λv=>bo (q v)with
  |none=>exact hg
  |some v=>exact hb v
 ·obtain⟨k,k1,k2,k3⟩:=Q68 hi;rw[k3]at h;exact h1 i k hi (by omega) k1 k2 k3 h
 obtain⟨k,k1,k2,k3⟩:=Q68 hi;rw[k3]at h⊢;exact h2 i k hi (by omega) k1 k2 k3 h
theorem e_hom{c:Cat}(h:c.Is)(x y:Int):QA c x y=some (flt c.fr.length λa=>ix c.fr a=x∧ix c.to a=y):=by
 have k1:=h.1.lt;have k2:=h.1.m40;unfold QA;refine Q11 c.fr.length (λi=>flt i λa=>ix c.fr a=x∧ix c.to a=y) (e:=flt c.fr.length λa=>ix c.fr a=x∧ix c.to a=y) rfl (by omega) (λi hi=>?_) (by simp) rfl;have hl:=Q2q i λa=>ix c.fr a=x∧ix c.to a=y
 by_cases h1:ix c.fr i=x
 ·by_cases h2:ix c.to i=y
  ·rw[Q2r ⟨h1,h2⟩];simp(disch:=omega) [Q2,B64,h1,h2];try omega
  rw[Q2b λq=>h2 q.2];simp(disch:=omega) [Q2,B64,h1,h2];try omega
 rw[Q2b λq=>h1 q.1];simp(disch:=omega) [Q2,B64,h1];try omega
theorem Qag(c:Cat)(x y:Int):Q1b c x y=QA c x y:=rfl
def Inv(c:Cat)(f:Int)(g:Nat):Prop:=(ix c.fr g=ix c.to f∧ix c.to g=ix c.fr f)∧ix (rx c.cs f) g=ix c.id (ix c.fr f)∧ix (rx c.cs g) f=ix c.id (ix c.to f)
def inv(c:Cat)(f:Int):Int:=fstN c.fr.length (Inv c f)
end
attribute [local simp] unk unA unE unT unC flat eL eI Qh QI Cat.cells
def Q1l(c_:Cat)(arrows_:List Int):Option (List Int):=
 (Qd (σ:=List Int×Int) (ε:=List Int) (λs9=>
  if s9.2<(arrows_.length:Int)then
   (
    ass (0≤s9.2∧s9.2<(arrows_.length:Int))<|
    (Q1i c_ (ix arrows_ s9.2)).bind λv13=>
    if v13≥0 then
     ass ((s9.1++[s9.2]).length≤1073741824)<|
     some (s9.1++[s9.2])
    else
     some s9.1:Option (List Int)).bind λb11=>
   ass (B64 (s9.2+1))<|
   some (yM (b11,s9.2+1))
  else
   some (yK s9.1)) fuel ([],0)).bind λb1=>
 some b1
@[simp] abbrev Y06(a:List Int)(b:List (Nat×AV)):List (Nat×AV):=(5,.own 0 0 a.length)::b
@[simp] abbrev Y0b(a:List Int×Int)(b:List (Nat×AV)):List (Nat×AV):=(5,.own 0 0 a.1.length)::b
theorem Q5r(c_:Cat)(arrows_:List Int)(r:List Int)(h:Q1l c_ arrows_=some r):Contract Tryz.prog 31 (Y0x c_ [lI arrows_]) (lI r):=by
 refine Q9 (rvs:=[.tmp 4]) (rs:=[lI r]) Tryz.func31 rfl rfl rfl rfl (by simp[Tryz.f31]) λF hN hP=>?_;unfold Q1l at h;refine Q0 (runQ hN λK hK=>?_);simp;repeat refine sdQ ?_
 refine hK _ ?_;clear hK K;refine tn (Q4 (st':=⟨Yt c_ [(1,lI arrows_)],[],0⟩) (wkQ []) (Q0 (runQ hN λK hK=>?_)));simp;repeat refine sdQ ?_
 refine hK _ ?_;clear hK K;refine tn (Q4 (st':=⟨Yt c_ [(1,lI arrows_),(5,.own 0 0 0)],[(0,.mix 1 [])],1⟩) (wkQ [(0,0)]) (Q0 (Q0 (runQ hN λK hK=>?_))));simp;repeat refine sdQ ?_
 refine hK _ (tn (Q4 (st':=⟨Yt c_ [(5,.own 0 0 0),(9,lI arrows_),(10,iV (arrows_.length:Int)),(11,iV 0)],[(0,.mix 1 [])],1⟩) (wkQ [(0,0)]) ?_));clear hK K;replace⟨e1,h,h1⟩:=bind_some h;refine Qc (λb1:List Int=>⟨Y06 b1 [],[(0,rI b1)],1⟩) (λb1=>b1=e1) ?_ ?_
 ·refine Q5 (Qm h (λs9:List Int×Int=>⟨Yt c_ (Y0b s9 [(9,lI arrows_),(10,iV (arrows_.length:Int)),(11,iV s9.2)]),[(0,rI s9.1)],1⟩) (Q2M ⟨Yt c_ [(5,.own 0 0 0),(9,lI arrows_),(10,iV (arrows_.length:Int)),(11,iV 0)],[(0,rI [])],1⟩ (Wk.nils [] (by simp) (by simp) (by simp[nlA]) (by simp[entN,nlL,nlA,BN]) (by simp)) (wkQ [(0,0)])) ?_);clear h;intro k9 s9 c9 h hk9;refine Q0 (runQ hN λK hK=>?_);simp;repeat refine sdQ ?_
  refine hK _ ?_;clear hK K;refine tn (Q0 (Q6 rfl (λg=>?_) λg=>?_))
  ·have g10:s9.2<(arrows_.length:Int):=gQ;clear g;replace h:=if_l g10 h;refine Q7 (tn (Q0 ?_));replace⟨e11,h,h11⟩:=bind_some h;refine Qc (λb11:List Int=>⟨Yt c_ (Y06 b11 [(9,lI arrows_),(10,iV (arrows_.length:Int)),(11,iV s9.2)]),[(0,rI b11)],1⟩) (λb11=>b11=e11) ?_ ?_
   ·refine Q5 (Q0 (runQ hN λK hK=>?_));replace⟨a12,h⟩:=Q1 h;simp[at_I a12];(repeat refine sdQ ?_);refine hK _ ?_;clear hK K;refine tn (Q4 (st':=⟨Yt c_ (Y0b s9 [(6,iV s9.2),(7,iV (ix arrows_ s9.2)),(9,lI arrows_),(10,iV (arrows_.length:Int)),(11,iV s9.2)]),[(0,rI s9.1)],1⟩) (wkQ [(0,0)]) (Q0 (runQ hN λK hK=>?_)));simp;(repeat with_reducible refine sdQ ?_);replace⟨v13,hv13,h⟩:=bind_some h;refine Q3 (Q4p _ _ v13 hv13) (.cons (.preT (by simp[CN])) (.cons .val .nil)) ?_;simp;(repeat refine sdQ ?_);refine hK _ ?_;clear hK K;refine tn (Q4 (st':=⟨Yt c_ (Y0b s9 [(6,iV s9.2),(9,lI arrows_),(10,iV (arrows_.length:Int)),(11,iV s9.2),(19,.val (.bool (decide (v13≥0))))]),[(0,rI s9.1)],1⟩) (wkQ [(0,0)]) (Q6 rfl (λg=>?_) λg=>?_))
    ·have g14:v13≥0:=gQ;clear g;replace h:=if_l g14 h;refine runQ hN λK hK=>?_;replace⟨a15,h⟩:=Q1 h;(try simp only[qD,qH,zS]at a15);simp[a15];(repeat refine sdQ ?_);refine hK _ (bn ?_);clear hK K;exact jn (b:=s9.1++[s9.2]) (yJ h) (wkQ [(2,0)])
    have g14:¬(v13≥0):=gQ;clear g;replace h:=if_r g14 h;refine Q7 (bn ?_);exact jn (b:=s9.1) (yJ h) (wkQ [(0,0)])
   intro b11 hb11;have h:=h11;(try rw[←hb11]at h);clear h11;(try dsimp only at h);refine runQ hN λK hK=>?_;replace⟨a16,h⟩:=Q1 h;simp[Qg a16];(repeat refine sdQ ?_);refine hK _ ?_;clear hK K;cases h;exact rn (s':=(b11,s9.2+1)) hk9 (wkQ [(0,0)])
  have g10:¬(s9.2<(arrows_.length:Int)):=gQ;clear g;replace h:=if_r g10 h;refine Qj (tx (lx (bh ?_)));cases h;exact jn (b:=s9.1) hk9 (wkQ [(0,0)])
 intro b1 hb1;have h:=h1;try rw[←hb1]at h
 clear h1;try dsimp only at h
 refine Q0 (runQ hN λK hK=>?_);simp;repeat refine sdQ ?_
 refine hK _ (tn (Q4 (st':=⟨[(4,.own 0 0 b1.length)],[(0,rI b1)],1⟩) (wkQ [(0,0)]) (Qi ?_)));clear hK K;have hr:=yJ h;rw[←hr];refine⟨_,(.tmp .nil),?_⟩;refine⟨(.one rfl rfl .nil),[lI b1],[0],by simp[BN],by simp,(yN _)⟩
attribute [local simp] unk unA unE unT unC flat eL eI Qh QI Cat.cells
def Q21(c_:Cat)(f_:Int):Option Int:=
 ass (0≤f_∧f_<(c_.to.length:Int))<|
 ass (0≤f_∧f_<(c_.fr.length:Int))<|
 (Q1b c_ (ix c_.to f_) (ix c_.fr f_)).bind λv3=>
 (Qd (σ:=Int) (ε:=Unit⊕Int) (λs17=>
  if s17<(v3.length:Int)then
   (
    ass (0≤s17∧s17<(v3.length:Int))<|
    (Qs c_ f_ (ix v3 s17)).bind λv21=>
    (Q2w c_ v21).bind λv22=>
    if v22=true then
     ass (0≤s17∧s17<(v3.length:Int))<|
     (Qs c_ (ix v3 s17) f_).bind λv25=>
     (Q2w c_ v25).bind λv26=>
     some v26
    else
     some false:Option (Bool)).bind λb19=>
   if b19=true then
    ass (0≤s17∧s17<(v3.length:Int))<|
    some (yK (Sum.inr (ix v3 s17)))
   else
    ass (B64 (s17+1))<|
    some (yM (s17+1))
  else
   some (yK (Sum.inl ()))) fuel 0).bind λe4=>
 match e4 with
 | .inl b4=>
  some (-1)
 | .inr p4=>
  some p4
theorem Q6R(c_:Cat)(f_:Int)(r:Int)(h:Q21 c_ f_=some r):Contract Tryz.prog 46 (Y0u c_ [iV f_]) (iV r):=by
 refine Q9 (rvs:=[.tmp 4]) (rs:=[iV r]) Tryz.func46 rfl rfl rfl rfl (by simp[Tryz.f46]) λF hN hP=>?_;unfold Q21 at h;refine Q0 (runQ hN λK hK=>?_);simp;repeat refine sdQ ?_
 refine hK _ ?_;clear hK K;refine tn (Q4 (st':=⟨(1,iV f_)::Yw [],Y6 c_ [],1⟩) (wkQ [(0,0)]) (Q0 (runQ hN λK hK=>?_)));replace⟨a1,h⟩:=Q1 h;replace⟨a2,h⟩:=Q1 h;simp[at_I a1,at_I a2];repeat with_reducible refine sdQ ?_
 replace⟨v3,hv3,h⟩:=bind_some h;refine Q3 (Q2z _ _ _ v3 hv3) (.cons (.aggL (.cons .val (.cons .lst (.cons .lst (.cons .lst (.cons .lst .nil)))))) (.cons .val (.cons .val .nil))) ?_;simp[at_I a1,at_I a2];repeat refine sdQ ?_
 refine hK _ ?_;clear hK K;refine tn (Q4 (st':=⟨(1,iV f_)::Yw [(5,.own 1 0 v3.length)],Y6 c_ [(1,rI v3)],2⟩) (wkQ [(0,0),(1,1)]) (Q0 (Q0 (runQ hN λK hK=>?_))));simp;repeat refine sdQ ?_
 refine hK _ (tn (Q4 (st':=⟨(1,iV f_)::Yw [(5,.own 1 0 v3.length),(6,iV 0)],Y6 c_ [(1,rI v3)],2⟩) (wkQ [(0,0),(1,1)]) ?_));clear hK K;replace⟨e4,h,h4⟩:=bind_some h;refine Qc (λb4:Unit=>⟨[],[],0⟩) (λb4=>Sum.inl b4=e4) ?_ ?_
 ·refine Q5 (Qm h (λs17:Int=>⟨(1,iV f_)::Yw [(5,.own 1 0 v3.length),(6,iV s17)],Y6 c_ [(1,rI v3)],2⟩) (wkQ [(0,0),(1,1)]) ?_);clear h;intro k17 s17 c17 h hk17;refine Q0 (Q0 (runQ hN λK hK=>?_));simp;repeat refine sdQ ?_
  refine hK _ ?_;clear hK K;refine tn (Q6 rfl (λg=>?_) λg=>?_)
  ·have g18:s17<(v3.length:Int):=gQ;clear g;replace h:=if_l g18 h;refine Q7 (tn (Q0 (Q5 (Q0 ?_))));replace⟨e19,h,h19⟩:=bind_some h;refine Qc (λb19:Bool=>⟨(1,iV f_)::Yw [(5,.own 1 0 v3.length),(6,iV s17),(44,.val (.bool b19))],Y6 c_ [(1,rI v3)],2⟩) (λb19=>b19=e19) ?_ ?_
   ·refine runQ hN λK hK=>?_;replace⟨a20,h⟩:=Q1 h;simp[at_I a20];(repeat with_reducible refine sdQ ?_);replace⟨v21,hv21,h⟩:=bind_some h;refine Q3 (QZ _ _ _ v21 hv21) (.cons (.aggL (.cons .val (.cons .lst (.cons .lst (.cons .lst (.cons .lst .nil)))))) (.cons .val (.cons .val .nil))) ?_;simp[at_I a20];(repeat with_reducible refine sdQ ?_);replace⟨v22,hv22,h⟩:=bind_some h;refine Q3 (Q6C _ _ v22 hv22) (.cons (.aggL (.cons .val (.cons .lst (.cons .lst (.cons .lst (.cons .lst .nil)))))) (.cons .val .nil)) ?_;simp[at_I a20];(repeat with_reducible refine sdQ ?_);refine Qv (λg=>?_) (λg=>?_)
    ·have g23:v22=true:=gQ;clear g;replace h:=if_l g23 h;replace⟨a24,h⟩:=Q1 h;simp[at_I a20,at_I a24];(repeat with_reducible refine sdQ ?_);replace⟨v25,hv25,h⟩:=bind_some h;refine Q3 (QZ _ _ _ v25 hv25) (.cons (.aggL (.cons .val (.cons .lst (.cons .lst (.cons .lst (.cons .lst .nil)))))) (.cons .val (.cons .val .nil))) ?_;simp[at_I a20,at_I a24];(repeat with_reducible refine sdQ ?_);replace⟨v26,hv26,h⟩:=bind_some h;refine Q3 (Q6C _ _ v26 hv26) (.cons (.aggL (.cons .val (.cons .lst (.cons .lst (.cons .lst (.cons .lst .nil)))))) (.cons .val .nil)) ?_;simp[at_I a20,at_I a24];(repeat refine sdQ ?_);refine hK _ ?_;exact jn (b:=v26) (yJ h) (wkQ [(0,0),(1,1)])
    have g23:¬(v22=true):=gQ;clear g;replace h:=if_r g23 h;simp[at_I a20];(repeat refine sdQ ?_);refine hK _ ?_;exact jn (b:=false) (yJ h) (wkQ [(0,0),(1,1)])
   intro b19 hb19;have h:=h19;(try rw[←hb19]at h);clear h19;(try dsimp only at h);refine Q6 rfl (λg=>?_) λg=>?_
   ·have g27:b19=true:=gQ;clear g;replace h:=if_l g27 h;refine Q0 (runQ hN λK hK=>?_);replace⟨a28,h⟩:=Q1 h;simp[at_I a28];(repeat refine sdQ ?_);refine hK _ (tn (Q4 (st':=⟨[(4,iV (ix v3 s17))],[],0⟩) (wkQ []) (Qi (br (tr (lr (br (tr ?_))))))));clear hK K;cases h;have q:_=e4:=hk17;have h:=h4;rw[←q]at h;clear q;(try dsimp only at h);have hr:=yJ h;rw[←hr];refine⟨_,(.tmp .nil),?_⟩;refine⟨(.one rfl rfl .nil),[iV (ix v3 s17)],[],by simp[BN],by simp,(yN _)⟩
   have g27:¬(b19=true):=gQ;clear g;replace h:=if_r g27 h;refine Q7 (bn (tn (runQ hN λK hK=>?_)));replace⟨a29,h⟩:=Q1 h;simp[Qg a29];(repeat refine sdQ ?_);refine hK _ ?_;clear hK K;cases h;exact rn (s':=s17+1) hk17 (wkQ [(0,0),(1,1)])
  have g18:¬(s17<(v3.length:Int)):=gQ;clear g;replace h:=if_r g18 h;refine Qj (tx (lx (bh ?_)));cases h;exact jn (b:=()) hk17 (wkQ [])
 intro b4 hb4;have h:=h4;try rw[←hb4]at h
 clear h4;try dsimp only at h
 refine Q0 (runQ hN λK hK=>?_);simp;repeat refine sdQ ?_
 refine hK _ (tn (Q4 (st':=⟨[(4,iV (-1))],[],0⟩) (wkQ []) (Qi ?_)));clear hK K;have hr:=yJ h;rw[←hr];refine⟨_,(.tmp .nil),?_⟩;refine⟨(.one rfl rfl .nil),[iV (-1)],[],by simp[BN],by simp,(yN _)⟩
end Go.Vc.T
