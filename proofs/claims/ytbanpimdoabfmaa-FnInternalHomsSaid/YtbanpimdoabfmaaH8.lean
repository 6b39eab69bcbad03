/- A part of the proof. -/
import Derived.Test.YtbanpimdoabfmaaH7
import Derived.Test.YtbanpimdoabfmaaProg
set_option maxRecDepth 100000
set_option maxHeartbeats 4000000
set_option linter.unusedSimpArgs false
set_option linter.unusedVariables false
set_option linter.unusedSectionVars false
set_option linter.unnecessarySimpa false

open Option.some renaming inj→yJ
open List renaming getD_eq_getElem?_getD→qB
open Option renaming bind_some→yA
open Sum renaming inl→yK
open Sum renaming inr→yL
open Go.Vc.Ctl renaming ret→yM
open Go.Vc.UpL renaming refl→yN
open Prod renaming fst→qE
open Go.Vc.Ctl renaming next→yO
open Bool renaming and_eq_true→qG
open Classical renaming byContradiction→yP
open Bool renaming false_eq_true→zM
open List renaming getElem_mem→yC
open Prod renaming snd→zT
open List renaming getElem_of_mem→yQ
open List renaming append_nil→yR
open List renaming take_succ_eq_append_getElem→yS
noncomputable section
namespace Go.Vc.T
open Go Go.Vc Go.Proofs
section
attribute [local simp] Qi QP Qv
@[simp] theorem e22:elm Try.prog 24=some 2:=by kernel_rfl
@[simp] theorem y2:tyi Try.prog 2=some ⟨false,1,8,[.int .i64 0]⟩:=by kernel_rfl
theorem mo:Try.prog.follows .mixedOrders=true:=by kernel_rfl
def idQ:Nat→List (Nat×Nat)
  |0=>[]
  |n+1=>idQ n++[(n,n)]
abbrev nS:AV:=.val (.slice none 0 0)
abbrev iV(x:Int):AV:=.val (.int .i64 x)
abbrev lI(x:List Int):AV:=.lst true 1 (Is x)
abbrev rI(x:List Int):Ent:=.row 1 (Is x)
theorem gQ{p:Prop}(k:p:=by first|(simp;done)|(simp at g;done)|simpa using g|(simp at g;exact g)|(simp at g;omega)):p:=k
theorem sdQ{a b:Prop}(h:b)(k:a:=by first|assumption|omega|(simp;done)|(simp;omega)|simp_all):a∧b:=⟨k,h⟩
theorem srQ{F:Fx}{AQ:Exit→St→Prop}{st:St}{id:Nat}{ops:Array Oper}{d:Bool}{y:Code}{n:Nat}(hN:F.N=n)(h:∀K:St→Prop,(∀st',Wp Try.prog F y AQ st'→K st')→Q1s Try.prog false ops ops.toList st K)(hok:(okN n ops&&(!d||(Q4N false ops&&Q2b ops)))=true:=by decide):Wp Try.prog F (.seq (.region id ops d) y) AQ st:=w_sr mo (by rw[hN];exact hok) h
theorem runQ{F:Fx}{AQ:Exit→St→Prop}{st:St}{id:Nat}{ops:Array Oper}{d:Bool}{n:Nat}(hN:F.N=n)(h:∀K:St→Prop,(∀st',AQ .normal st'→K st')→Q1s Try.prog false ops ops.toList st K)(hok:(okN n ops&&(!d||(Q4N false ops&&Q2b ops)))=true:=by decide):Wp Try.prog F (.region id ops d) AQ st:=w_run mo (by rw[hN];exact hok) h
theorem rbQ{F:Fx}{st st':St}(hP:F.pins=0)(m:List (Nat×Nat))(h1:(m.map qE).Nodup:=by simp)(h2:(m.map zT).Nodup:=by simp)(hn:∀p∈m,p.2<st'.n:=by simp)(hok:∀p∈st'.h,p.1<st'.n:=by simp)(hs:∀p∈st'.s,p.2=rl m (st.get p.1)∨p.2= .bot:=by simp)(hh:∀p∈st'.h,∃i e,look i m=some p.1∧look i st.h=some e∧rlE m e=some p.2:=by simp):Wk F st st':=Wk.relabel m h1 h2 (by rw[hP];simp) hn hok hs hh
theorem whQ{h:HP}{id n u sz es}(hc:cont h depth id=some (sz,es):=by rfl)(hm:Qm (h id)=false:=by rfl)(hn:n=es.length:=by simp):PurTo h (.own id 0 n) (.lst u sz es):=.whole hc hm hn
@[simp] theorem q2:eqT Try.prog 2=0:=by kernel_rfl
@[simp] theorem q3:eqT Try.prog 3=0:=by kernel_rfl
def Ls(xss:List (List Int)):List (List AV):=xss.map λxs=>[lI xs]
@[simp] theorem Ls_length(xss:List (List Int)):(Ls xss).length=xss.length:=by simp[Ls]
theorem Q1l(xss:List (List Int))(i:Nat)(h:i<xss.length):(Ls xss)[i]? =some [lI xss[i]]:=by simp[Ls,h]
attribute [local simp] Q1l
theorem QN(xss:List (List Int))(i:Nat)(h:i<(Ls xss).length):(Ls xss)[i]=[lI (xss[i]'(by simpa using h))]:=by simp[Ls]
attribute [local simp] QN
@[simp] theorem Ls_set(xss:List (List Int))(i:Nat)(x:List Int):(Ls xss).set i [lI x]=Ls (xss.set i x):=by simp[Ls,List.map_set]
@[simp] theorem e23:elm Try.prog 25=some 24:=by kernel_rfl
@[simp] theorem y22:tyi Try.prog 24=some ⟨false,1,24,[.slice none 0 0]⟩:=by kernel_rfl
def sumL(xss:List (List Int)):Nat:=(xss.map List.length).sum
theorem c46(x a b:Int):Contract Try.prog 108 [iV x,iV a,iV b] (.val (.bool (decide (a≤x)&&decide (x≤b)))):=by
 refine Qu (rs:=[.val (.bool (decide (a≤x)&&decide (x≤b)))]) Try.func108 rfl rfl rfl rfl (by simp[Try.f108]) λF hN hP=>?_;refine srQ hN λK hK=>?_;simp;refine hK _ ?_;clear hK K;refine srQ hN λK hK=>?_;simp;refine⟨λh=>hK _ (Qe (QT rfl ?_)),λh=>hK _ (Qe (QT rfl ?_))⟩<;>clear hK K
 ·simp[h]
 simp;omega
def inR(n:Int)(x:Int):Bool:=decide (0≤x)&&decide (x≤n - 1)
theorem Q8Q{p:Int→Bool}{xs:List Int}{i:Nat}(h:i<xs.length)(h1:(xs.take i).all p=true)(h2:p xs[i]=true):(xs.take (i+1)).all p=true:=by
 rw[yS h,List.all_append,h1];simp[h2]
theorem Q8u{p:Int→Bool}{xs:List Int}{i:Nat}(h:i<xs.length)(h2:p xs[i]=false):xs.all p=false:=by
 rw[List.all_eq_false];exact⟨xs[i],yC h,by simp[h2]⟩
theorem c22(u:Bool)(xs:List Int)(n:Int)(hn:B64 (n - 1)):Contract Try.prog 84 [.lst u 1 (Is xs),iV n] (.val (.bool (xs.all (inR n)))):=by
 refine Qu (rs:=[.val (.bool (xs.all (inR n)))]) Try.func84 rfl rfl rfl rfl (by simp[Try.f84]) λF hN hP=>?_;refine w_good 0 λh0=>?_;simp at h0;obtain⟨hl0,hb0⟩:=h0.is;refine srQ hN λK hK=>?_;simp;refine hK _ ?_;clear hK K;refine Q0 (srQ hN λK hK=>?_);simp;refine hK _ (Q5 (Q2s (λi:Nat=>⟨[(0,.lst u 1 (Is xs)),(1,iV n),(7,.lst u 1 (Is xs)),(8,iV xs.length),(9,iV i)],[],0⟩) (λi=>i≤xs.length∧(xs.take i).all (inR n)=true) (λi=>xs.length - i) 0 (by simp) (Wk.cut (by simp) rfl rfl) ?_));clear hK K
 rintro i ⟨hi,ht⟩
 refine srQ hN λK hK=>?_;simp;refine hK _ ?_;clear hK K;refine Q0 (Q7 rfl (λh=>?_) λh=>?_)
 ·simp at h;refine Q8 (Q0 (Q5 (srQ hN λK hK=>?_)));simp[h];refine hK _ ?_;clear hK K;refine srQ hN λK hK=>?_;simp;refine Q3 (c46 xs[i] 0 (n - 1)) ?_ ?_
  ·rw[Qh hn];exact .cons .val (.cons .val (.cons .val .nil))
  simp[unk,unA,unE,flat];refine hK _ ?_;clear hK K;refine Q7 rfl (λh2=>?_) λh2=>?_
  ·refine srQ hN λK hK=>?_;simp;refine hK _ (Qe (QT rfl ?_));clear hK K;simp at h2;rw[Q8u h (by simp[inR];omega)]
  refine Q8 (runQ hN λK hK=>?_);simp;refine hK _ ?_;clear hK K;rw[QK (n:=xs.length) (by omega) hl0];refine⟨i+1,⟨by omega,Q8Q h ht (by simpa[inR]using h2)⟩,by dsimp only;omega,rbQ hP []⟩
 simp at h;refine Ql ?_;simp;refine srQ hN λK hK=>?_;simp;refine hK _ (Qe (QT rfl ?_));clear hK K;rw[List.take_of_length_le (by omega)]at ht;rw[ht]
@[simp] theorem fld29_0:fld Try.prog 27 0=some (0,1,false):=by kernel_rfl
@[simp] theorem fld29_1:fld Try.prog 27 1=some (1,1,false):=by kernel_rfl
@[simp] theorem fld29_2:fld Try.prog 27 2=some (2,1,false):=by kernel_rfl
@[simp] theorem fld29_3:fld Try.prog 27 3=some (3,1,false):=by kernel_rfl
@[simp] theorem fld29_4:fld Try.prog 27 4=some (4,1,false):=by kernel_rfl
@[simp] theorem y23:tyi Try.prog 25=some ⟨false,1,24,[.slice none 0 0]⟩:=by kernel_rfl
structure Cat where
 n:Int
 fr:List Int
 to:List Int
 id:List Int
 cs:List (List Int)
def Cat.ok(c:Cat):Prop:=c.fr.length≤1048576∧c.to.length≤1048576∧c.id.length≤1048576∧c.cs.length≤1048576∧(∀xs∈c.cs,xs.length≤1048576)∧sumL c.cs≤1099511627776
def Cat.size(c:Cat):Nat:=c.fr.length+c.to.length+c.id.length+sumL c.cs
theorem Ls_take{xss:List (List Int)}{i:Nat}(h:i<xss.length):Ls (xss.take i)++[[lI xss[i]]]=Ls (xss.take (i+1)):=by
 rw[yS h,Ls,Ls,List.map_append];rfl
@[simp] theorem y29:tyi Try.prog 27=some ⟨true,5,104,[.int .i64 0,.slice none 0 0,.slice none 0 0,.slice none 0 0,.slice none 0 0]⟩:=by kernel_rfl
def nn(a:Int)(f:Int→Int):Int:=if a<0 then -1 else f a
end
section
attribute [local simp] Qi QP Qv Q1l QN
def Cat.cells(u:Bool)(c:Cat):List AV:=[iV c.n,.lst u 1 (Is c.fr),.lst u 1 (Is c.to),.lst u 1 (Is c.id),.lst u 1 (Ls c.cs)]
theorem Cat.pur{h:HP}{u v:Bool}{c:Cat}:PurL h (c.cells u) (c.cells v):=.cons .val (.cons .lst (.cons .lst (.cons .lst (.cons .lst .nil))))
structure Fn where
 s:Cat
 t:Cat
 ob:List Int
 ar:List Int
def Fn.cells(u:Bool)(f:Fn):List AV:=[iV f.s.n,.lst u 1 (Is f.s.fr),.lst u 1 (Is f.s.to),.lst u 1 (Is f.s.id),.lst u 1 (Ls f.s.cs),iV f.t.n,.lst u 1 (Is f.t.fr),.lst u 1 (Is f.t.to),.lst u 1 (Is f.t.id),.lst u 1 (Ls f.t.cs),.lst u 1 (Is f.ob),.lst u 1 (Is f.ar)]
structure SF where
 s:Cat
 sz:List Int
 ac:List (List Int)
def SF.cells(u:Bool)(f:SF):List AV:=[iV f.s.n,.lst u 1 (Is f.s.fr),.lst u 1 (Is f.s.to),.lst u 1 (Is f.s.id),.lst u 1 (Ls f.s.cs),.lst u 1 (Is f.sz),.lst u 1 (Ls f.ac)]
def Cs(cs:List Cat):List (List AV):=cs.map (Cat.cells true)
def Fs(fs:List Fn):List (List AV):=fs.map (Fn.cells true)
structure Fam where
 b:Cat
 fb:List Cat
 ch:List Fn
def Fam.cells(u:Bool)(f:Fam):List AV:=[iV f.b.n,.lst u 1 (Is f.b.fr),.lst u 1 (Is f.b.to),.lst u 1 (Is f.b.id),.lst u 1 (Ls f.b.cs),.lst u 5 (Cs f.fb),.lst u 12 (Fs f.ch)]
section
variable {α:Type}(f:Int→α→α)(sz:α→Nat)
end
theorem c56(x a b:Int):Contract Try.prog 150 [iV x,iV a,iV b] (.val (.bool (decide (a≤x)&&decide (x≤b)))):=by
 refine Qu (rs:=[.val (.bool (decide (a≤x)&&decide (x≤b)))]) Try.func150 rfl rfl rfl rfl (by simp[Try.f150]) λF hN hP=>?_;refine srQ hN λK hK=>?_;simp;refine hK _ ?_;clear hK K;refine srQ hN λK hK=>?_;simp;refine⟨λh=>hK _ (Qe (QT rfl ?_)),λh=>hK _ (Qe (QT rfl ?_))⟩<;>clear hK K
 ·simp[h]
 simp;omega
theorem c57(u:Bool)(xs:List Int)(n:Int):Contract Try.prog 83 [iV n,.lst u 1 (Is xs)] (.val (.bool (xs.all (inR n)))):=by
 refine Qu (rs:=[.val (.bool (xs.all (inR n)))]) Try.func83 rfl rfl rfl rfl (by simp[Try.f83]) λF hN hP=>?_;refine w_good 1 λh0=>?_;simp at h0;obtain⟨hl0,hb0⟩:=h0.is;refine srQ hN λK hK=>?_;simp;refine hK _ ?_;clear hK K;refine Q0 (srQ hN λK hK=>?_);simp;refine hK _ (Q5 (Q2s (λi:Nat=>⟨[(0,iV n),(1,.lst u 1 (Is xs)),(5,iV i)],[],0⟩) (λi=>i≤xs.length∧(xs.take i).all (inR n)=true) (λi=>xs.length - i) 0 (by simp) (Wk.cut (by simp) (by simp) rfl) ?_));clear hK K
 rintro i ⟨hi,ht⟩
 refine Q0 (srQ hN λK hK=>?_);simp;refine hK _ ?_;clear hK K;refine Q7 rfl (λh=>?_) λh=>?_
 ·simp at h;refine Q8 (Q0 (Q5 (srQ hN λK hK=>?_)));simp[h];refine⟨λh1=>hK _ ?_,λh1=>hK _ ?_⟩<;>clear hK K
  ·refine Q7 rfl (λh2=>?_) λh2=>?_
   ·simp at h2;refine srQ hN λK hK=>?_;simp;refine hK _ (Qe (QT rfl ?_));clear hK K;rw[Q8u h];simp[inR];omega
   simp at h2;refine Q8 (runQ hN λK hK=>?_);simp;refine hK _ ?_;clear hK K;rw[QK (n:=xs.length) (by omega) (by omega)];refine⟨i+1,⟨by omega,Q8Q h ht (by simp[inR];omega)⟩,by dsimp only;omega,Wk.cut (by simp) (by simp) rfl⟩
  refine Q7 rfl (λ_=>?_) λh=>by simp at h
  refine srQ hN λK hK=>?_;simp;refine hK _ (Qe (QT rfl ?_));clear hK K;rw[Q8u h];simp[inR];omega
 simp at h;refine Ql ?_;simp;have hi':i=xs.length:=by omega
 subst hi';rw[List.take_length]at ht;refine srQ hN λK hK=>?_;simp;refine hK _ (Qe (QT rfl ?_));clear hK K;rw[ht]
theorem c58(u:Bool)(xs:List Int)(hx:xs.length≤1048576):Contract Try.prog 96 [.lst u 1 (Is xs)] (lI xs):=by
 refine Qu (rs:=[lI xs]) Try.func96 rfl rfl rfl rfl (by simp[Try.f96]) λF hN hP=>?_;refine srQ hN λK hK=>?_;simp;refine hK _ ?_;clear hK K;refine srQ hN λK hK=>?_;simp;refine⟨⟨?_,by omega,by omega⟩,hK _ ?_⟩
 ·intro e he c hc;obtain⟨x,_,rfl⟩:=List.mem_map.1 he;simp at hc;subst hc;rfl
 clear hK K;refine Qe (Q79 rfl rfl (by simp) (by simp))
theorem c47(u:Bool)(xs:List Int)(hx:xs.length≤1048576):Contract Try.prog 92 [.lst u 1 (Is xs)] (lI xs):=by
 refine Qu (rs:=[lI xs]) Try.func92 rfl rfl rfl rfl (by simp[Try.f92]) λF hN hP=>?_;refine srQ hN λK hK=>?_;simp;refine hK _ ?_;clear hK K;refine srQ hN λK hK=>?_;simp;refine⟨⟨?_,by omega,by omega⟩,hK _ ?_⟩
 ·intro e he c hc;obtain⟨x,_,rfl⟩:=List.mem_map.1 he;simp at hc;subst hc;rfl
 clear hK K;refine Qe (Q79 rfl rfl (by simp) (by simp))
theorem c59(u:Bool)(xs:List (List Int))(hx:xs.length≤1048576)(hx':∀x∈xs,x.length≤1048576):Contract Try.prog 137 [.lst u 1 (Ls xs)] (.lst true 1 (Ls xs)):=by
 refine Qu (rs:=[.lst true 1 (Ls xs)]) Try.func137 rfl rfl rfl rfl (by simp[Try.f137]) λF hN hP=>?_;refine srQ hN λK hK=>?_;simp;refine hK _ ?_;clear hK K;refine srQ hN λK hK=>?_;simp;refine hK _ ?_;clear hK K;refine Q0 (srQ hN λK hK=>?_);simp;refine hK _ (Q5 (Q2s (λi:Nat=>⟨[(0,.lst u 1 (Ls xs)),(3,.own 0 0 i),(4,iV i)],[(0,.row 1 (Ls (xs.take i)))],1⟩) (λi=>i≤xs.length) (λi=>xs.length - i) 0 (by simp) (Wk.nils [] (by simp) (by simp) (by simp[nlA]) (by simp[entN,Ls]) (by simp)) ?_));clear hK K;intro i hi;refine Q0 (srQ hN λK hK=>?_);simp;refine hK _ ?_;clear hK K;refine Q7 rfl (λh=>?_) λh=>?_
 ·simp at h;refine Q8 (Q0 (Q5 (runQ hN λK hK=>?_)));simp[h];refine Q3 (c58 true xs[i] (hx' _ (yC h))) (.cons .lst .nil) ?_;simp[unk,unA,unE,flat];refine⟨by omega,hK _ ?_⟩;clear hK K;refine runQ hN λK hK=>?_;simp;refine hK _ ?_;clear hK K;rw[QK (n:=xs.length) (by omega) (by omega)];rw[Nat.min_eq_left hi,List.take_of_length_le (l:=Ls (List.take i xs)) (by simp;omega),Ls_take h];refine⟨i+1,by omega,by dsimp only;omega,rbQ hP [(3,0)]⟩
 simp at h;refine Ql ?_;simp;refine srQ hN λK hK=>?_;simp;refine hK _ ?_;clear hK K;have hi':i=xs.length:=by omega
 subst hi';refine Qe (Q79 rfl rfl (by simp) (by simp))
theorem c48(u:Bool)(xs:List (List Int))(hx:xs.length≤1048576)(hx':∀x∈xs,x.length≤1048576):Contract Try.prog 136 [.lst u 1 (Ls xs)] (.lst true 1 (Ls xs)):=by
 refine Qu (rs:=[.lst true 1 (Ls xs)]) Try.func136 rfl rfl rfl rfl (by simp[Try.f136]) λF hN hP=>?_;refine srQ hN λK hK=>?_;simp;refine hK _ ?_;clear hK K;refine srQ hN λK hK=>?_;simp;refine⟨by omega,hK _ ?_⟩;clear hK K;refine Q0 (srQ hN λK hK=>?_);simp;refine hK _ (Q5 (Q2s (λi:Nat=>⟨[(0,.lst u 1 (Ls xs)),(3,.own 0 0 i),(9,.lst u 1 (Ls xs)),(10,iV xs.length),(11,iV i)],[(0,.row 1 (Ls (xs.take i)))],1⟩) (λi=>i≤xs.length) (λi=>xs.length - i) 0 (by simp) (Wk.cut (by simp) (by simp[Ls]) rfl) ?_));clear hK K;intro i hi;refine srQ hN λK hK=>?_;simp;refine hK _ ?_;clear hK K;refine Q0 (Q7 rfl (λh=>?_) λh=>?_)
 ·simp at h;refine Q8 (Q0 (Q5 (srQ hN λK hK=>?_)));simp[h];refine hK _ ?_;clear hK K;refine runQ hN λK hK=>?_;simp;refine Q3 (c47 true xs[i] (hx' _ (yC h))) (.cons .lst .nil) ?_;simp[unk,unA,unE,flat];refine⟨by omega,hK _ ?_⟩;clear hK K;refine runQ hN λK hK=>?_;simp;refine hK _ ?_;clear hK K;rw[QK (n:=xs.length) (by omega) (by omega)];rw[Nat.min_eq_left hi,List.take_of_length_le (l:=Ls (List.take i xs)) (by simp;omega),Ls_take h];refine⟨i+1,by omega,by dsimp only;omega,rbQ hP [(3,0)]⟩
 simp at h;refine Ql ?_;simp;refine srQ hN λK hK=>?_;simp;refine hK _ ?_;clear hK K;have hi':i=xs.length:=by omega
 subst hi';refine Qe (Q79 rfl rfl (by simp) (by simp))
@[simp] theorem pl29:Q42 Try.prog 27=some [(0,1),(1,1),(2,1),(3,1),(4,1)]:=by kernel_rfl
@[simp] theorem pl86:Q42 Try.prog 122=some [(0,1),(1,1)]:=by kernel_rfl
@[simp] theorem y86:tyi Try.prog 122=some ⟨true,2,16,[.int .i64 0,.int .i64 0]⟩:=by kernel_rfl
@[simp] theorem q86:eqT Try.prog 122=4:=by kernel_rfl
theorem c61(u:Bool)(c:Cat)(tl:List AV):Contract Try.prog 85 [.rptr (c.cells u++tl)] (iV c.fr.length):=by
 refine Qu (rs:=[iV c.fr.length]) Try.func85 rfl rfl rfl rfl (by simp[Try.f85]) λF hN hP=>?_;refine srQ hN λK hK=>?_;simp[Cat.cells];refine hK _ ?_;clear hK K;refine srQ hN λK hK=>?_;simp[Cat.cells];refine hK _ ?_;clear hK K;refine Qe (QT rfl rfl)
theorem c67(u:Bool)(xs:List Int)(m n:Int):Contract Try.prog 151 [.lst u 1 (Is xs),iV m,iV n] (.val (.bool (decide ((xs.length:Int)=m)&&xs.all (inR n)))):=by
 refine Qu (rs:=[.val (.bool (decide ((xs.length:Int)=m)&&xs.all (inR n)))]) Try.func151 rfl rfl rfl rfl (by simp[Try.f151]) λF hN hP=>?_;refine srQ hN λK hK=>?_;simp;refine hK _ ?_;clear hK K;refine srQ hN λK hK=>?_;simp;refine⟨λh=>?_,λh=>hK _ (Qe (QT rfl ?_))⟩
 ·refine Q3 (c57 u xs n) (.cons .val (.cons .lst .nil)) ?_;simp[unk,unA,unE,flat];refine hK _ (Qe (QT rfl ?_));simp[h]
 simp[h]
theorem c41(u:Bool)(c:Cat)(hc:c.ok):Contract Try.prog 95 [.agg (c.cells u)] (.agg (c.cells true)):=by
 obtain⟨hc1,hc2,hc3,hc4,hc5,hc6⟩:=hc;refine Q31 Try.func95 rfl rfl y29 rfl rfl (by simp[Try.f95]) λF hN hP=>?_;refine srQ hN λK hK=>?_;simp[Cat.cells];refine hK _ ?_;clear hK K;refine srQ hN λK hK=>?_;simp;refine Q3 (c58 u c.fr hc1) (.cons .lst .nil) ?_;simp[unk,unA,unE,unC,flat];refine Q3 (c58 u c.to hc2) (.cons .lst .nil) ?_;simp[unk,unA,unE,unC,flat];refine Q3 (c58 u c.id hc3) (.cons .lst .nil) ?_;simp[unk,unA,unE,unC,flat];refine Q3 (c59 u c.cs hc4 hc5) (.cons .lst .nil) ?_;simp[unk,unA,unE,unC,flat];refine hK _ (Qe ⟨_,_,_,_,_,rfl,rfl,by simp,by simp,?_⟩);clear hK K;exact⟨.agg rfl .nil,[iV c.n,lI c.fr,lI c.to,lI c.id,.lst true 1 (Ls c.cs)],[2,3,4,5],by simp,by simp,yN _⟩
theorem c23(u:Bool)(c:Cat)(tl:List AV)(hc:c.ok):Contract Try.prog 91 [.rptr (c.cells u++tl)] (.agg (c.cells true)):=by
 obtain⟨hc1,hc2,hc3,hc4,hc5,hc6⟩:=hc;refine Q31 Try.func91 rfl rfl y29 rfl rfl (by simp[Try.f91]) λF hN hP=>?_;refine srQ hN λK hK=>?_;simp[Cat.cells];refine hK _ ?_;clear hK K;refine srQ hN λK hK=>?_;simp;refine Q3 (c47 u c.fr hc1) (.cons .lst .nil) ?_;simp[unk,unA,unE,unC,flat];refine Q3 (c47 u c.to hc2) (.cons .lst .nil) ?_;simp[unk,unA,unE,unC,flat];refine Q3 (c47 u c.id hc3) (.cons .lst .nil) ?_;simp[unk,unA,unE,unC,flat];refine Q3 (c48 u c.cs hc4 hc5) (.cons .lst .nil) ?_;simp[unk,unA,unE,unC,flat];refine hK _ (Qe ⟨_,_,_,_,_,rfl,rfl,by simp,by simp,?_⟩);clear hK K;exact⟨.agg rfl .nil,[iV c.n,lI c.fr,lI c.to,lI c.id,.lst true 1 (Ls c.cs)],[1,2,3,4],by simp,by simp,yN _⟩
end
section
attribute [local simp] Qi QP Qv Q1l QN
def ix(xs:List Int)(j:Int):Int:=xs.getD j.toNat 0
def rx(xss:List (List Int))(j:Int):List Int:=xss.getD j.toNat []
theorem Q2e(xs:List Int)(i:Nat)(h:i<xs.length):xs[i]=ix xs i:=by simp[ix,qB,h]
theorem Q3h(xs:List (List Int))(i:Nat)(h:i<xs.length):xs[i]=rx xs i:=by simp[rx,qB,h]
theorem Q2u(xs:List Int)(j:Int):ix xs (max j 0)=ix xs j:=by simp only[ix];congr 1;omega
theorem Q2H(xs:List (List Int))(j:Int):rx xs (max j 0)=rx xs j:=by simp only[rx];congr 1;omega
theorem Q7k{xs:List Int}{n j:Int}(h:∀x∈xs,inR n x=true)(h0:0≤j)(h1:j<xs.length):0≤ix xs j∧ix xs j<n:=by
 have hj:j.toNat<xs.length:=by omega
 have:=h _ (yC hj);simp only[inR,qG,decide_eq_true_eq]at this;simp only[ix,qB,List.getElem?_eq_getElem hj,Option.getD_some];omega
def Cat.cell(c:Cat)(f g:Nat):Prop:=(ix c.to f≠ix c.fr g→ix (rx c.cs f) g= -1)∧
 (ix c.to f=ix c.fr g→0≤ix (rx c.cs f) g∧ix (rx c.cs f) g<c.fr.length∧ix c.fr (ix (rx c.cs f) g)=ix c.fr f∧ix c.to (ix (rx c.cs f) g)=ix c.to g)
structure Cat.Sh(c:Cat):Prop where
 n0:0≤c.n
 n8:c.n≤8
 m40:c.fr.length≤40
 lt:c.to.length=c.fr.length
 fr:(∀x∈c.fr,inR c.n x=true)
 to:(∀x∈c.to,inR c.n x=true)
 lc:c.cs.length=c.fr.length
 li:(c.id.length:Int)=c.n
 id:(∀x∈c.id,inR c.fr.length x=true)
 ids:∀x:Nat,x<c.id.length→ix c.fr (ix c.id x)=x∧ix c.to (ix c.id x)=x
 rows:∀f:Nat,f<c.fr.length→(rx c.cs f).length=c.fr.length∧∀g:Nat,g<c.fr.length→c.cell f g
open Classical in
def bo(p:Prop):Bool:=decide p
theorem bo_t{p:Prop}(h:p):Value.bool true=Value.bool (bo p):=by simp[bo,h]
theorem bo_f{p:Prop}(h:¬p):Value.bool false=Value.bool (bo p):=by simp[bo,h]
theorem c69(u:Bool)(c:Cat)(tl:List AV)(f g:Int)(h1:0≤f)(h2:f<c.cs.length)(h3:0≤g)(h4:g<(rx c.cs f).length):Contract Try.prog 87 [.rptr (c.cells u++tl),iV f,iV g] (iV (ix (rx c.cs f) g)):=by
 refine Qu (rs:=[iV (ix (rx c.cs f) g)]) Try.func87 rfl rfl rfl rfl (by simp[Try.f87]) λF hN hP=>?_;refine srQ hN λK hK=>?_;simp;refine hK _ ?_;clear hK K;refine srQ hN λK hK=>?_;simp[Cat.cells,Q2e,Q3h,Q2u,Q2H,h1,h2,h3,h4];refine hK _ ?_;clear hK K;refine Qe (QT rfl rfl)
theorem c68(u:Bool)(c:Cat)(tl:List AV)(f:Int)(h1:0≤f)(h2:f<c.fr.length)(h3:f<c.to.length):Contract Try.prog 97 [.rptr (c.cells u++tl),iV f] (.agg [iV (ix c.fr f),iV (ix c.to f)]):=by
 refine Q31 Try.func97 rfl rfl y86 rfl rfl (by simp[Try.f97]) λF hN hP=>?_;refine srQ hN λK hK=>?_;simp;refine hK _ ?_;clear hK K;refine srQ hN λK hK=>?_;simp[Cat.cells,Q2e,Q2u,h1,h2,h3];refine hK _ (Qe ⟨_,_,_,_,_,rfl,rfl,by simp,by simp,?_⟩);clear hK K;exact⟨.agg rfl .nil,[iV (ix c.fr f),iV (ix c.to f)],[],by simp,by simp,yN _⟩
theorem yes{C:Prop}(h:C):(true=true↔C):=⟨λ_=>h,λ_=>rfl⟩
def Cat.P1(c:Cat):Prop:=0≤c.n∧c.n≤8∧c.fr.length≤40∧c.to.length=c.fr.length∧(∀x∈c.fr,inR c.n x=true)∧(∀x∈c.to,inR c.n x=true)∧c.cs.length=c.fr.length
def Cat.P2(c:Cat):Prop:=(c.id.length:Int)=c.n∧(∀x∈c.id,inR c.fr.length x=true)
def Cat.row(c:Cat)(f:Nat):Prop:=(rx c.cs f).length=c.fr.length∧∀g:Nat,g<c.fr.length→c.cell f g
theorem Q1e{P:Nat→Prop}{x:Nat}(h:∀y,y<x→P y)(hx:P x):∀y,y<x+1→P y:=by
 intro y hy;rcases Nat.lt_or_ge y x with h1|h1
 ·exact h y h1
 have:y=x:=by omega
 subst this;exact hx
theorem Cat.Sh.P1{c:Cat}(h:c.Sh):c.P1:=⟨h.n0,h.n8,h.m40,h.lt,h.fr,h.to,h.lc⟩
theorem Cat.Sh.P2{c:Cat}(h:c.Sh):c.P2:=⟨h.li,h.id⟩
@[simp] abbrev Yo(a:Cat)(b:Bool)(c:List (Nat×Ent)):List (Nat×Ent):=(0,.mix 5 [[iV a.n,.lst b 1 (Is a.fr),.lst b 1 (Is a.to),.lst b 1 (Is a.id),.lst b 1 (Ls a.cs)]])::c
@[simp] abbrev YY(a:List (Nat×AV)):List (Nat×AV):=(1,.adr 0 0 0)::a
@[simp] abbrev Y0J(a:Cat)(b:List (Nat×AV)):List (Nat×AV):=(3,iV a.fr.length)::b
theorem c63(u:Bool)(c:Cat):Contract Try.prog 134 [.agg (c.cells u)] (.val (.bool (bo c.Sh))):=by
 refine Qu (rs:=[.val (.bool (bo c.Sh))]) Try.func134 rfl rfl rfl rfl (by simp[Try.f134]) λF hN hP=>?_;refine srQ hN λK hK=>?_;simp[Cat.cells];refine hK _ ?_;clear hK K;refine srQ hN λK hK=>?_;simp;refine hK _ ?_;clear hK K;refine Q0 (srQ hN λK hK=>?_);refine join hK (λb=>⟨YY (Y0J c [(43,.val (.bool b))]),Yo c u [],1⟩) (¬c.P1) (λhJ=>?_) λb hb=>?_
 ·simp;refine Q3 (c56 c.n 0 8) (.cons .val (.cons .val (.cons .val .nil))) ?_;simp[unk,unA,unE,flat];refine⟨λa1 a2=>⟨λa3=>?_,λa3=>?_⟩,λa1=>?_⟩
  ·refine Q3 (c67 u c.fr c.fr.length c.n) (.cons .lst (.cons .val (.cons .val .nil))) ?_;simp[unk,unA,unE,flat];refine⟨λa4=>?_,λa4=>?_⟩
   ·refine Q3 (c67 u c.to c.fr.length c.n) (.cons .lst (.cons .val (.cons .val .nil))) ?_;simp[unk,unA,unE,flat];refine⟨λa5 a6=>?_,λa5=>?_⟩
    ·exact hJ ((c.cs.length:Int)!=c.fr.length) (by simp[Cat.P1];grind) _ (rbQ hP [(0,0)])
    intros;exact hJ (true) (yes λhp=>by simp[Cat.P1]at hp;grind) _ (rbQ hP [(0,0)])
   intros;exact hJ (true) (yes λhp=>by simp[Cat.P1]at hp;grind) _ (rbQ hP [(0,0)])
  ·exact hJ (true) (yes λhp=>by have:=hp.2.2.1;omega) _ (rbQ hP [(0,0)])
  exact hJ (true) (yes λhp=>by have:=hp.1;have:=hp.2.1;omega) _ (rbQ hP [(0,0)])
 clear hK K;refine Q7 rfl (λh=>?_) λh=>?_
 ·refine srQ hN λK hK=>?_;simp;refine hK _ (Qe (QT rfl (bo_f λhs=>?_)));clear hK K;exact hb.1 h hs.P1
 have p1:c.P1:=yP λhn=>by rw[hb.2 hn]at h;cases h
 refine Q8 (Q0 (srQ hN λK hK=>?_));refine join hK (λb=>⟨YY (Y0J c [(56,.val (.bool b))]),Yo c u [],1⟩) (¬c.P2) (λhJ=>?_) λb hb=>?_
 ·simp;refine⟨λa1=>?_,λa1=>?_⟩
  ·refine Q3 (c57 u c.id c.fr.length) (.cons .val (.cons .lst .nil)) ?_;simp[unk,unA,unE,flat];exact hJ (!c.id.all (inR c.fr.length)) (by simp[Cat.P2,a1]) _ (rbQ hP [(0,0)])
  exact hJ (true) (yes λhp=>a1 hp.1) _ (rbQ hP [(0,0)])
 clear hK K;refine Q7 rfl (λh=>?_) λh=>?_
 ·refine srQ hN λK hK=>?_;simp;refine hK _ (Qe (QT rfl (bo_f λhs=>?_)));clear hK K;exact hb.1 h hs.P2
 have p2:c.P2:=yP λhn=>by rw[hb.2 hn]at h;cases h
 have hl1:c.to.length=c.fr.length:=p1.2.2.2.1;have hl2:c.cs.length=c.fr.length:=p1.2.2.2.2.2.2;have hl3:(c.id.length:Int)=c.n:=p2.1;have hn8:c.n≤8:=p1.2.1;have hm40:c.fr.length≤40:=p1.2.2.1;refine Q8 (Q0 (srQ hN λK hK=>?_));simp;refine hK _ (Q5 (Q2s (λx:Nat=>⟨YY (Y0J c [(4,iV x)]),Yo c u [],1⟩) (λx=>x≤c.id.length∧∀y:Nat,y<x→ix c.fr (ix c.id y)=y∧ix c.to (ix c.id y)=y) (λx=>c.id.length - x) 0 (by simp) (rbQ hP [(0,0)]) ?_));clear hK K
 rintro x ⟨hx,hi0⟩
 refine Q0 (srQ hN λK hK=>?_);simp;refine hK _ ?_;clear hK K;refine Q7 rfl (λh=>?_) λh=>?_
 ·simp at h;have hx1:x<c.id.length:=by omega
  have b1:=Q7k p2.2 (j:=x) (by omega) (by omega);have b2:ix c.id x<c.to.length:=by omega
  refine Q8 (Q0 (Q5 (srQ hN λK hK=>?_)));refine join hK (λb=>⟨YY (Y0J c [(4,iV x),(86,.val (.bool b))]),Yo c u [],1⟩) (¬(ix c.fr (ix c.id x)=x∧ix c.to (ix c.id x)=x)) (λhJ=>?_) λb hb=>?_
  ·simp[Q2e,Q3h,Q2u,Q2H,hx1,b1.1,b1.2,b2];refine⟨λa1=>?_,λa1=>?_⟩
   ·exact hJ (ix c.to (ix c.id x)!=x) (by simp[a1]) _ (rbQ hP [(0,0)])
   exact hJ (true) (yes λhp=>a1 hp.1) _ (rbQ hP [(0,0)])
  clear hK K;refine Q7 rfl (λh=>?_) λh=>?_
  ·refine srQ hN λK hK=>?_;simp;refine hK _ (Qe (QT rfl (bo_f λhs=>?_)));clear hK K;exact hb.1 h (hs.ids x hx1)
  have hc:ix c.fr (ix c.id x)=x∧ix c.to (ix c.id x)=x:=yP λhn=>by rw[hb.2 hn]at h;cases h
  refine Q8 (runQ hN λK hK=>?_);simp;refine hK _ ?_;clear hK K;rw[QK (n:=c.id.length) (by omega) (by omega)];refine⟨x+1,⟨by omega,Q1e hi0 hc⟩,by dsimp only;omega,(rbQ hP [(0,0)])⟩
 simp at h;have hx2:c.id.length≤x:=by omega
 clear h;refine Ql ?_;simp;refine Q0 (srQ hN λK hK=>?_);simp;refine hK _ (Q5 ?_);clear hK K;have hi1:∀y:Nat,y<c.id.length→ix c.fr (ix c.id y)=y∧ix c.to (ix c.id y)=y:=λy hy=>hi0 y (by omega);refine Q2s (λf:Nat=>⟨YY (Y0J c [(5,iV f)]),Yo c u [],1⟩) (λf=>f≤c.fr.length∧∀y:Nat,y<f→c.row y) (λf=>c.fr.length - f) 0 (by simp) (rbQ hP [(0,0)]) ?_
 rintro f ⟨hf,hi2⟩
 refine Q0 (srQ hN λK hK=>?_);simp;refine hK _ ?_;clear hK K;refine Q7 rfl (λh=>?_) λh=>?_
 ·simp at h;have hf1:f<c.fr.length:=h;clear h;refine Q8 (Q0 (Q5 (Q0 (srQ hN λK hK=>?_))));simp[Q2e,Q3h,Q2u,Q2H,hl2,hf1];refine hK _ ?_;clear hK K;refine Q7 rfl (λh=>?_) λh=>?_
  ·simp at h;refine srQ hN λK hK=>?_;simp;refine hK _ (Qe (QT rfl (bo_f λhs=>?_)));clear hK K;exact absurd (hs.rows f hf1).1 (by omega)
  simp at h;have hr:(rx c.cs f).length=c.fr.length:=by omega
  clear h;refine Q8 (srQ hN λK hK=>?_);simp;refine hK _ (Q5 (Q2s (λg:Nat=>⟨YY (Y0J c [(5,iV f),(6,iV g)]),Yo c u [],1⟩) (λg=>g≤c.fr.length∧∀y:Nat,y<g→c.cell f y) (λg=>c.fr.length - g) 0 (by simp) (rbQ hP [(0,0)]) ?_));clear hK K
  rintro g ⟨hg,hi3⟩
  refine Q0 (srQ hN λK hK=>?_);simp;refine hK _ ?_;clear hK K;refine Q7 rfl (λh=>?_) λh=>?_
  ·simp at h;have hg1:g<c.fr.length:=h;clear h;refine Q8 (Q0 (Q5 (srQ hN λK hK=>?_)));simp[Q2e,Q3h,Q2u,Q2H,hl2,hf1,hr,hg1];refine hK _ ?_;clear hK K;refine Q0 (srQ hN λK hK=>?_);simp[Q2e,Q3h,Q2u,Q2H,hl1,hf1,hg1];refine hK _ ?_;clear hK K;refine Q7 rfl (λh1=>?_) λh1=>?_
   ·simp at h1;refine Q0 (srQ hN λK hK=>?_);simp;refine hK _ ?_;clear hK K;refine Q7 rfl (λh2=>?_) λh2=>?_
    ·simp at h2;refine srQ hN λK hK=>?_;simp;refine hK _ (Qe (QT rfl (bo_f λhs=>?_)));clear hK K;exact h2 (((hs.rows f hf1).2 g hg1).1 h1)
    simp at h2;have hc:c.cell f g:=⟨λ_=>h2,λe=>absurd e h1⟩;refine Q8 (Ql ?_);simp;refine runQ hN λK hK=>?_;simp;refine hK _ ?_;clear hK K;rw[QK (n:=c.fr.length) (by omega) (by omega)];refine⟨g+1,⟨by omega,Q1e hi3 hc⟩,by dsimp only;omega,(rbQ hP [(0,0)])⟩
   simp at h1;refine Q8 (srQ hN λK hK=>?_);refine join hK (λb=>⟨YY (Y0J c [(5,iV f),(6,iV g),(158,.val (.bool b))]),Yo c u [],1⟩) (¬c.cell f g) (λhJ=>?_) λb hb=>?_
   ·simp +contextual [Q2e,Q3h,Q2u,Q2H,hl1,hf1,hg1];have hcell:c.cell f g↔0≤ix (rx c.cs f) g∧ix (rx c.cs f) g<c.fr.length∧ix c.fr (ix (rx c.cs f) g)=ix c.fr f∧ix c.to (ix (rx c.cs f) g)=ix c.to g:=⟨λq=>q.2 h1,λq=>⟨λe=>absurd h1 e,λ_=>q⟩⟩;rw[hcell]at hJ;refine⟨λa1=>⟨λa2=>⟨λa3=>?_,λa3=>?_⟩,λa2=>?_⟩,λa1=>?_⟩
    ·exact hJ (ix c.to (ix (rx c.cs f) g)!=ix c.to g) (by simp[a1,a2,a3]) _ (rbQ hP [(0,0)])
    ·exact hJ (true) (yes λhp=>a3 hp.2.2.1) _ (rbQ hP [(0,0)])
    ·exact hJ (true) (yes λhp=>by omega) _ (rbQ hP [(0,0)])
    exact hJ (true) (yes λhp=>by omega) _ (rbQ hP [(0,0)])
   clear hK K;refine Q7 rfl (λh=>?_) λh=>?_
   ·refine srQ hN λK hK=>?_;simp;refine hK _ (Qe (QT rfl (bo_f λhs=>?_)));clear hK K;exact hb.1 h ((hs.rows f hf1).2 g hg1)
   have hc:c.cell f g:=yP λhn=>by rw[hb.2 hn]at h;cases h
   refine Q8 (runQ hN λK hK=>?_);simp;refine hK _ ?_;clear hK K;rw[QK (n:=c.fr.length) (by omega) (by omega)];refine⟨g+1,⟨by omega,Q1e hi3 hc⟩,by dsimp only;omega,(rbQ hP [(0,0)])⟩
  simp at h;have hg2:c.fr.length≤g:=by omega
  clear h;refine Ql ?_;simp;refine runQ hN λK hK=>?_;simp;refine hK _ ?_;clear hK K;rw[QK (n:=c.fr.length) (by omega) (by omega)];refine⟨f+1,⟨by omega,Q1e hi2 ⟨hr,λy hy=>hi3 y (by omega)⟩⟩,by dsimp only;omega,(rbQ hP [(0,0)])⟩
 simp at h;have hf2:c.fr.length≤f:=by omega
 clear h;refine Ql ?_;simp;refine srQ hN λK hK=>?_;simp;refine hK _ (Qe (QT rfl (bo_t ?_)));clear hK K;exact⟨p1.1,p1.2.1,p1.2.2.1,hl1,p1.2.2.2.2.1,p1.2.2.2.2.2.1,hl2,hl3,p2.2,hi1,λy hy=>hi2 y (by omega)⟩
def Cat.Q1(c:Cat):Prop:=0≤c.n∧c.n≤8∧c.fr.length≤40∧c.to.length=c.fr.length∧(∀x∈c.fr,inR c.n x=true)∧(∀x∈c.to,inR c.n x=true)
def Cat.Q2(c:Cat):Prop:=(c.id.length:Int)=c.n∧(∀x∈c.id,inR c.fr.length x=true)∧c.cs.length=c.fr.length
theorem Cat.Sh.Q1{c:Cat}(h:c.Sh):c.Q1:=⟨h.n0,h.n8,h.m40,h.lt,h.fr,h.to⟩
theorem Cat.Sh.Q2{c:Cat}(h:c.Sh):c.Q2:=⟨h.li,h.id,h.lc⟩
@[simp] abbrev Yl(a:Cat)(b:Bool)(c:List AV)(d:List (Nat×AV)):List (Nat×AV):=(0,.rptr (iV a.n::.lst b 1 (Is a.fr)::.lst b 1 (Is a.to)::.lst b 1 (Is a.id)::.lst b 1 (Ls a.cs)::c))::d
theorem c65(u:Bool)(c:Cat)(tl:List AV):Contract Try.prog 100 [.rptr (c.cells u++tl)] (.val (.bool (bo c.Sh))):=by
 refine Qu (rs:=[.val (.bool (bo c.Sh))]) Try.func100 rfl rfl rfl rfl (by simp[Try.f100]) λF hN hP=>?_;simp only[Cat.cells,List.cons_append,List.nil_append];refine srQ hN λK hK=>?_;simp[Cat.cells];refine hK _ ?_;clear hK K;refine srQ hN λK hK=>?_;simp;refine Q3 (c61 u c tl) (.cons .rptr .nil) ?_;simp[unk,unA,unE,flat];refine hK _ ?_;clear hK K;refine Q0 (srQ hN λK hK=>?_);refine join hK (λb=>⟨Yl c u tl (Y0J c [(54,.val (.bool b))]),[],0⟩) (¬c.Q1) (λhJ=>?_) λb hb=>?_
 ·simp[Cat.cells];refine Q3 (c46 c.n 0 8) (.cons .val (.cons .val (.cons .val .nil))) ?_;simp[unk,unA,unE,flat];refine⟨λa1 a2=>⟨λa3=>⟨λa7=>?_,λa7=>?_⟩,λa3=>?_⟩,λa1=>?_⟩
  ·refine Q3 (c22 u c.fr c.n ⟨by omega,by omega⟩) (.cons .lst (.cons .val .nil)) ?_;simp[unk,unA,unE,flat];refine⟨λa4=>?_,λa4=>?_⟩
   ·refine Q3 (c22 u c.to c.n ⟨by omega,by omega⟩) (.cons .lst (.cons .val .nil)) ?_;simp[unk,unA,unE,flat];exact hJ (!c.to.all (inR c.n)) (by simp[Cat.Q1];grind) _ (rbQ hP [])
   intros;exact hJ (true) (yes λhp=>by simp[Cat.Q1]at hp;grind) _ (rbQ hP [])
  ·exact hJ (true) (yes λhp=>by have:=hp.2.2.2.1;omega) _ (rbQ hP [])
  ·exact hJ (true) (yes λhp=>by have:=hp.2.2.1;omega) _ (rbQ hP [])
  exact hJ (true) (yes λhp=>by have:=hp.1;have:=hp.2.1;omega) _ (rbQ hP [])
 clear hK K;refine Q7 rfl (λh=>?_) λh=>?_
 ·refine srQ hN λK hK=>?_;simp;refine hK _ (Qe (QT rfl (bo_f λhs=>?_)));clear hK K;exact hb.1 h hs.Q1
 have p1:c.Q1:=yP λhn=>by rw[hb.2 hn]at h;cases h
 have hm40:c.fr.length≤40:=p1.2.2.1;refine Q8 (Q0 (srQ hN λK hK=>?_));refine join hK (λb=>⟨Yl c u tl (Y0J c [(82,.val (.bool b))]),[],0⟩) (¬c.Q2) (λhJ=>?_) λb hb=>?_
 ·simp[Cat.cells];refine⟨λa1=>?_,λa1=>?_⟩
  ·refine Q3 (c22 u c.id c.fr.length ⟨by omega,by omega⟩) (.cons .lst (.cons .val .nil)) ?_;simp[unk,unA,unE,flat];refine⟨λa2=>?_,λa2=>?_⟩
   ·exact hJ ((c.cs.length:Int)!=c.fr.length) (by simp[Cat.Q2];grind) _ (rbQ hP [])
   intros;exact hJ (true) (yes λhp=>by simp[Cat.Q2]at hp;grind) _ (rbQ hP [])
  exact hJ (true) (yes λhp=>a1 hp.1) _ (rbQ hP [])
 clear hK K;refine Q7 rfl (λh=>?_) λh=>?_
 ·refine srQ hN λK hK=>?_;simp;refine hK _ (Qe (QT rfl (bo_f λhs=>?_)));clear hK K;exact hb.1 h hs.Q2
 have p2:c.Q2:=yP λhn=>by rw[hb.2 hn]at h;cases h
 have hl1:c.to.length=c.fr.length:=p1.2.2.2.1;have hl2:c.cs.length=c.fr.length:=p2.2.2;have hl3:(c.id.length:Int)=c.n:=p2.1;have hn8:c.n≤8:=p1.2.1;refine Q8 (Q0 (srQ hN λK hK=>?_));simp;refine hK _ (Q5 (Q2s (λx:Nat=>⟨Yl c u tl (Y0J c [(86,.lst u 1 (Is c.id)),(87,iV c.id.length),(88,iV x)]),[],0⟩) (λx=>x≤c.id.length∧∀y:Nat,y<x→ix c.fr (ix c.id y)=y∧ix c.to (ix c.id y)=y) (λx=>c.id.length - x) 0 (by simp) (rbQ hP []) ?_));clear hK K
 rintro x ⟨hx,hi0⟩
 refine srQ hN λK hK=>?_;simp;refine hK _ ?_;clear hK K;refine Q0 (Q7 rfl (λh=>?_) λh=>?_)
 ·simp at h;have hx1:x<c.id.length:=h;clear h;have b1:=Q7k p2.2.1 (j:=x) (by omega) (by omega);refine Q8 (Q0 (Q5 (srQ hN λK hK=>?_)));simp[Q2e,Q3h,Q2u,Q2H,hx1];refine hK _ ?_;clear hK K;refine srQ hN λK hK=>?_;simp;refine Q3 (c68 u c tl (ix c.id x) b1.1 b1.2 (by omega)) (.cons .rptr (.cons .val .nil)) ?_;simp[unk,unA,unE,unC,flat,Qc];refine hK _ ?_;clear hK K;refine Q7 rfl (λh=>?_) λh=>?_
  ·simp at h;refine srQ hN λK hK=>?_;simp;refine hK _ (Qe (QT rfl (bo_f λhs=>?_)));clear hK K;have:=hs.ids x hx1;simp[this.1,this.2]at h
  simp at h;have hc:ix c.fr (ix c.id x)=x∧ix c.to (ix c.id x)=x:=h;refine Q8 (runQ hN λK hK=>?_);simp;refine hK _ ?_;clear hK K;rw[QK (n:=c.id.length) (by omega) (by omega)];refine⟨x+1,⟨by omega,Q1e hi0 hc⟩,by dsimp only;omega,(rbQ hP [])⟩
 simp at h;have hx2:c.id.length≤x:=by omega
 clear h;refine Ql ?_;simp;refine Q0 (srQ hN λK hK=>?_);simp[hl2];refine hK _ (Q5 ?_);clear hK K;have hi1:∀y:Nat,y<c.id.length→ix c.fr (ix c.id y)=y∧ix c.to (ix c.id y)=y:=λy hy=>hi0 y (by omega);refine Q2s (λf:Nat=>⟨Yl c u tl (Y0J c [(104,.lst u 1 (Ls c.cs)),(105,iV c.fr.length),(106,iV f)]),[],0⟩) (λf=>f≤c.fr.length∧∀y:Nat,y<f→c.row y) (λf=>c.fr.length - f) 0 (by simp) (rbQ hP []) ?_
 rintro f ⟨hf,hi2⟩
 refine srQ hN λK hK=>?_;simp;refine hK _ ?_;clear hK K;refine Q0 (Q7 rfl (λh=>?_) λh=>?_)
 ·simp at h;have hf1:f<c.fr.length:=h;clear h;refine Q8 (Q0 (Q5 (srQ hN λK hK=>?_)));simp[Q2e,Q3h,Q2u,Q2H,hl2,hf1];refine hK _ ?_;clear hK K;refine Q0 (srQ hN λK hK=>?_);simp;refine hK _ ?_;clear hK K;refine Q7 rfl (λh=>?_) λh=>?_
  ·simp at h;refine srQ hN λK hK=>?_;simp;refine hK _ (Qe (QT rfl (bo_f λhs=>?_)));clear hK K;exact absurd (hs.rows f hf1).1 (by omega)
  simp at h;have hr:(rx c.cs f).length=c.fr.length:=by omega
  clear h;refine Q8 (srQ hN λK hK=>?_);simp[hr];refine hK _ (Q5 (Q2s (λg:Nat=>⟨Yl c u tl (Y0J c [(6,iV f),(104,.lst u 1 (Ls c.cs)),(105,iV c.fr.length),(106,iV f),(115,lI (rx c.cs f)),(116,iV c.fr.length),(117,iV g)]),[],0⟩) (λg=>g≤c.fr.length∧∀y:Nat,y<g→c.cell f y) (λg=>c.fr.length - g) 0 (by simp) (rbQ hP []) ?_));clear hK K
  rintro g ⟨hg,hi3⟩
  refine srQ hN λK hK=>?_;simp;refine hK _ ?_;clear hK K;refine Q0 (Q7 rfl (λh=>?_) λh=>?_)
  ·simp at h;have hg1:g<c.fr.length:=h;clear h;refine Q8 (Q0 (Q5 (srQ hN λK hK=>?_)));simp[Q2e,Q3h,Q2u,Q2H,hr,hg1];refine hK _ ?_;clear hK K;refine Q0 (srQ hN λK hK=>?_);simp[Q2e,Q3h,Q2u,Q2H,hl1,hf1,hg1];refine hK _ ?_;clear hK K;refine Q7 rfl (λh1=>?_) λh1=>?_
   ·simp at h1;refine Q0 (srQ hN λK hK=>?_);simp;refine hK _ ?_;clear hK K;refine Q7 rfl (λh2=>?_) λh2=>?_
    ·simp at h2;refine srQ hN λK hK=>?_;simp;refine hK _ (Qe (QT rfl (bo_f λhs=>?_)));clear hK K;exact h2 (((hs.rows f hf1).2 g hg1).1 h1)
    simp at h2;have hc:c.cell f g:=⟨λ_=>h2,λe=>absurd e h1⟩;refine Q8 (Ql ?_);simp;refine runQ hN λK hK=>?_;simp;refine hK _ ?_;clear hK K;rw[QK (n:=c.fr.length) (by omega) (by omega)];refine⟨g+1,⟨by omega,Q1e hi3 hc⟩,by dsimp only;omega,(rbQ hP [])⟩
   simp at h1;refine Q8 (srQ hN λK hK=>?_);refine join hK (λb=>⟨Yl c u tl (Y0J c [(104,.lst u 1 (Ls c.cs)),(105,iV c.fr.length),(106,iV f),(115,lI (rx c.cs f)),(116,iV c.fr.length),(117,iV g),(6,iV f),(164,.val (.bool b))]),[],0⟩) (¬c.cell f g) (λhJ=>?_) λb hb=>?_
   ·simp;have hcell:c.cell f g↔0≤ix (rx c.cs f) g∧ix (rx c.cs f) g<c.fr.length∧ix c.fr (ix (rx c.cs f) g)=ix c.fr f∧ix c.to (ix (rx c.cs f) g)=ix c.to g:=⟨λq=>q.2 h1,λq=>⟨λe=>absurd h1 e,λ_=>q⟩⟩;rw[hcell]at hJ;refine Q3 (c46 (ix (rx c.cs f) g) 0 (c.fr.length - 1)) (by rw[Qh ⟨by omega,by omega⟩];exact .cons .val (.cons .val (.cons .val .nil))) ?_;simp[unk,unA,unE,flat];refine⟨λa1 a2=>?_,λa1=>?_⟩
    ·refine Q3 (c68 u c tl (ix (rx c.cs f) g) a1 (by omega) (by omega)) (.cons .rptr (.cons .val .nil)) ?_;simp[unk,unA,unE,unC,flat,Qc,Q2e,Q3h,Q2u,Q2H,hl1,hf1,hg1];exact hJ (!(ix c.fr (ix (rx c.cs f) g)==ix c.fr f)||!(ix c.to (ix (rx c.cs f) g)==ix c.to g)) (by simp[a1];grind) _ (rbQ hP [])
    exact hJ (true) (yes λhp=>by omega) _ (rbQ hP [])
   clear hK K;refine Q7 rfl (λh=>?_) λh=>?_
   ·refine srQ hN λK hK=>?_;simp;refine hK _ (Qe (QT rfl (bo_f λhs=>?_)));clear hK K;exact hb.1 h ((hs.rows f hf1).2 g hg1)
   have hc:c.cell f g:=yP λhn=>by rw[hb.2 hn]at h;cases h
   refine Q8 (runQ hN λK hK=>?_);simp;refine hK _ ?_;clear hK K;rw[QK (n:=c.fr.length) (by omega) (by omega)];refine⟨g+1,⟨by omega,Q1e hi3 hc⟩,by dsimp only;omega,(rbQ hP [])⟩
  simp at h;have hg2:c.fr.length≤g:=by omega
  clear h;refine Ql ?_;simp;refine runQ hN λK hK=>?_;simp;refine hK _ ?_;clear hK K;rw[QK (n:=c.fr.length) (by omega) (by omega)];refine⟨f+1,⟨by omega,Q1e hi2 ⟨hr,λy hy=>hi3 y (by omega)⟩⟩,by dsimp only;omega,(rbQ hP [])⟩
 simp at h;have hf2:c.fr.length≤f:=by omega
 clear h;refine Ql ?_;simp;refine srQ hN λK hK=>?_;simp;refine hK _ (Qe (QT rfl (bo_t ?_)));clear hK K;exact⟨p1.1,p1.2.1,p1.2.2.1,hl1,p1.2.2.2.2.1,p1.2.2.2.2.2,hl2,hl3,p2.2.1,hi1,λy hy=>hi2 y (by omega)⟩
end
section
attribute [local simp] Qi QP Qv Q1l QN
def first{α:Type}(p:Nat→Option α):Nat→Option α
 |0=>none
 |n+1=>match first p n with
  |some a=>some a
  |none=>p n
theorem Q1L{α:Type}{p:Nat→Option α}:∀{n:Nat},(∀j,j<n→p j=none)→first p n=none:=by
 intro n
 induction n with
 |zero=>intro _;rfl
 |succ n ih=>intro h;simp only[first];rw[ih λj hj=>h j (by omega)];exact h n (by omega)
theorem Q4c{α:Type}{p:Nat→Option α}{i:Nat}{a:α}(h1:∀j,j<i→p j=none)(h2:p i=some a):∀{n:Nat},i<n→first p n=some a:=by
 intro n
 induction n with
 |zero=>intro h;omega
 |succ n ih=>
  intro h;simp only[first];rcases Nat.lt_or_ge i n with hlt|hge
  ·rw[ih hlt]
  have:i=n:=by omega
  subst this;rw[Q1L h1];exact h2
theorem Q4F{α:Type}{p:Nat→Option α}:∀{n:Nat},first p n=none→∀j,j<n→p j=none:=by
 intro n
 induction n with
 |zero=>intro _ j hj;omega
 |succ n ih=>
  intro h j hj;simp only[first]at h;split at h
  ·cases h
  rename_i h0;rcases Nat.lt_or_ge j n with hlt|hge
  ·exact ih h0 j hlt
  have:j=n:=by omega
  subst this;exact h
def Cat.un(c:Cat)(f:Nat):Prop:=ix (rx c.cs (ix c.id (ix c.fr f))) f=f∧ix (rx c.cs f) (ix c.id (ix c.to f))=f
def Cat.as(c:Cat)(f g h:Nat):Prop:=ix c.to f=ix c.fr g→ix c.to g=ix c.fr h→ix (rx c.cs (ix (rx c.cs f) g)) h=ix (rx c.cs f) (ix (rx c.cs g) h)
open Classical in
def Cat.f1(c:Cat)(f:Nat):Option (Int×Int×Int×Int):=if c.un f then none else some (1,f,0,0)
open Classical in
def Cat.f2(c:Cat)(f g h:Nat):Option (Int×Int×Int×Int):=if c.as f g h then none else some (2,f,g,h)
def Cat.fault(c:Cat):Option (Int×Int×Int×Int):=match first c.f1 c.fr.length with
 |some x=>some x
 |none=>first (λf=>first (λg=>first (λh=>c.f2 f g h) c.fr.length) c.fr.length) c.fr.length
def Cat.Law(c:Cat):Prop:=(∀f,f<c.fr.length→c.un f)∧∀f,f<c.fr.length→∀g,g<c.fr.length→∀h,h<c.fr.length→c.as f g h
section
variable {c:Cat}
theorem Q7y{f:Nat}(hf:f<c.fr.length)(h1:∀y,y<f→c.un y)(h2:¬c.un f):c.fault=some (1,(f:Int),0,0):=by
 unfold Cat.fault;rw[Q4c (i:=f) (a:=(1,(f:Int),0,0)) (λj hj=>by simp[Cat.f1,h1 j hj]) (by simp[Cat.f1,h2]) hf]
theorem Q7z{f g h:Nat}(hf:f<c.fr.length)(hg:g<c.fr.length)(hh:h<c.fr.length)(h0:∀y,y<c.fr.length→c.un y)(h1:∀y,y<f→∀g,g<c.fr.length→∀h,h<c.fr.length→c.as y g h)(h2:∀y,y<g→∀h,h<c.fr.length→c.as f y h)(h3:∀y,y<h→c.as f g y)(h4:¬c.as f g h):c.fault=some (2,(f:Int),(g:Int),(h:Int)):=by
 unfold Cat.fault;rw[Q1L λj hj=>by simp[Cat.f1,h0 j hj]];simp only;refine Q4c (i:=f) (λj hj=>Q1L λg hg=>Q1L λh hh=>by simp[Cat.f2,h1 j hj g hg h hh]) ?_ hf;refine Q4c (i:=g) (λj hj=>Q1L λh hh=>by simp[Cat.f2,h2 j hj h hh]) ?_ hg;refine Q4c (i:=h) (λj hj=>by simp[Cat.f2,h3 j hj]) ?_ hh;simp[Cat.f2,h4]
theorem Q50(h0:∀y,y<c.fr.length→c.un y)(h1:∀y,y<c.fr.length→∀g,g<c.fr.length→∀h,h<c.fr.length→c.as y g h):c.fault=none:=by
 unfold Cat.fault;rw[Q1L λj hj=>by simp[Cat.f1,h0 j hj]];exact Q1L λf hf=>Q1L λg hg=>Q1L λh hh=>by simp[Cat.f2,h1 f hf g hg h hh]
theorem Cat.Sh.fr'(hs:c.Sh){j:Int}(h0:0≤j)(h1:j<c.fr.length):0≤ix c.fr j∧ix c.fr j<c.id.length:=by
 have:=Q7k hs.fr h0 h1;have:=hs.li;omega
theorem Cat.Sh.to'(hs:c.Sh){j:Int}(h0:0≤j)(h1:j<c.fr.length):0≤ix c.to j∧ix c.to j<c.id.length:=by
 have:=Q7k hs.to h0 (by rw[hs.lt];exact h1);have:=hs.li;omega
theorem Cat.Sh.id'(hs:c.Sh){j:Int}(h0:0≤j)(h1:j<c.id.length):0≤ix c.id j∧ix c.id j<c.fr.length:=Q7k hs.id h0 h1
theorem Cat.Sh.row'(hs:c.Sh){j:Int}(h0:0≤j)(h1:j<c.fr.length):(rx c.cs j).length=c.fr.length:=by
 have:=(hs.rows j.toNat (by omega)).1
 rwa[Int.toNat_of_nonneg h0]at this
theorem Cat.Sh.cell'(hs:c.Sh){f g:Int}(h0:0≤f)(h1:f<c.fr.length)(h2:0≤g)(h3:g<c.fr.length):(ix c.to f≠ix c.fr g→ix (rx c.cs f) g= -1)∧
  (ix c.to f=ix c.fr g→0≤ix (rx c.cs f) g∧ix (rx c.cs f) g<c.fr.length∧ix c.fr (ix (rx c.cs f) g)=ix c.fr f∧ix c.to (ix (rx c.cs f) g)=ix c.to g):=by
 have:=(hs.rows f.toNat (by omega)).2 g.toNat (by omega);simpa only[Cat.cell,Int.toNat_of_nonneg h0,Int.toNat_of_nonneg h2]using this
end
theorem nope{C:Prop}(h:¬C):(false=true↔C):=⟨λh1=>Bool.noConfusion h1,λh2=>absurd h2 h⟩
def four(k:Option (Int×Int×Int×Int)):List AV:=
 [.val (.int .i64 (k.getD (0,0,0,0)).1),.val (.int .i64 (k.getD (0,0,0,0)).2.1),.val (.int .i64 (k.getD (0,0,0,0)).2.2.1),.val (.int .i64 (k.getD (0,0,0,0)).2.2.2)]
theorem fault_zero{c:Cat}:(c.fault.getD (0,0,0,0)).1=0↔c.Law:=by
 by_cases h1:∀y,y<c.fr.length→c.un y
 ·by_cases h2:∀y,y<c.fr.length→∀g,g<c.fr.length→∀h,h<c.fr.length→c.as y g h
  ·rw[Q50 h1 h2];exact⟨λ_=>⟨h1,h2⟩,λ_=>rfl⟩
  have:c.fault≠none:=by
   intro h0;apply h2;unfold Cat.fault at h0;split at h0
   ·cases h0
   intro f hf g hg h hh;have:=Q4F (Q4F (Q4F h0 f hf) g hg) h hh;simpa[Cat.f2]using this
  refine⟨λh=>?_,λh=>absurd h.2 h2⟩;exfalso;unfold Cat.fault at this h;rw[Q1L λj hj=>by simp[Cat.f1,h1 j hj]]at this h;simp only at this h;have key:∀{α:Type} (p:Nat→Option α) (Q:α→Prop),(∀i a,p i=some a→Q a)→∀n a,first p n=some a→Q a:=by
   intro α p Q hp n
   induction n with
   |zero=>intro a h;cases h
   |succ n ih=>
    intro a h;simp only[first]at h;split at h
    ·rename_i x hx;cases h;exact ih _ hx
    exact hp _ _ h
  obtain⟨x,hx⟩:=Option.ne_none_iff_exists'.1 this;have:x.1=2:=key _ (λx=>x.1=2) (λf a ha=>key _ (λx=>x.1=2) (λg a ha=>key _ (λx=>x.1=2) (λh a ha=>by
   simp only[Cat.f2]at ha;split at ha
   ·cases ha
   cases ha;rfl) _ _ ha) _ _ ha) _ _ hx
  rw[hx]at h;simp[this]at h
 refine⟨λh=>?_,λh=>absurd h.1 h1⟩;exfalso;unfold Cat.fault at h;cases hq:first c.f1 c.fr.length with
 |none=>
  apply h1;intro y hy;have:=Q4F hq y hy;simpa[Cat.f1]using this
 |some x=>
  rw[hq]at h;have key:∀n a,first c.f1 n=some a→a.1=1:=by
   intro n
   induction n with
   |zero=>intro a h;cases h
   |succ n ih=>
    intro a h;simp only[first]at h;split at h
    ·rename_i x hx;cases h;exact ih _ hx
    simp only[Cat.f1]at h;split at h
    ·cases h
    cases h;rfl
  have:=key _ _ hq;simp[this]at h
@[simp] abbrev Y0D(a:Cat)(b c:Nat)(d:List (Nat×AV)):List (Nat×AV):=(6,iV a.fr.length)::(8,iV b)::(9,iV c)::d
theorem c64(u:Bool)(c:Cat)(hs:c.Sh):Contract Try.prog 135 [.agg (c.cells u)] (.tup (four c.fault)):=by
 refine Qu (rs:=four c.fault) Try.func135 rfl rfl rfl rfl (by simp[Try.f135]) λF hN hP=>?_;have hl1:=hs.lt;have hl2:=hs.lc;have hm40:=hs.m40;refine srQ hN λK hK=>?_;simp[Cat.cells];refine hK _ ?_;clear hK K;refine srQ hN λK hK=>?_;simp[Cat.cells];refine hK _ ?_;clear hK K;refine Q0 (srQ hN λK hK=>?_);simp;refine hK _ (Q5 (Q2s (λf:Nat=>⟨YY [(6,iV c.fr.length),(7,iV f)],Yo c u [],1⟩) (λf=>f≤c.fr.length∧∀y:Nat,y<f→c.un y) (λf=>c.fr.length - f) 0 (by simp) (rbQ hP [(0,0)]) ?_));clear hK K
 rintro f ⟨hf0,hi0⟩
 refine Q0 (srQ hN λK hK=>?_);simp;refine hK _ ?_;clear hK K;refine Q7 rfl (λh=>?_) λh=>?_
 ·simp at h;have hf:f<c.fr.length:=by omega
  clear h;have a1:=hs.fr' (j:=f) (by omega) (by omega);have a2:=hs.id' a1.1 a1.2;have a3:=hs.row' a2.1 a2.2;have a4:=hs.row' (j:=f) (by omega) (by omega);have a5:=hs.to' (j:=f) (by omega) (by omega);have a6:=hs.id' a5.1 a5.2;refine Q8 (Q0 (Q5 (srQ hN λK hK=>?_)));refine join hK (λb=>⟨YY [(6,iV c.fr.length),(7,iV f),(56,.val (.bool b))],Yo c u [],1⟩) (¬c.un f) (λhJ=>?_) λb hb=>?_
  ·simp[Q2e,Q3h,Q2u,Q2H,hl1,hl2,hf,a1.1,a1.2,a2.1,a2.2,a3,a4,a5.1,a5.2,a6.1,a6.2];refine⟨λb1=>?_,λb1=>?_⟩
   ·exact hJ (ix (rx c.cs f) (ix c.id (ix c.to f))!=f) (by simp[Cat.un,b1]) _ (rbQ hP [(0,0)])
   exact hJ (true) (yes λhp=>b1 hp.1) _ (rbQ hP [(0,0)])
  clear hK K;refine Q7 rfl (λh=>?_) λh=>?_
  ·refine srQ hN λK hK=>?_;simp;refine hK _ (Qe ?_);clear hK K;rw[Q7y hf hi0 (hb.1 h)];refine⟨.one rfl rfl (.one rfl rfl (.one rfl rfl (.one rfl rfl .nil))),_,[],rfl,by simp,yN _⟩
  have hc:c.un f:=yP λhn=>by rw[hb.2 hn]at h;cases h
  refine Q8 (runQ hN λK hK=>?_);simp;refine hK _ ?_;clear hK K;rw[QK (n:=c.fr.length) (by omega) (by omega)];refine⟨f+1,⟨by omega,Q1e hi0 hc⟩,by dsimp only;omega,(rbQ hP [(0,0)])⟩
 simp at h;have hf2:c.fr.length≤f:=by omega
 clear h;have hi1:∀y:Nat,y<c.fr.length→c.un y:=λy hy=>hi0 y (by omega);refine Ql ?_;simp;refine Q0 (srQ hN λK hK=>?_);simp;refine hK _ (Q5 (Q2s (λf:Nat=>⟨YY [(6,iV c.fr.length),(8,iV f)],Yo c u [],1⟩) (λf=>f≤c.fr.length∧∀y:Nat,y<f→∀g:Nat,g<c.fr.length→∀h:Nat,h<c.fr.length→c.as y g h) (λf=>c.fr.length - f) 0 (by simp) (rbQ hP [(0,0)]) ?_));clear hK K;clear hi0 hf2 hf0 f
 rintro f ⟨hf0,hi2⟩
 refine Q0 (srQ hN λK hK=>?_);simp;refine hK _ ?_;clear hK K;refine Q7 rfl (λh=>?_) λh=>?_
 ·simp at h;have hf:f<c.fr.length:=by omega
  clear h;have rf:=hs.row' (j:=f) (by omega) (by omega);refine Q8 (Q0 (Q5 (srQ hN λK hK=>?_)));simp;refine hK _ (Q5 (Q2s (λg:Nat=>⟨YY (Y0D c f g []),Yo c u [],1⟩) (λg=>g≤c.fr.length∧∀y:Nat,y<g→∀h:Nat,h<c.fr.length→c.as f y h) (λg=>c.fr.length - g) 0 (by simp) (rbQ hP [(0,0)]) ?_));clear hK K
  rintro g ⟨hg0,hi3⟩
  refine Q0 (srQ hN λK hK=>?_);simp;refine hK _ ?_;clear hK K;refine Q7 rfl (λh=>?_) λh=>?_
  ·simp at h;have hg:g<c.fr.length:=(by omega);clear h;have rg:=hs.row' (j:=g) (by omega) (by omega);refine Q8 (Q0 (Q5 (Q0 (srQ hN λK hK=>?_))));simp[Q2e,Q3h,Q2u,Q2H,hl1,hf,hg];refine hK _ ?_;clear hK K;refine Q7 rfl (λe1=>?_) λe1=>?_
   ·simp at e1;have hc:∀h:Nat,h<c.fr.length→c.as f g h:=λh _ q=>absurd q e1;refine Ql ?_;simp;refine runQ hN λK hK=>?_;simp;refine hK _ ?_;clear hK K;rw[QK (n:=c.fr.length) (by omega) (by omega)];refine⟨g+1,⟨by omega,Q1e hi3 hc⟩,by dsimp only;omega,(rbQ hP [(0,0)])⟩
   simp at e1;have d0:=(hs.cell' (f:=f) (g:=g) (by omega) (by omega) (by omega) (by omega)).2 e1;have r0:=hs.row' d0.1 d0.2.1;refine Q8 (srQ hN λK hK=>?_);simp;refine hK _ (Q5 (Q2s (λh:Nat=>⟨YY (Y0D c f g [(10,iV h)]),Yo c u [],1⟩) (λh=>h≤c.fr.length∧∀y:Nat,y<h→c.as f g y) (λh=>c.fr.length - h) 0 (by simp) (rbQ hP [(0,0)]) ?_));clear hK K
   rintro h ⟨hh0,hi4⟩
   refine Q0 (srQ hN λK hK=>?_);simp;refine hK _ ?_;clear hK K;refine Q7 rfl (λg0=>?_) λg0=>?_
   ·simp at g0;have hh:h<c.fr.length:=(by omega);clear g0;refine Q8 (Q0 (Q5 (srQ hN λK hK=>?_)));refine join hK (λb=>⟨YY (Y0D c f g [(10,iV h),(127,.val (.bool b))]),Yo c u [],1⟩) (¬c.as f g h) (λhJ=>?_) λb hb=>?_
    ·by_cases e2:ix c.to g=ix c.fr h
     ·have d1:=(hs.cell' (f:=g) (g:=h) (by omega) (by omega) (by omega) (by omega)).2 e2;simp[Q2e,Q3h,Q2u,Q2H,e2,hl1,hl2,hf,hg,hh,rg,rf,d0.1,d0.2.1,r0,d1.1,d1.2.1];exact hJ (ix (rx c.cs (ix (rx c.cs f) g)) h !=ix (rx c.cs f) (ix (rx c.cs g) h)) (by simp[Cat.as,e1,e2]) _ (rbQ hP [(0,0)])
     simp[Q2e,Q3h,Q2u,Q2H,e2,hl1,hg,hh];exact hJ (false) (nope λhp=>hp λ_ q=>absurd q e2) _ (rbQ hP [(0,0)])
    clear hK K;refine Q7 rfl (λg0=>?_) λg0=>?_
    ·refine srQ hN λK hK=>?_;simp;refine hK _ (Qe ?_);clear hK K;rw[Q7z hf hg hh hi1 hi2 hi3 hi4 (hb.1 g0)];refine⟨.one rfl rfl (.one rfl rfl (.one rfl rfl (.one rfl rfl .nil))),_,[],rfl,by simp,yN _⟩
    have hc:c.as f g h:=yP λhn=>by rw[hb.2 hn]at g0;cases g0
    refine Q8 (runQ hN λK hK=>?_);simp;refine hK _ ?_;clear hK K;rw[QK (n:=c.fr.length) (by omega) (by omega)];refine⟨h+1,⟨by omega,Q1e hi4 hc⟩,by dsimp only;omega,(rbQ hP [(0,0)])⟩
   simp at g0;have hh2:c.fr.length≤h:=(by omega);clear g0;have hc:∀h:Nat,h<c.fr.length→c.as f g h:=λy hy=>hi4 y (by omega);refine Ql ?_;simp;refine runQ hN λK hK=>?_;simp;refine hK _ ?_;clear hK K;rw[QK (n:=c.fr.length) (by omega) (by omega)];refine⟨g+1,⟨by omega,Q1e hi3 hc⟩,by dsimp only;omega,(rbQ hP [(0,0)])⟩
  simp at h;have hg2:c.fr.length≤g:=by omega
  clear h;refine Ql ?_;simp;refine runQ hN λK hK=>?_;simp;refine hK _ ?_;clear hK K;rw[QK (n:=c.fr.length) (by omega) (by omega)];refine⟨f+1,⟨by omega,Q1e hi2 λg hg h hh=>hi3 g (by omega) h hh⟩,by dsimp only;omega,(rbQ hP [(0,0)])⟩
 simp at h;have hf2:c.fr.length≤f:=by omega
 clear h;refine Ql ?_;simp;refine srQ hN λK hK=>?_;simp;refine hK _ (Qe ?_);clear hK K;rw[Q50 hi1 λy hy=>hi2 y (by omega)];refine⟨.one rfl rfl (.one rfl rfl (.one rfl rfl (.one rfl rfl .nil))),_,[],rfl,by simp,yN _⟩
theorem c66(u:Bool)(c:Cat)(tl:List AV)(hs:c.Sh):Contract Try.prog 101 [.rptr (c.cells u++tl)] (.tup (four c.fault)):=by
 refine Qu (rs:=four c.fault) Try.func101 rfl rfl rfl rfl (by simp[Try.f101]) λF hN hP=>?_;have hl1:=hs.lt;have hl2:=hs.lc;have hm40:=hs.m40;simp only[Cat.cells,List.cons_append,List.nil_append];refine srQ hN λK hK=>?_;simp;refine hK _ ?_;clear hK K;refine srQ hN λK hK=>?_;simp;refine Q3 (c61 u c tl) (.cons .rptr .nil) ?_;simp[unk,unA,unE,flat];refine hK _ ?_;clear hK K;refine Q0 (srQ hN λK hK=>?_);simp;refine hK _ (Q5 (Q2s (λf:Nat=>⟨Yl c u tl [(6,iV c.fr.length),(7,iV f)],[],0⟩) (λf=>f≤c.fr.length∧∀y:Nat,y<f→c.un y) (λf=>c.fr.length - f) 0 (by simp) (rbQ hP []) ?_));clear hK K
 rintro f ⟨hf0,hi0⟩
 refine Q0 (srQ hN λK hK=>?_);simp;refine hK _ ?_;clear hK K;refine Q7 rfl (λh=>?_) λh=>?_
 ·simp at h;have hf:f<c.fr.length:=by omega
  clear h;have a1:=hs.fr' (j:=f) (by omega) (by omega);have a2:=hs.id' a1.1 a1.2;have a3:=hs.row' a2.1 a2.2;have a4:=hs.row' (j:=f) (by omega) (by omega);have a5:=hs.to' (j:=f) (by omega) (by omega);have a6:=hs.id' a5.1 a5.2;refine Q8 (Q0 (Q5 (srQ hN λK hK=>?_)));refine join hK (λb=>⟨Yl c u tl [(6,iV c.fr.length),(7,iV f),(55,.val (.bool b))],[],0⟩) (¬c.un f) (λhJ=>?_) λb hb=>?_
  ·simp[Q2e,Q3h,Q2u,Q2H,hl1,hf,a1.1,a1.2,a2.1,a2.2];refine Q3 (c69 u c tl (ix c.id (ix c.fr f)) (f) (a2.1) (by omega) (by omega) (by omega)) (.cons .rptr (.cons .val (.cons .val .nil))) ?_;simp[unk,unA,unE,flat,Q2e,Q3h,Q2u,Q2H,hl1,hf,a5.1,a5.2];refine⟨λb1=>?_,λb1=>?_⟩
   ·refine Q3 (c69 u c tl (f) (ix c.id (ix c.to f)) (by omega) (by omega) (a6.1) (by omega)) (.cons .rptr (.cons .val (.cons .val .nil))) ?_;simp[unk,unA,unE,flat];exact hJ (ix (rx c.cs f) (ix c.id (ix c.to f))!=f) (by simp[Cat.un,b1]) _ (rbQ hP [])
   exact hJ (true) (yes λhp=>b1 hp.1) _ (rbQ hP [])
  clear hK K;refine Q7 rfl (λh=>?_) λh=>?_
  ·refine srQ hN λK hK=>?_;simp;refine hK _ (Qe ?_);clear hK K;rw[Q7y hf hi0 (hb.1 h)];refine⟨.one rfl rfl (.one rfl rfl (.one rfl rfl (.one rfl rfl .nil))),_,[],rfl,by simp,yN _⟩
  have hc:c.un f:=yP λhn=>by rw[hb.2 hn]at h;cases h
  refine Q8 (runQ hN λK hK=>?_);simp;refine hK _ ?_;clear hK K;rw[QK (n:=c.fr.length) (by omega) (by omega)];refine⟨f+1,⟨by omega,Q1e hi0 hc⟩,by dsimp only;omega,(rbQ hP [])⟩
 simp at h;have hf2:c.fr.length≤f:=by omega
 clear h;have hi1:∀y:Nat,y<c.fr.length→c.un y:=λy hy=>hi0 y (by omega);refine Ql ?_;simp;refine Q0 (srQ hN λK hK=>?_);simp;refine hK _ (Q5 (Q2s (λf:Nat=>⟨Yl c u tl [(6,iV c.fr.length),(8,iV f)],[],0⟩) (λf=>f≤c.fr.length∧∀y:Nat,y<f→∀g:Nat,g<c.fr.length→∀h:Nat,h<c.fr.length→c.as y g h) (λf=>c.fr.length - f) 0 (by simp) (rbQ hP []) ?_));clear hK K;clear hi0 hf2 hf0 f
 rintro f ⟨hf0,hi2⟩
 refine Q0 (srQ hN λK hK=>?_);simp;refine hK _ ?_;clear hK K;refine Q7 rfl (λh=>?_) λh=>?_
 ·simp at h;have hf:f<c.fr.length:=by omega
  clear h;have rf:=hs.row' (j:=f) (by omega) (by omega);refine Q8 (Q0 (Q5 (srQ hN λK hK=>?_)));simp;refine hK _ (Q5 (Q2s (λg:Nat=>⟨Yl c u tl (Y0D c f g []),[],0⟩) (λg=>g≤c.fr.length∧∀y:Nat,y<g→∀h:Nat,h<c.fr.length→c.as f y h) (λg=>c.fr.length - g) 0 (by simp) (rbQ hP []) ?_));clear hK K
  rintro g ⟨hg0,hi3⟩
  refine Q0 (srQ hN λK hK=>?_);simp;refine hK _ ?_;clear hK K;refine Q7 rfl (λh=>?_) λh=>?_
  ·simp at h;have hg:g<c.fr.length:=(by omega);clear h;have rg:=hs.row' (j:=g) (by omega) (by omega);refine Q8 (Q0 (Q5 (Q0 (srQ hN λK hK=>?_))));simp;refine Q3 (c69 u c tl (f) (g) (by omega) (by omega) (by omega) (by omega)) (.cons .rptr (.cons .val (.cons .val .nil))) ?_;simp[unk,unA,unE,flat];refine hK _ ?_;clear hK K;refine Q7 rfl (λe0=>?_) λe0=>?_
   ·simp at e0;have e1:¬ix c.to f=ix c.fr g:=λq=>by have:=((hs.cell' (f:=f) (g:=g) (by omega) (by omega) (by omega) (by omega)).2 q).1;omega
    have hc:∀h:Nat,h<c.fr.length→c.as f g h:=λh _ q=>absurd q e1;refine Ql ?_;simp;refine runQ hN λK hK=>?_;simp;refine hK _ ?_;clear hK K;rw[QK (n:=c.fr.length) (by omega) (by omega)];refine⟨g+1,⟨by omega,Q1e hi3 hc⟩,by dsimp only;omega,(rbQ hP [])⟩
   simp at e0;have e1:ix c.to f=ix c.fr g:=yP λq=>by have:=(hs.cell' (f:=f) (g:=g) (by omega) (by omega) (by omega) (by omega)).1 q;omega
   have d0:=(hs.cell' (f:=f) (g:=g) (by omega) (by omega) (by omega) (by omega)).2 e1;have r0:=hs.row' d0.1 d0.2.1;refine Q8 (srQ hN λK hK=>?_);simp;refine hK _ (Q5 (Q2s (λh:Nat=>⟨Yl c u tl (Y0D c f g [(10,iV h)]),[],0⟩) (λh=>h≤c.fr.length∧∀y:Nat,y<h→c.as f g y) (λh=>c.fr.length - h) 0 (by simp) (rbQ hP []) ?_));clear hK K
   rintro h ⟨hh0,hi4⟩
   refine Q0 (srQ hN λK hK=>?_);simp;refine hK _ ?_;clear hK K;refine Q7 rfl (λg0=>?_) λg0=>?_
   ·simp at g0;have hh:h<c.fr.length:=(by omega);clear g0;refine Q8 (Q0 (Q5 (srQ hN λK hK=>?_)));refine join hK (λb=>⟨Yl c u tl (Y0D c f g [(10,iV h),(98,.val (.bool b))]),[],0⟩) (¬c.as f g h) (λhJ=>?_) λb hb=>?_
    ·simp;refine Q3 (c69 u c tl (g) (h) (by omega) (by omega) (by omega) (by omega)) (.cons .rptr (.cons .val (.cons .val .nil))) ?_;simp[unk,unA,unE,flat]
     by_cases e2:ix c.to g=ix c.fr h
     ·have d1:=(hs.cell' (f:=g) (g:=h) (by omega) (by omega) (by omega) (by omega)).2 e2;simp[d1.1,Int.not_lt.2 d1.1];refine Q3 (c69 u c tl (f) (g) (by omega) (by omega) (by omega) (by omega)) (.cons .rptr (.cons .val (.cons .val .nil))) ?_;simp[unk,unA,unE,flat];refine Q3 (c69 u c tl (ix (rx c.cs f) g) (h) (d0.1) (by omega) (by omega) (by omega)) (.cons .rptr (.cons .val (.cons .val .nil))) ?_;simp[unk,unA,unE,flat];refine Q3 (c69 u c tl (g) (h) (by omega) (by omega) (by omega) (by omega)) (.cons .rptr (.cons .val (.cons .val .nil))) ?_;simp[unk,unA,unE,flat];refine Q3 (c69 u c tl (f) (ix (rx c.cs g) h) (by omega) (by omega) (d1.1) (by omega)) (.cons .rptr (.cons .val (.cons .val .nil))) ?_;simp[unk,unA,unE,flat];exact hJ (ix (rx c.cs (ix (rx c.cs f) g)) h !=ix (rx c.cs f) (ix (rx c.cs g) h)) (by simp[Cat.as,e1,e2]) _ (rbQ hP [])
     have d1:=(hs.cell' (f:=g) (g:=h) (by omega) (by omega) (by omega) (by omega)).1 e2;simp[d1];exact hJ (false) (nope λhp=>hp λ_ q=>absurd q e2) _ (rbQ hP [])
    clear hK K;refine Q7 rfl (λg0=>?_) λg0=>?_
    ·refine srQ hN λK hK=>?_;simp;refine hK _ (Qe ?_);clear hK K;rw[Q7z hf hg hh hi1 hi2 hi3 hi4 (hb.1 g0)];refine⟨.one rfl rfl (.one rfl rfl (.one rfl rfl (.one rfl rfl .nil))),_,[],rfl,by simp,yN _⟩
    have hc:c.as f g h:=yP λhn=>by rw[hb.2 hn]at g0;cases g0
    refine Q8 (runQ hN λK hK=>?_);simp;refine hK _ ?_;clear hK K;rw[QK (n:=c.fr.length) (by omega) (by omega)];refine⟨h+1,⟨by omega,Q1e hi4 hc⟩,by dsimp only;omega,(rbQ hP [])⟩
   simp at g0;have hh2:c.fr.length≤h:=(by omega);clear g0;have hc:∀h:Nat,h<c.fr.length→c.as f g h:=λy hy=>hi4 y (by omega);refine Ql ?_;simp;refine runQ hN λK hK=>?_;simp;refine hK _ ?_;clear hK K;rw[QK (n:=c.fr.length) (by omega) (by omega)];refine⟨g+1,⟨by omega,Q1e hi3 hc⟩,by dsimp only;omega,(rbQ hP [])⟩
  simp at h;have hg2:c.fr.length≤g:=by omega
  clear h;refine Ql ?_;simp;refine runQ hN λK hK=>?_;simp;refine hK _ ?_;clear hK K;rw[QK (n:=c.fr.length) (by omega) (by omega)];refine⟨f+1,⟨by omega,Q1e hi2 λg hg h hh=>hi3 g (by omega) h hh⟩,by dsimp only;omega,(rbQ hP [])⟩
 simp at h;have hf2:c.fr.length≤f:=by omega
 clear h;refine Ql ?_;simp;refine srQ hN λK hK=>?_;simp;refine hK _ (Qe ?_);clear hK K;rw[Q50 hi1 λy hy=>hi2 y (by omega)];refine⟨.one rfl rfl (.one rfl rfl (.one rfl rfl (.one rfl rfl .nil))),_,[],rfl,by simp,yN _⟩
end
section
attribute [local simp] Qi QP Qv Q1l QN
def Cat.Is(c:Cat):Prop:=c.Sh∧c.Law
theorem beq_bo{a:Int}{p:Prop}(h:a=0↔p):Value.bool (a==0)=Value.bool (bo p):=by
 by_cases hp:p
 ·simp[bo,hp,h.2 hp]
 have:a≠0:=λq=>hp (h.1 q);simp[bo,hp,this]
theorem bo_not{p:Prop}(h:(!bo p)=true):¬p:=by simpa[bo]using h
theorem bo_yes{p:Prop}(h:(!bo p)=false):p:=by simpa[bo]using h
theorem c55(u:Bool)(c:Cat):Contract Try.prog 82 [.agg (c.cells u)] (.val (.bool (bo c.Is))):=by
 refine Qu (rs:=[.val (.bool (bo c.Is))]) Try.func82 rfl rfl rfl rfl (by simp[Try.f82]) λF hN hP=>?_;refine srQ hN λK hK=>?_;simp[Cat.cells];refine hK _ ?_;clear hK K;refine Q0 (srQ hN λK hK=>?_);simp;refine Q3 (c63 u c) (.cons (.aggL Cat.pur) .nil) ?_;simp[unk,unA,unE,flat];refine hK _ ?_;clear hK K;refine Q7 rfl (λh=>?_) λh=>?_
 ·refine srQ hN λK hK=>?_;simp;refine hK _ (Qe (QT rfl (bo_f λhs=>?_)));clear hK K;exact bo_not h hs.1
 have hs:c.Sh:=bo_yes h;refine Q8 (srQ hN λK hK=>?_);simp;refine Q3 (c64 u c hs) (.cons (.aggL Cat.pur) .nil) ?_;simp[unk,unA,unE,unT,flat,four];refine hK _ ?_;clear hK K;refine srQ hN λK hK=>?_;simp;refine hK _ (Qe (QT rfl (beq_bo ?_)));clear hK K;exact⟨λq=>⟨hs,fault_zero.1 q⟩,λq=>fault_zero.2 q.2⟩
theorem c60(u:Bool)(c:Cat)(tl:List AV):Contract Try.prog 53 [.rptr (c.cells u++tl)] (.val (.bool (bo c.Is))):=by
 refine Qu (rs:=[.val (.bool (bo c.Is))]) Try.func53 rfl rfl rfl rfl (by simp[Try.f53]) λF hN hP=>?_;refine srQ hN λK hK=>?_;simp;refine hK _ ?_;clear hK K;refine Q0 (srQ hN λK hK=>?_);simp;refine Q3 (c65 u c tl) (.cons .rptr .nil) ?_;simp[unk,unA,unE,flat];refine hK _ ?_;clear hK K;refine Q7 rfl (λh=>?_) λh=>?_
 ·refine srQ hN λK hK=>?_;simp;refine hK _ (Qe (QT rfl (bo_f λhs=>?_)));clear hK K;exact bo_not h hs.1
 have hs:c.Sh:=bo_yes h;refine Q8 (srQ hN λK hK=>?_);simp;refine Q3 (c66 u c tl hs) (.cons .rptr .nil) ?_;simp[unk,unA,unE,unT,flat,four];refine hK _ ?_;clear hK K;refine srQ hN λK hK=>?_;simp;refine hK _ (Qe (QT rfl (beq_bo ?_)));clear hK K;exact⟨λq=>⟨hs,fault_zero.1 q⟩,λq=>fault_zero.2 q.2⟩
def SF.actOk(f:SF)(a:Nat):Prop:=((rx f.ac a).length:Int)=ix f.sz (ix f.s.fr a)∧∀x∈rx f.ac a,inR (ix f.sz (ix f.s.to a)) x=true
structure SF.Sh(f:SF):Prop where
 cat:f.s.Is
 ls:(f.sz.length:Int)=f.s.n
 la:f.ac.length=f.s.fr.length
 sz:∀x∈f.sz,inR 17 x=true
 act:∀a:Nat,a<f.ac.length→f.actOk a
def SF.un(f:SF)(x e:Nat):Prop:=ix (rx f.ac (ix f.s.id x)) e=e
def SF.as(f:SF)(a b e:Nat):Prop:=ix f.s.to a=ix f.s.fr b→ix (rx f.ac (ix (rx f.s.cs a) b)) e=ix (rx f.ac b) (ix (rx f.ac a) e)
def SF.lu(f:SF)(x:Nat):Nat:=(rx f.ac (ix f.s.id x)).length
def SF.la(f:SF)(a:Nat):Nat:=(rx f.ac a).length
def SF.Law(f:SF):Prop:=(∀x,x<f.s.id.length→∀e,e<f.lu x→f.un x e)∧∀a,a<f.s.fr.length→∀b,b<f.s.fr.length→∀e,e<f.la a→f.as a b e
section
variable {f:SF}
end
def SF.Is(f:SF):Prop:=f.Sh∧f.Law
end
section
attribute [local simp] Qi QP Qv Q1l QN
structure SM where
 s:SF
 t:SF
 p:List (List Int)
end
section
attribute [local simp] Qi QP Qv Q1l QN
def SF.part(f g:SF)(p:List (List Int))(x:Nat):Prop:=((rx p x).length:Int)=ix f.sz x∧∀y∈rx p x,inR (ix g.sz x) y=true
structure SM.Sh(m:SM):Prop where
 hs:m.s.Is
 ht:m.t.Is
 eq:m.s.s=m.t.s
 lp:m.p.length=m.s.sz.length
 pt:∀x:Nat,x<m.p.length→m.s.part m.t m.p x
def SM.nat(m:SM)(a e:Nat):Prop:=ix (rx m.p (ix m.s.s.to a)) (ix (rx m.s.ac a) e)=ix (rx m.t.ac a) (ix (rx m.p (ix m.s.s.fr a)) e)
def SM.Law(m:SM):Prop:=∀a,a<m.s.s.fr.length→∀e,e<m.s.la a→m.nat a e
def SM.Is(m:SM):Prop:=m.Sh∧m.Law
section
variable {m:SM}
end
end
section
attribute [local simp] Qi QP Qv Q1l QN
theorem Cat.Sh.size2{c:Cat}(hs:c.Sh):c.ok∧c.size≤2000:=by
 have h0:=hs.n8;have h1:=hs.li;have h2:=hs.m40;have hr:∀xs∈c.cs,xs.length≤40:=by
  intro xs hx;obtain⟨i,hi,rfl⟩:=yQ hx;rw[Q3h _ _ hi,hs.row' (by omega) (by have:=hs.lc;omega)];exact h2
 have hb:∀{l:List (List Int)},(∀xs∈l,xs.length≤40)→sumL l≤l.length*40:=by
  intro l
  induction l with
  |nil=>intro _;simp[sumL]
  |cons x r ih=>
   intro h;have h1:=ih λxs hx=>h xs (List.mem_cons_of_mem _ hx);have h2:=h x (by simp);simp only[sumL,List.map_cons,List.sum_cons,List.length_cons]at h1⊢;rw[Nat.add_mul];omega
 have h3:=hb hr;have h4:=hs.lc;have h5:=hs.lt;have:c.cs.length*40≤40*40:=Nat.mul_le_mul_right _ (by omega);refine⟨⟨by omega,by omega,by omega,by omega,λxs hx=>by have:=hr xs hx;omega,by omega⟩,?_⟩;simp only[Cat.size];omega
end
section
attribute [local simp] Qi QP Qv Q1l QN
def bsF(f:List Int)(n:Nat):Nat→List Bool
 |0=>List.replicate n false
 |i+1=>(bsF f n i).set (ix f i).toNat true
def mkF(bs:List Bool)(i:Nat):List Int:=((List.range i).filter λk=>bs.getD k false).map λk:Nat=>(k:Int)
def imgL(n:Nat)(f:List Int):List Int:=mkF (bsF f n f.length) n
def SM.I1(m:SM):Prop:=∀x:Nat,x<m.p.length→(imgL (ix m.t.sz x).toNat (rx m.p x)).length=(rx m.p x).length
def Bs(bs:List Bool):List (List AV):=bs.map λb=>[.val (.bool b)]
end
section
attribute [local simp] Qi QP Qv Q1l QN
def Es{α:Type}(c:α→List AV)(xs:List α):List (List AV):=xs.map c
def gx{α:Type}[Inhabited α](xs:List α)(j:Int):α:=xs.getD j.toNat default
def eB(b:Bool):List AV:=[.val (.bool b)]
def eI(b:Int):List AV:=[iV b]
def eL(x:List (List Int)):List AV:=[.lst true 1 (Ls x)]
section
variable {α:Type}{c:α→List AV}
@[simp] theorem Es_length(xs:List α):(Es c xs).length=xs.length:=by simp[Es]
@[simp] theorem Es_nil:Es c []=[]:=rfl
theorem Es_append(xs ys:List α):Es c (xs++ys)=Es c xs++Es c ys:=by simp[Es]
theorem Es_set'(xs:List α)(i:Nat)(x:α):Es c (xs.set i x)=(Es c xs).set i (c x):=by simp[Es,List.map_set]
theorem at_E[Inhabited α]{xs:List α}{j:Int}(h:0≤j∧j<(xs.length:Int)):(Es c xs)[j.toNat]? =some (c (gx xs j)):=by
 have h2:j.toNat<xs.length:=by omega
 simp[Es,gx,qB,h2]
end
@[simp] theorem RoV_val{v:Value}:RoV (.val v):=.val
@[simp] theorem RoV_rptr{cs:List AV}:RoV (.rptr cs)↔∀c∈cs,RoV c:=⟨λh=>by cases h;assumption,.rptr⟩
@[simp] theorem RoV_Is{u:Bool}{sz:Nat}{xs:List Int}:RoV (.lst u sz (Is xs)):=.lst λr hr c hc=>by
 simp only[Is,List.mem_map]at hr;obtain⟨x,_,rfl⟩:=hr;rw[List.mem_singleton.1 hc];exact .val
@[simp] theorem RoV_Ls{u:Bool}{sz:Nat}{xs:List (List Int)}:RoV (.lst u sz (Ls xs)):=.lst λr hr c hc=>by
 simp only[Ls,List.mem_map]at hr;obtain⟨x,_,rfl⟩:=hr;rw[List.mem_singleton.1 hc];exact RoV_Is
@[simp] theorem Cs_E(xs:List Cat):Cs xs=Es (Cat.cells true) xs:=rfl
@[simp] theorem Fs_E(xs:List Fn):Fs xs=Es (Fn.cells true) xs:=rfl
@[simp] theorem Ls_nil':Ls []=[]:=rfl
theorem Ls_append(xs ys:List (List Int)):Ls (xs++ys)=Ls xs++Ls ys:=by simp[Ls]
theorem at_I{xs:List Int}{j:Int}(h:0≤j∧j<(xs.length:Int)):(Is xs)[j.toNat]? =some [iV (ix xs j)]:=by
 have h2:j.toNat<xs.length:=by omega
 simp[Is,ix,qB,h2]
theorem at_U{xs:List Int}{j:Int}(h:0≤j∧j<(xs.length:Int)):(Us xs)[j.toNat]? =some [.val (.int .u8 (ix xs j))]:=by
 have h2:j.toNat<xs.length:=by omega
 simp[Us,ix,qB,h2]
theorem at_L{xs:List (List Int)}{j:Int}(h:0≤j∧j<(xs.length:Int)):(Ls xs)[j.toNat]? =some [lI (rx xs j)]:=by
 have h2:j.toNat<xs.length:=by omega
 simp[Ls,rx,qB,h2]
@[simp] theorem Is_takeE(xs:List Int)(k:Nat):List.take k (Is xs)=Is (xs.take k):=by simp[Is,List.map_take]
@[simp] theorem Ls_takeA(xs:List (List Int)):List.take xs.length (Ls xs)=Ls xs:=List.take_of_length_le (by simp)
@[simp] theorem u64_min:IntKind.u64.min=0:=rfl
@[simp] theorem u64_max:IntKind.u64.max=18446744073709551615:=rfl
@[simp] theorem u8_min:IntKind.u8.min=0:=rfl
@[simp] theorem u8_max:IntKind.u8.max=255:=rfl
@[simp] theorem Bs_nil':Bs []=[]:=rfl
theorem Bs_append(xs ys:List Bool):Bs (xs++ys)=Bs xs++Bs ys:=by simp[Bs]
theorem IA(xs ys:List Int):Is (xs++ys)=Is xs++Is ys:=Is_append xs ys
theorem I1(x:Int)(xs:List Int):Is (x::xs)=[iV x]::Is xs:=rfl
theorem LA(xs ys:List (List Int)):Ls (xs++ys)=Ls xs++Ls ys:=Ls_append xs ys
theorem L1(x:List Int)(xs:List (List Int)):Ls (x::xs)=[lI x]::Ls xs:=rfl
theorem BA(xs ys:List Bool):Bs (xs++ys)=Bs xs++Bs ys:=Bs_append xs ys
theorem B1(x:Bool)(xs:List Bool):Bs (x::xs)=[.val (.bool x)]::Bs xs:=rfl
theorem EA{α:Type}{c:α→List AV}(xs ys:List α):Es c (xs++ys)=Es c xs++Es c ys:=Es_append xs ys
theorem E1{α:Type}{c:α→List AV}(x:α)(xs:List α):Es c (x::xs)=c x::Es c xs:=rfl
theorem E2{α:Type}{c:α→List AV}(xs:List α)(i:Nat)(x:α):Es c (xs.set i x)=(Es c xs).set i (c x):=Es_set' xs i x
theorem rlLL_c{α:Type}{m:List (Nat×Nat)}{c:α→List AV}(h:∀x,rlL m (c x)=c x):∀xs:List α,rlLL m (xs.map c)=xs.map c:=by
 intro xs
 induction xs with
 |nil=>rfl
 |cons a r ih=>simp only[List.map_cons,rlLL,h,ih]
@[simp] theorem rlLL_Es{α:Type}(m:List (Nat×Nat))(c:α→List AV)(xs:List α)(h:∀x,rlL m (c x)=c x):rlLL m (Es c xs)=Es c xs:=rlLL_c h xs
end
section
attribute [local simp] Qi QP Qv Q1l QN
def QS(x:Cat):List AV:=[.rptr (x.cells true)]
def Q2i(x:Fn):List AV:=[.rptr (x.cells true)]
instance:Inhabited Cat:=⟨⟨0,[],[],[],[]⟩⟩
instance:Inhabited Fn:=⟨⟨default,default,[],[]⟩⟩
structure Adj where
 l:Fn
 r:Fn
 u:List Int
 k:List Int
def Adj.cells(u:Bool)(f:Adj):List AV:=[iV f.l.s.n,.lst u 1 (Is f.l.s.fr),.lst u 1 (Is f.l.s.to),.lst u 1 (Is f.l.s.id),.lst u 1 (Ls f.l.s.cs),iV f.l.t.n,.lst u 1 (Is f.l.t.fr),.lst u 1 (Is f.l.t.to),.lst u 1 (Is f.l.t.id),.lst u 1 (Ls f.l.t.cs),.lst u 1 (Is f.l.ob),.lst u 1 (Is f.l.ar),iV f.r.s.n,.lst u 1 (Is f.r.s.fr),.lst u 1 (Is f.r.s.to),.lst u 1 (Is f.r.s.id),.lst u 1 (Ls f.r.s.cs),iV f.r.t.n,.lst u 1 (Is f.r.t.fr),.lst u 1 (Is f.r.t.to),.lst u 1 (Is f.r.t.id),.lst u 1 (Ls f.r.t.cs),.lst u 1 (Is f.r.ob),.lst u 1 (Is f.r.ar),.lst u 1 (Is f.u),.lst u 1 (Is f.k)]
instance:Inhabited Adj:=⟨⟨default,default,default,default⟩⟩
def Q5M(x:Adj):List AV:=[.rptr (x.cells true)]
structure Ends where
 a:Int
 b:Int
def Ends.cells(u:Bool)(f:Ends):List AV:=[iV f.a,iV f.b]
instance:Inhabited Ends:=⟨⟨default,default⟩⟩
def eP_Ends(x:Ends):List AV:=[.rptr (x.cells true)]
structure XL01Source where
 code_:List Int
 at_:Int
 hash_:Int
def XL01Source.cells(u:Bool)(f:XL01Source):List AV:=[.lst u 1 (Us f.code_),iV f.at_,.val (.int .u64 f.hash_)]
instance:Inhabited XL01Source:=⟨⟨default,default,default⟩⟩
def Qf(x:XL01Source):List AV:=[.rptr (x.cells true)]
structure XL03Path where
 from_:Int
 to_:Int
 edges_:List Int
def XL03Path.cells(u:Bool)(f:XL03Path):List AV:=[iV f.from_,iV f.to_,.lst u 1 (Is f.edges_)]
structure XMonoidal where
 on_:Cat
 unit_:Int
 objects_:List (List Int)
 arrows_:List (List Int)
def XMonoidal.cells(u:Bool)(f:XMonoidal):List AV:=[iV f.on_.n,.lst u 1 (Is f.on_.fr),.lst u 1 (Is f.on_.to),.lst u 1 (Is f.on_.id),.lst u 1 (Ls f.on_.cs),iV f.unit_,.lst u 1 (Ls f.objects_),.lst u 1 (Ls f.arrows_)]
instance:Inhabited XMonoidal:=⟨⟨default,default,default,default⟩⟩
def Qr(x:XMonoidal):List AV:=[.rptr (x.cells true)]
set_option linter.defProp false in
def CN:=(And.intro @Cat.cells.eq_1 (And.intro @Fn.cells.eq_1 (And.intro @Adj.cells.eq_1 (And.intro @XL01Source.cells.eq_1 (And.intro @XMonoidal.cells.eq_1 @Ends.cells.eq_1)))))
set_option linter.defProp false in
def BN:=(And.intro @UA (And.intro @U1 (And.intro @IA (And.intro @I1 (And.intro @LA (And.intro @L1 (And.intro @BA (And.intro @B1 (And.intro @EA (And.intro @E1 (And.intro @E2 (And.intro (λ(b:Bool)=>(rfl:eB b=[.val (.bool b)])) (And.intro (λ(b:Int)=>(rfl:eI b=[iV b])) (And.intro (λ(b:List (List Int))=>(rfl:eL b=[.lst true 1 (Ls b)])) (And.intro @Cat.cells.eq_1 (And.intro @Fn.cells.eq_1 (And.intro @Adj.cells.eq_1 (And.intro @XL01Source.cells.eq_1 (And.intro @XMonoidal.cells.eq_1 (And.intro @Ends.cells.eq_1 (And.intro (λm xs=>rlLL_Es m Qf xs (λ_=>rfl)) (λm xs=>rlLL_Es m Qr xs (λ_=>rfl)))))))))))))))))))))))
theorem wkQ{F:Fx}{st st':St}(m:List (Nat×Nat))(h:(m.map qE).Nodup∧(m.map zT).Nodup∧(∀id,id<F.pins→look id m=some id)∧(∀p∈m,p.2<st'.n)∧(∀p∈st'.h,p.1<st'.n)∧(∀p∈st'.s,p.2=rl m (st.get p.1)∨p.2= .bot)∧∀p∈st'.h,hhOk m st.h p.1 p.2:=by simp[hP,hhOk,back,idQ,BN]):Wk F st st':=Wk.r1 m h
theorem wkI{F:Fx}{st st':St}(m:Nat)(h:((idQ m).map qE).Nodup∧((idQ m).map zT).Nodup∧(∀id,id<F.pins→look id (idQ m)=some id)∧(∀p∈(idQ m),p.2<st'.n)∧(∀p∈st'.h,p.1<st'.n)∧(∀p∈st'.s,p.2=rl (idQ m) (st.get p.1)∨p.2= .bot)∧∀p∈st'.h,hhOk (idQ m) st.h p.1 p.2:=by simp[hP,hhOk,back,idQ,BN]):Wk F st st':=Wk.r1 (idQ m) h
theorem wkP{F:Fx}{st st':St}{n:Nat}(m:List (Nat×Nat))(hP:F.pins=n)(hq:pinsB n m=true:=by rfl)(h:(m.map qE).Nodup∧(m.map zT).Nodup∧(∀p∈m,p.2<st'.n)∧(∀p∈st'.h,p.1<st'.n)∧(∀p∈st'.s,p.2=rl m (st.get p.1)∨p.2= .bot)∧∀p∈st'.h,hhOk m st.h p.1 p.2:=by simp[hhOk,back,idQ,BN]):Wk F st st':=Wk.rP n m hP hq h
theorem wkJ{F:Fx}{st st':St}{n:Nat}(m:Nat)(hP:F.pins=n)(hq:pinsB n (idQ m)=true:=by rfl)(h:((idQ m).map qE).Nodup∧((idQ m).map zT).Nodup∧(∀p∈(idQ m),p.2<st'.n)∧(∀p∈st'.h,p.1<st'.n)∧(∀p∈st'.s,p.2=rl (idQ m) (st.get p.1)∨p.2= .bot)∧∀p∈st'.h,hhOk (idQ m) st.h p.1 p.2:=by simp[hhOk,back,idQ,BN]):Wk F st st':=Wk.rP n (idQ m) hP hq h
set_option linter.defProp false in
def RN:=And.intro @List.range.eq_1 (And.intro @List.range.loop.eq_1 @List.range.loop.eq_2)
theorem frQ{P:Program}{f:Nat}{as0 az:List AV}{H0 H:List (Nat×Ent)}{n0:Nat}{e0 e:Eff}{n:Nat}(hc:ICon P f as0 (λid=>look id H0) n0 e0)(m:List (Nat×Nat))(h1:m.map qE=List.range n0:=by rfl)(h2:(m.map zT).Nodup∧(∀p∈m,p.2<n)∧(∀p∈H0,p.1<n0):=by simp)(h3:∀p∈m,(look p.1 H0).isSome=true∧(look p.2 H).bind (rlE (back m))=look p.1 H0∧(look p.1 H0).bind (rlE (mxt m n0 n e0.cnt))=look p.2 H:=by simp[rl,rlL,rlLL,rlE,rlE',back,mxt,look,trm,RN,Qt,CN])(h4:as0=rlL (back m) az:=by simp[rl,rlL,rlLL,rlE,rlE',back,mxt,look,trm,RN,Qt,CN])(h5:∀p∈H,aliF m n H p=true:=by simp[aliF,back,look])(h6:e.cnt=e0.cnt:=by rfl)(h7:e.v=rl (mxt m n0 n e0.cnt) e0.v:=by simp[rl,rlL,rlLL,rlE,rlE',back,mxt,look,trm,RN,Qt,CN])(h8:e.set=e0.set.map λp=>(trm m p.1,rlE' (mxt m n0 n e0.cnt) p.2):=by simp[rl,rlL,rlLL,rlE,rlE',back,mxt,look,trm,RN,Qt,CN])(h9:e.del=e0.del.map (trm m):=by simp[rl,rlL,rlLL,rlE,rlE',back,mxt,look,trm,RN,Qt,CN])(hA:e.new=e0.new.map λp=>(n+(p.1 - n0),rlE' (mxt m n0 n e0.cnt) p.2):=by simp[rl,rlL,rlLL,rlE,rlE',back,mxt,look,trm,RN,Qt,CN])(hB:(∀p∈e0.set,Q54 p.2=true)∧∀p∈e0.new,Q54 p.2=true:=by simp[Q54])(hC:newB n0 e0.cnt (e0.new.map qE)=true:=by rfl)(hD:e.fine n:=by exact Q5r (by simp)):ICon P f az (λid=>look id H) n e:=ICon.frameL hc m h1 h2 h3 h4 h5 h6 h7 h8 h9 hA hB hC hD
theorem nlQ{F:Fx}{st st':St}(news:List (Nat×Nat))(hn:∀p∈news,st.n≤p.1∧p.1<st'.n:=by simp)(hle:st.n≤st'.n:=by simp)(hs:∀p∈st'.s,nlA news (st.get p.1) p.2∨p.2= .bot:=by simp[nlA])(hh:∀p∈st'.h,(∃q∈news,p=(q.1,.row q.2 []))∨∃e,look p.1 st.h=some e∧entN news e p.2:=by simp[entN,nlL,nlA,BN])(hnd:(news.map qE).Nodup:=by simp):Wk F st st':=Wk.nils news hn hle hs hh hnd
theorem rxQ{F:Fx}{AQ:Exit→St→Prop}{st:St}{id:Nat}{ops:Array Oper}{d:Bool}{n:Nat}(hN:F.N=n)(h:∀K:St→Prop,(∀st',AQ .normal st'→K st')→runX Try.prog false [] ops ops.toList st K)(hok:(okN n ops&&(!d||(Q4N false ops&&Q2b ops)))=true:=by decide):Wp Try.prog F (.region id ops d) AQ st:=w_runX [] mo (by rw[hN];exact hok) h
theorem rxF{F:Fx}{AQ:Exit→St→Prop}{st:St}{id:Nat}{ops:Array Oper}{d:Bool}{n:Nat}(fz:List Nat)(hN:F.N=n)(h:∀K:St→Prop,(∀st',AQ .normal st'→K st')→runX Try.prog false fz ops ops.toList st K)(hok:(okN n ops&&(!d||(Q4N false ops&&Q2b ops)))=true:=by decide):Wp Try.prog F (.region id ops d) AQ st:=w_runX fz mo (by rw[hN];exact hok) h
end
section
attribute [local simp] Qi QP Qv Q1l QN
@[simp] theorem ef_22:elm Try.prog 22=some 5:=by kernel_rfl
@[simp] theorem ef_157:elm Try.prog 157=some 66:=by kernel_rfl
@[simp] theorem qf_4:eqT Try.prog 4=1:=by kernel_rfl
@[simp] theorem ff_27_0:fld Try.prog 27 0=some (0,1,false):=by kernel_rfl
@[simp] theorem ff_27_1:fld Try.prog 27 1=some (1,1,false):=by kernel_rfl
@[simp] theorem ff_27_2:fld Try.prog 27 2=some (2,1,false):=by kernel_rfl
@[simp] theorem ff_27_3:fld Try.prog 27 3=some (3,1,false):=by kernel_rfl
@[simp] theorem ff_27_4:fld Try.prog 27 4=some (4,1,false):=by kernel_rfl
@[simp] theorem ff_38_0:fld Try.prog 38 0=some (0,5,true):=by kernel_rfl
@[simp] theorem ff_38_1:fld Try.prog 38 1=some (5,5,true):=by kernel_rfl
@[simp] theorem ff_38_2:fld Try.prog 38 2=some (10,1,false):=by kernel_rfl
@[simp] theorem ff_38_3:fld Try.prog 38 3=some (11,1,false):=by kernel_rfl
@[simp] theorem ff_48_0:fld Try.prog 48 0=some (0,5,true):=by kernel_rfl
@[simp] theorem ff_48_1:fld Try.prog 48 1=some (5,1,false):=by kernel_rfl
@[simp] theorem ff_48_2:fld Try.prog 48 2=some (6,1,false):=by kernel_rfl
@[simp] theorem ff_48_3:fld Try.prog 48 3=some (7,1,false):=by kernel_rfl
@[simp] theorem ff_57_0:fld Try.prog 57 0=some (0,12,true):=by kernel_rfl
@[simp] theorem ff_57_1:fld Try.prog 57 1=some (12,12,true):=by kernel_rfl
@[simp] theorem ff_57_2:fld Try.prog 57 2=some (24,1,false):=by kernel_rfl
@[simp] theorem ff_57_3:fld Try.prog 57 3=some (25,1,false):=by kernel_rfl
@[simp] theorem ff_146_0:fld Try.prog 146 0=some (0,1,false):=by kernel_rfl
@[simp] theorem ff_146_1:fld Try.prog 146 1=some (1,1,false):=by kernel_rfl
@[simp] theorem ff_146_2:fld Try.prog 146 2=some (2,1,false):=by kernel_rfl
@[simp] theorem ff_177_0:fld Try.prog 177 0=some (0,1,false):=by kernel_rfl
@[simp] theorem ff_177_1:fld Try.prog 177 1=some (1,1,false):=by kernel_rfl
@[simp] theorem ff_177_2:fld Try.prog 177 2=some (2,1,false):=by kernel_rfl
@[simp] theorem kf_2:intk Try.prog 2=some .i64:=by kernel_rfl
@[simp] theorem kf_3:intk Try.prog 3=some .i64:=by kernel_rfl
@[simp] theorem kf_5:intk Try.prog 5=some .u8:=by kernel_rfl
@[simp] theorem kf_144:intk Try.prog 144=some .u64:=by kernel_rfl
@[simp] theorem mf_158:mty Try.prog 158=some ((.int .i64),.bool false):=by kernel_rfl
@[simp] theorem pf_38:Q42 Try.prog 38=some [(0,5),(5,5),(10,1),(11,1)]:=by kernel_rfl
@[simp] theorem pf_48:Q42 Try.prog 48=some [(0,5),(5,1),(6,1),(7,1)]:=by kernel_rfl
@[simp] theorem pf_57:Q42 Try.prog 57=some [(0,12),(12,12),(24,1),(25,1)]:=by kernel_rfl
@[simp] theorem pf_146:Q42 Try.prog 146=some [(0,1),(1,1),(2,1)]:=by kernel_rfl
@[simp] theorem tf_3:tyi Try.prog 3=some ⟨false,1,8,[.int .i64 0]⟩:=by kernel_rfl
@[simp] theorem tf_5:tyi Try.prog 5=some ⟨false,1,1,[.int .u8 0]⟩:=by kernel_rfl
@[simp] theorem tf_22:tyi Try.prog 22=some ⟨false,1,24,[.slice none 0 0]⟩:=by kernel_rfl
@[simp] theorem tf_27:tyi Try.prog 27=some ⟨true,5,104,[.int .i64 0,.slice none 0 0,.slice none 0 0,.slice none 0 0,.slice none 0 0]⟩:=by kernel_rfl
@[simp] theorem Q6l:tyi Try.prog 38=some ⟨true,12,256,[.int .i64 0,.slice none 0 0,.slice none 0 0,.slice none 0 0,.slice none 0 0,.int .i64 0,.slice none 0 0,.slice none 0 0,.slice none 0 0,.slice none 0 0,.slice none 0 0,.slice none 0 0]⟩:=by kernel_rfl
@[simp] theorem Q3x:tyi Try.prog 48=some ⟨true,8,160,[.int .i64 0,.slice none 0 0,.slice none 0 0,.slice none 0 0,.slice none 0 0,.int .i64 0,.slice none 0 0,.slice none 0 0]⟩:=by kernel_rfl
@[simp] theorem Q69:tyi Try.prog 57=some ⟨true,26,560,[.int .i64 0,.slice none 0 0,.slice none 0 0,.slice none 0 0,.slice none 0 0,.int .i64 0,.slice none 0 0,.slice none 0 0,.slice none 0 0,.slice none 0 0,.slice none 0 0,.slice none 0 0,.int .i64 0,.slice none 0 0,.slice none 0 0,.slice none 0 0,.slice none 0 0,.int .i64 0,.slice none 0 0,.slice none 0 0,.slice none 0 0,.slice none 0 0,.slice none 0 0,.slice none 0 0,.slice none 0 0,.slice none 0 0]⟩:=by kernel_rfl
@[simp] theorem tf_66:tyi Try.prog 66=some ⟨false,1,8,[.pointer none]⟩:=by kernel_rfl
@[simp] theorem tf_144:tyi Try.prog 144=some ⟨false,1,8,[.int .u64 0]⟩:=by kernel_rfl
@[simp] theorem tf_146:tyi Try.prog 146=some ⟨true,3,40,[.slice none 0 0,.int .i64 0,.int .u64 0]⟩:=by kernel_rfl
end
section
attribute [local simp] Qi QP Qv Q1l QN
def Q3N(x:Int)(a:Int)(b:Int):Option (Bool):=
 some ((decide (a≤x)&&decide (x≤b)))
theorem Q8L(x:Int)(a:Int)(b:Int)(r:Bool)(h:Q3N x a b=some r):Contract Try.prog 108 [iV x,iV a,iV b] (.val (.bool r)):=by
 unfold Q3N at h;cases h;exact c46 x a b
def Q1v(xs:List Int)(n:Int):Option (Bool):=
 ass (B64 (n - 1))<|some ((xs.all (inR n)))
theorem Q4k(xs:List Int)(n:Int)(r:Bool)(h:Q1v xs n=some r):Contract Try.prog 84 [lI xs,iV n] (.val (.bool r)):=by
 unfold Q1v at h;replace⟨hn,h⟩:=Q1 h;cases h;exact c22 true xs n hn
def Q1i(n:Int)(xs:List Int):Option (Bool):=
 some ((xs.all (inR n)))
theorem Q4l(n:Int)(xs:List Int)(r:Bool)(h:Q1i n xs=some r):Contract Try.prog 83 [iV n,lI xs] (.val (.bool r)):=by
 unfold Q1i at h;cases h;exact c57 true xs n
def Q3t(xs:List Int):Option (List Int):=
 ass (xs.length≤1048576)<|some (xs)
theorem Q6L(xs:List Int)(r:List Int)(h:Q3t xs=some r):Contract Try.prog 96 [lI xs] (lI r):=by
 unfold Q3t at h;replace⟨hx,h⟩:=Q1 h;cases h;exact c58 true xs hx
def Q2J(xs:List Int):Option (List Int):=
 ass (xs.length≤1048576)<|some (xs)
theorem Q4T(xs:List Int)(r:List Int)(h:Q2J xs=some r):Contract Try.prog 92 [lI xs] (lI r):=by
 unfold Q2J at h;replace⟨hx,h⟩:=Q1 h;cases h;exact c47 true xs hx
def Q1z(xs:List (List Int)):Option (List (List Int)):=
 ass (xs.length≤1048576)<|ass (∀x∈xs,x.length≤1048576)<|some (xs)
@[simp] abbrev Y0W(a:List (List Int))(b:List (AV)):List (AV):=.lst true 1 (Ls a)::b
theorem Q37(xs:List (List Int))(r:List (List Int))(h:Q1z xs=some r):Contract Try.prog 137 (Y0W xs []) (.lst true 1 (Ls r)):=by
 unfold Q1z at h;replace⟨hx,h⟩:=Q1 h;replace⟨hx',h⟩:=Q1 h;cases h;exact c59 true xs hx hx'
def Qz(c:Cat):Option (Int):=
 some (c.fr.length)
theorem Q28(c:Cat)(r:Int)(h:Qz c=some r):Contract Try.prog 85 [.rptr (c.cells true)] (iV r):=by
 unfold Qz at h;cases h;have q:=c61 true c [];simp only[yR]at q;exact q
def Q3u(c:Cat):Option (Cat):=
 ass (c.ok)<|some (c)
theorem Q6M(c:Cat)(r:Cat)(h:Q3u c=some r):Contract Try.prog 95 [.agg (c.cells true)] (.agg (r.cells true)):=by
 unfold Q3u at h;replace⟨hc,h⟩:=Q1 h;cases h;exact c41 true c hc
def Q1t(c:Cat):Option (Cat):=
 ass (c.ok)<|some (c)
theorem Q3z(c:Cat)(r:Cat)(h:Q1t c=some r):Contract Try.prog 91 [.rptr (c.cells true)] (.agg (r.cells true)):=by
 unfold Q1t at h;replace⟨hc,h⟩:=Q1 h;cases h;have q:=c23 true c [] hc;simp only[yR]at q;exact q
def Qq(c:Cat)(f:Int)(g:Int):Option (Int):=
 ass (0≤f)<|ass (f<c.cs.length)<|ass (0≤g)<|ass (g<(rx c.cs f).length)<|some ((ix (rx c.cs f) g))
theorem Q12(c:Cat)(f:Int)(g:Int)(r:Int)(h:Qq c f g=some r):Contract Try.prog 87 [.rptr (c.cells true),iV f,iV g] (iV r):=by
 unfold Qq at h;replace⟨h1,h⟩:=Q1 h;replace⟨h2,h⟩:=Q1 h;replace⟨h3,h⟩:=Q1 h;replace⟨h4,h⟩:=Q1 h;cases h;have q:=c69 true c [] f g h1 h2 h3 h4;simp only[yR]at q;exact q
def Q1w(c:Cat):Option (Bool):=
 some ((bo c.Is))
theorem Q6e(c:Cat)(r:Bool)(h:Q1w c=some r):Contract Try.prog 82 [.agg (c.cells true)] (.val (.bool r)):=by
 unfold Q1w at h;cases h;exact c55 true c
def QE(c:Cat):Option (Bool):=
 some ((bo c.Is))
theorem Q2r(c:Cat)(r:Bool)(h:QE c=some r):Contract Try.prog 53 [.rptr (c.cells true)] (.val (.bool r)):=by
 unfold QE at h;cases h;have q:=c60 true c [];simp only[yR]at q;exact q
def Q1T(c_:Cat)(f_:Int):Option Ends:=
 ass (0≤f_∧f_<c_.fr.length∧f_<c_.to.length)<|some ⟨ix c_.fr f_,ix c_.to f_⟩
theorem Q59(c_:Cat)(f_:Int)(r:Ends)(h:Q1T c_ f_=some r):Contract Try.prog 97 [.rptr (c_.cells true),iV f_] (.agg (r.cells true)):=by
 unfold Q1T at h;replace h:=Q1 h;obtain⟨⟨h1,h2,h3⟩,h⟩:=h;cases h;have q:=c68 true c_ [] f_ h1 h2 h3;simp only[yR]at q;exact q
end
section
attribute [local simp] Qi QP Qv Q1l QN
@[simp] theorem ass_true{α:Type}{k:Option α}:ass True k=k:=Q4 trivial
theorem bo_tt(p:Prop):(bo p=true)=p:=by simp[bo]
theorem Qk{p:Prop}(h:p):bo p=true:=by simp[bo,h]
theorem Qd{p:Prop}(h:¬p):bo p=false:=by simp[bo,h]
theorem bo_iff2{p q:Prop}(h:p↔q):bo p=bo q:=by simp[bo,h]
theorem loop_go{σ ε:Type}{body:σ→Option (Ctl σ ε)}(g:Nat→σ)(m:Nat):∀(k:Nat),m≤k→(∀i,i<m→body (g i)=some (.next (g (i+1))))→Qo body k (g 0)=Qo body (k - m) (g m):=by
 induction m with
 |zero=>intro k _ _;rfl
 |succ m ih=>
  intro k hk h;rw[ih k (by omega) λi hi=>h i (by omega)];obtain⟨j,hj⟩:∃j,k - m=j+1:=⟨k - m - 1,by omega⟩;rw[hj,show k - (m+1)=j by omega];simp only[Qo,h m (by omega)]
theorem Q3J{σ ε:Type}{body:σ→Option (Ctl σ ε)}(g:Nat→σ)(n:Nat){e:ε}{s0:σ}(h0:s0=g 0)(hn:n<4611686018427387904)(h:∀i,i<n→body (g i)=some (.next (g (i+1))))(he:body (g n)=some (.ret e)):Qo body fuel s0=some e:=by
 subst h0;rw[loop_go g n fuel (by unfold fuel;omega) h];obtain⟨j,hj⟩:∃j,fuel - n=j+1:=⟨fuel - n - 1,by unfold fuel;omega⟩;rw[hj];simp only[Qo,he]
theorem Q9a{ε:Type}{body:Int→Option (Ctl Int ε)}(n:Nat)(p:Nat→Prop){eb eg:ε}(hn:n<4611686018427387904)(h1:∀i:Nat,i<n→p i→body (i:Int)=some (.next ((i:Int)+1)))(h2:∀i:Nat,i<n→¬p i→body (i:Int)=some (.ret eb))(h3:body (n:Int)=some (.ret eg)):
  Qo body fuel 0=some (@ite _ (∀i:Nat,i<n→p i) (Classical.propDecidable _) eg eb):=by
 by_cases hall:∀i:Nat,i<n→p i
 ·rw[if_pos hall];exact Q3J (λi:Nat=>(i:Int)) n rfl hn (λi hi=>h1 i hi (hall i hi)) h3
 rw[if_neg hall];have hex:∃i,i<n∧¬p i:=yP λhx=>hall λi hi=>yP λhp=>hx ⟨i,hi,hp⟩;obtain⟨m,⟨hm,hp⟩,hmin⟩:∃m,(m<n∧¬p m)∧∀k,k<m→¬(k<n∧¬p k):=by
  obtain⟨i,hi⟩:=hex
  induction i using Nat.strongRecOn with
  |_ i ih=>
   by_cases h:∃k,k<i∧k<n∧¬p k
   ·obtain⟨k,h1,h2⟩:=h;exact ih k h1 h2
   exact⟨i,hi,λk hk hh=>h ⟨k,hk,hh⟩⟩
 exact Q3J (λi:Nat=>(i:Int)) m rfl (by omega) (λi hi=>h1 i (by omega) (yP λhh=>hmin i hi ⟨by omega,hh⟩)) (h2 m hm hp)
theorem loop_fst{ε:Type}{body:Int→Option (Ctl Int ε)}(n:Nat)(p:Nat→Prop){eb:Nat→ε}{eg:ε}(hn:n<4611686018427387904)(h1:∀i:Nat,i<n→p i→body (i:Int)=some (.next ((i:Int)+1)))(h2:∀i:Nat,i<n→¬p i→body (i:Int)=some (.ret (eb i)))(h3:body (n:Int)=some (.ret eg)):
  ((∀i:Nat,i<n→p i)∧Qo body fuel 0=some eg)∨∃m,m<n∧¬p m∧(∀k,k<m→p k)∧Qo body fuel 0=some (eb m):=by
 by_cases hall:∀i:Nat,i<n→p i
 ·exact .inl ⟨hall,Q3J (λi:Nat=>(i:Int)) n rfl hn (λi hi=>h1 i hi (hall i hi)) h3⟩
 right;have hex:∃i,i<n∧¬p i:=yP λhx=>hall λi hi=>yP λhp=>hx ⟨i,hi,hp⟩;obtain⟨m,⟨hm,hp⟩,hmin⟩:∃m,(m<n∧¬p m)∧∀k,k<m→¬(k<n∧¬p k):=by
  obtain⟨i,hi⟩:=hex
  induction i using Nat.strongRecOn with
  |_ i ih=>
   by_cases h:∃k,k<i∧k<n∧¬p k
   ·obtain⟨k,h1,h2⟩:=h;exact ih k h1 h2
   exact⟨i,hi,λk hk hh=>h ⟨k,hk,hh⟩⟩
 have hlt:∀k,k<m→p k:=λk hk=>yP λhh=>hmin k hk ⟨by omega,hh⟩;exact⟨m,hm,hp,hlt,Q3J (λi:Nat=>(i:Int)) m rfl (by omega) (λi hi=>h1 i (by omega) (hlt i hi)) (h2 m hm hp)⟩
theorem Q99{α ε:Type}{body:α×Int→Option (Ctl (α×Int) ε)}(g:Nat→α)(n:Nat){e:ε}{a0:α}(h0:a0=g 0)(hn:n<4611686018427387904)(h:∀i:Nat,i<n→body (g i,(i:Int))=some (.next (g (i+1),(i:Int)+1)))(he:body (g n,(n:Int))=some (.ret e)):Qo body fuel (a0,0)=some e:=by
 subst h0;exact Q3J (λi:Nat=>(g i,(i:Int))) n rfl hn h he
theorem all_inR{xs:List Int}{n:Int}:xs.all (inR n)=true↔∀j:Nat,j<xs.length→0≤ix xs j∧ix xs j<n:=by
 rw[List.all_eq_true];constructor
 ·intro h j hj;have:=h _ (yC hj);rw[Q2e _ _ hj]at this;simp only[inR,qG,decide_eq_true_eq]at this;omega
 intro h x hx;obtain⟨i,hi,rfl⟩:=yQ hx;rw[Q2e _ _ hi];have:=h i hi;simp only[inR,qG,decide_eq_true_eq];omega
theorem Q2S{ε β:Type}{body:Int→Option (Ctl Int ε)}{K:ε→Option β}{r:β}(n:Nat)(p:Nat→Prop){eb eg:ε}(hn:n<4611686018427387904)(h1:∀i:Nat,i<n→p i→body (i:Int)=some (.next ((i:Int)+1)))(h2:∀i:Nat,i<n→¬p i→body (i:Int)=some (.ret eb))(h3:body (n:Int)=some (.ret eg))(hb:(¬∀i:Nat,i<n→p i)→K eb=some r)(hg:(∀i:Nat,i<n→p i)→K eg=some r):(Qo body fuel 0).bind K=some r:=by
 rw[Q9a n p hn h1 h2 h3]
 by_cases h:∀i:Nat,i<n→p i
 ·rw[if_pos h];exact hg h
 rw[if_neg h];exact hb h
theorem Q3D{α ε β:Type}{body:α×Int→Option (Ctl (α×Int) ε)}{K:ε→Option β}{r:Option β}{a0:α}(n:Nat)(g:Nat→α){e:ε}(h0:a0=g 0)(hn:n<4611686018427387904)(h:∀i:Nat,i<n→body (g i,(i:Int))=some (.next (g (i+1),(i:Int)+1)))(he:body (g n,(n:Int))=some (.ret e))(hk:K e=r):(Qo body fuel (a0,0)).bind K=r:=by
 rw[Q99 g n h0 hn h he];exact hk
end
attribute [local simp] unk unA unE unT unC flat eL eI Qc QS Q2i Cat.cells Fn.cells
def Q43(f_:Fn):Option Bool:=
 (
  (Q1w f_.s).bind λv2=>
  if¬(v2=true)then
   some true
  else
   (Q1w f_.t).bind λv4=>
   if¬(v4=true)then
    some true
   else
    if¬((f_.ob.length:Int)=f_.s.n)then
     some true
    else
     some ((f_.ar.length:Int)!=(f_.s.fr.length:Int)):Option (Bool)).bind λb1=>
 if b1=true then
  some false
 else
  (
   (Q1i f_.t.n f_.ob).bind λv9=>
   if¬(v9=true)then
    some true
   else
    (Q1i (f_.t.fr.length:Int) f_.ar).bind λv11=>
    some (!v11):Option (Bool)).bind λb8=>
  if b8=true then
   some false
  else
   (Qo (σ:=Int) (ε:=Unit⊕Bool) (λs27=>
    if s27<(f_.s.fr.length:Int)then
     (
      ass (0≤s27∧s27<(f_.ar.length:Int))<|
      ass (0≤ix f_.ar s27∧ix f_.ar s27<(f_.t.fr.length:Int))<|
      ass (0≤s27∧s27<(f_.s.fr.length:Int))<|
      ass (0≤ix f_.s.fr s27∧ix f_.s.fr s27<(f_.ob.length:Int))<|
      if¬((ix f_.t.fr (ix f_.ar s27))=(ix f_.ob (ix f_.s.fr s27)))then
       some true
      else
       ass (0≤s27∧s27<(f_.ar.length:Int))<|
       ass (0≤ix f_.ar s27∧ix f_.ar s27<(f_.t.to.length:Int))<|
       ass (0≤s27∧s27<(f_.s.to.length:Int))<|
       ass (0≤ix f_.s.to s27∧ix f_.s.to s27<(f_.ob.length:Int))<|
       some ((ix f_.t.to (ix f_.ar s27))!=(ix f_.ob (ix f_.s.to s27))):Option (Bool)).bind λb29=>
     if b29=true then
      some (yM (yL false))
     else
      ass (B64 (s27+1))<|
      some (yO (s27+1))
    else
     some (yM (yK ()))) fuel 0).bind λe13=>
   match e13 with
   | .inl b13=>
    (Qo (σ:=Int) (ε:=Unit⊕Bool) (λs49=>
     if s49<f_.s.n then
      ass (0≤s49∧s49<(f_.s.id.length:Int))<|
      ass (0≤ix f_.s.id s49∧ix f_.s.id s49<(f_.ar.length:Int))<|
      ass (0≤s49∧s49<(f_.ob.length:Int))<|
      ass (0≤ix f_.ob s49∧ix f_.ob s49<(f_.t.id.length:Int))<|
      if¬((ix f_.ar (ix f_.s.id s49))=(ix f_.t.id (ix f_.ob s49)))then
       some (yM (yL false))
      else
       ass (B64 (s49+1))<|
       some (yO (s49+1))
     else
      some (yM (yK ()))) fuel 0).bind λe41=>
    match e41 with
    | .inl b41=>
     (Qo (σ:=Int) (ε:=Unit⊕Bool) (λs90=>
      if s90<(f_.s.fr.length:Int)then
       (
        (Qo (σ:=Int) (ε:=Bool⊕Unit) (λs107=>
         if s107<(f_.s.fr.length:Int)then
          (
           ass (0≤s90∧s90<(f_.s.to.length:Int))<|
           ass (0≤s107∧s107<(f_.s.fr.length:Int))<|
           if(ix f_.s.to s90)=(ix f_.s.fr s107)then
            ass (0≤s90∧s90<(f_.s.cs.length:Int))<|
            ass (0≤s107∧s107<((rx f_.s.cs s90).length:Int))<|
            ass (0≤ix (rx f_.s.cs s90) s107∧ix (rx f_.s.cs s90) s107<(f_.ar.length:Int))<|
            ass (0≤s90∧s90<(f_.ar.length:Int))<|
            ass (0≤ix f_.ar s90∧ix f_.ar s90<(f_.t.cs.length:Int))<|
            ass (0≤s107∧s107<(f_.ar.length:Int))<|
            ass (0≤ix f_.ar s107∧ix f_.ar s107<((rx f_.t.cs (ix f_.ar s90)).length:Int))<|
            some ((ix f_.ar (ix (rx f_.s.cs s90) s107))!=(ix (rx f_.t.cs (ix f_.ar s90)) (ix f_.ar s107)))
           else
            some false:Option (Bool)).bind λb109=>
          if b109=true then
           some (yM (yK false))
          else
           ass (B64 (s107+1))<|
           some (yO (s107+1))
         else
          some (yM (yL ()))) fuel 0).bind λe107=>
        match e107 with
        | .inl p107=>
         some (yL p107)
        | .inr p107=>
         some (yK p107):Option (Unit⊕Bool)).bind λe92=>
       match e92 with
       | .inl b92=>
        ass (B64 (s90+1))<|
        some (yO (s90+1))
       | .inr p92=>
        some (yM (yL p92))
      else
       some (yM (yK ()))) fuel 0).bind λe57=>
     match e57 with
     | .inl b57=>
      some true
     | .inr p57=>
      some p57
    | .inr p41=>
     some p41
   | .inr p13=>
    some p13
@[simp] abbrev Yh(a:Fn)(b:List (Nat×Ent)):List (Nat×Ent):=(0,.mix 12 [(Fn.cells true a)])::(1,.mix 5 [(Cat.cells true a.s)])::(2,.mix 5 [(Cat.cells true a.t)])::b
@[simp] abbrev Yp(a:List (Nat×AV)):List (Nat×AV):=(1,.adr 0 0 0)::(3,.adr 1 0 0)::a
@[simp] abbrev Yw(a:Fn)(b:List (Nat×Ent)):List (Nat×Ent):=(0,.mix 12 [(Fn.cells true a)])::b
@[simp] abbrev YM(a:List (Nat×AV)):List (Nat×AV):=(2,.val (.bool false))::a
@[simp] abbrev Y0u(a:List (Nat×AV)):List (Nat×AV):=(2,.val (.bool true))::a
theorem w_s_l06Is(f_:Fn)(r:Bool)(h:Q43 f_=some r):Contract Try.prog 65 [.agg (f_.cells true)] (.val (.bool r)):=by
 refine Q6 (rvs:=[.tmp 2]) (rs:=[.val (.bool r)]) Try.func65 rfl rfl rfl rfl (by simp[Try.f65]) λF hN hP=>?_;unfold Q43 at h;refine Q0 (runQ hN λK hK=>?_);simp;repeat refine sdQ ?_
 refine hK _ ?_;clear hK K;refine tn (Q2 (st':=⟨YY [],Yw f_ [],1⟩) (wkQ [(0,0)]) (Q0 (w_runS mo (by rw[hN];decide) λK hK=>?_)));simp;repeat refine sdQ ?_
 refine hK _ (tn (Q2 (st':=⟨Yp [(4,.adr 2 0 0)],Yh f_ [],3⟩) (wkI 3) (Q0 (Q0 ?_))));clear hK K;replace⟨e1,h,h1⟩:=bind_some h;refine Q9 (λb1:Bool=>⟨Yp [(4,.adr 2 0 0),(37,.val (.bool b1))],Yh f_ [],3⟩) (λb1=>b1=e1) ?_ ?_
 ·refine runQ hN λK hK=>?_;simp;repeat with_reducible refine sdQ ?_
  replace⟨v2,hv2,h⟩:=bind_some h;refine Q3 (Q6e _ v2 hv2) (.cons (.aggL (.cons .val (.cons .lst (.cons .lst (.cons .lst (.cons .lst .nil)))))) .nil) ?_;simp;repeat with_reducible refine sdQ ?_
  refine Qa (λg=>?_) (λg=>?_)
  ·have g3:¬(¬(v2=true)):=gQ;clear g;replace h:=if_r g3 h;simp;(repeat with_reducible refine sdQ ?_);replace⟨v4,hv4,h⟩:=bind_some h;refine Q3 (Q6e _ v4 hv4) (.cons (.aggL (.cons .val (.cons .lst (.cons .lst (.cons .lst (.cons .lst .nil)))))) .nil) ?_;simp;(repeat with_reducible refine sdQ ?_);refine Qa (λg=>?_) (λg=>?_)
   ·have g5:¬(¬(v4=true)):=gQ;clear g;replace h:=if_r g5 h;simp;(repeat with_reducible refine sdQ ?_);refine Qa (λg=>?_) (λg=>?_)
    ·have g6:¬(¬((f_.ob.length:Int)=f_.s.n)):=gQ;clear g;replace h:=if_r g6 h;simp;(repeat refine sdQ ?_);refine hK _ ?_;exact jn (b:=(f_.ar.length:Int)!=(f_.s.fr.length:Int)) (yJ h) (wkI 3)
    have g6:¬((f_.ob.length:Int)=f_.s.n):=gQ;clear g;replace h:=if_l g6 h;simp;(repeat refine sdQ ?_);refine hK _ ?_;exact jn (b:=true) (yJ h) (wkI 3)
   have g5:¬(v4=true):=gQ;clear g;replace h:=if_l g5 h;simp;(repeat refine sdQ ?_);refine hK _ ?_;exact jn (b:=true) (yJ h) (wkI 3)
  have g3:¬(v2=true):=gQ;clear g;replace h:=if_l g3 h;simp;repeat refine sdQ ?_
  refine hK _ ?_;exact jn (b:=true) (yJ h) (wkI 3)
 intro b1 hb1;have h:=h1;try rw[←hb1]at h
 clear h1;try dsimp only at h
 refine Q7 rfl (λg=>?_) λg=>?_
 ·have g7:b1=true:=gQ;clear g;replace h:=if_l g7 h;refine Q0 (runQ hN λK hK=>?_);simp;repeat refine sdQ ?_
  refine hK _ (tn (Q2 (st':=⟨YM [],[],0⟩) (wkQ []) (Qe (tr ?_))));clear hK K;have hr:=yJ h;rw[←hr];refine⟨_,(.tmp .nil),?_⟩;refine⟨(.one rfl rfl .nil),[.val (.bool false)],[],by simp[BN],by simp,(yN _)⟩
 have g7:¬(b1=true):=gQ;clear g;replace h:=if_r g7 h;refine Q8 (tn (Q0 (Q0 ?_)));replace⟨e8,h,h8⟩:=bind_some h;refine Q9 (λb8:Bool=>⟨Yp [(4,.adr 2 0 0),(52,.val (.bool b8))],Yh f_ [],3⟩) (λb8=>b8=e8) ?_ ?_
 ·refine runQ hN λK hK=>?_;simp;repeat with_reducible refine sdQ ?_
  replace⟨v9,hv9,h⟩:=bind_some h;refine Q3 (Q4l _ _ v9 hv9) (.cons .val (.cons .lst .nil)) ?_;simp;repeat with_reducible refine sdQ ?_
  refine Qa (λg=>?_) (λg=>?_)
  ·have g10:¬(¬(v9=true)):=gQ;clear g;replace h:=if_r g10 h;simp;(repeat with_reducible refine sdQ ?_);replace⟨v11,hv11,h⟩:=bind_some h;refine Q3 (Q4l _ _ v11 hv11) (.cons .val (.cons .lst .nil)) ?_;simp;(repeat refine sdQ ?_);refine hK _ ?_;exact jn (b:=!v11) (yJ h) (wkI 3)
  have g10:¬(v9=true):=gQ;clear g;replace h:=if_l g10 h;simp;repeat refine sdQ ?_
  refine hK _ ?_;exact jn (b:=true) (yJ h) (wkI 3)
 intro b8 hb8;have h:=h8;try rw[←hb8]at h
 clear h8;try dsimp only at h
 refine Q7 rfl (λg=>?_) λg=>?_
 ·have g12:b8=true:=gQ;clear g;replace h:=if_l g12 h;refine Q0 (runQ hN λK hK=>?_);simp;repeat refine sdQ ?_
  refine hK _ (tn (Q2 (st':=⟨YM [],[],0⟩) (wkQ []) (Qe (tr ?_))));clear hK K;have hr:=yJ h;rw[←hr];refine⟨_,(.tmp .nil),?_⟩;refine⟨(.one rfl rfl .nil),[.val (.bool false)],[],by simp[BN],by simp,(yN _)⟩
 have g12:¬(b8=true):=gQ;clear g;replace h:=if_r g12 h;refine Q8 (tn (Q0 (Q0 (runQ hN λK hK=>?_))));simp;repeat refine sdQ ?_
 refine hK _ (tn (Q2 (st':=⟨Yp [(4,.adr 2 0 0),(5,iV 0)],Yh f_ [],3⟩) (wkI 3) ?_));clear hK K;replace⟨e13,h,h13⟩:=bind_some h;refine Q9 (λb13:Unit=>⟨Yp [(4,.adr 2 0 0)],Yh f_ [],3⟩) (λb13=>yK b13=e13) ?_ ?_
 ·refine Q5 (Qj h (λs27:Int=>⟨Yp [(4,.adr 2 0 0),(5,iV s27)],Yh f_ [],3⟩) (wkI 3) ?_);clear h;intro k27 s27 c27 h hk27;refine Q0 (Q0 (runQ hN λK hK=>?_));simp;repeat refine sdQ ?_
  refine hK _ ?_;clear hK K;refine tn (Q7 rfl (λg=>?_) λg=>?_)
  ·have g28:s27<(f_.s.fr.length:Int):=gQ;clear g;replace h:=if_l g28 h;refine Q8 (tn (Q0 (Q5 (Q0 ?_))));replace⟨e29,h,h29⟩:=bind_some h;refine Q9 (λb29:Bool=>⟨Yp [(4,.adr 2 0 0),(5,iV s27),(99,.val (.bool b29))],Yh f_ [],3⟩) (λb29=>b29=e29) ?_ ?_
   ·refine runQ hN λK hK=>?_;replace⟨a30,h⟩:=Q1 h;replace⟨a31,h⟩:=Q1 h;replace⟨a32,h⟩:=Q1 h;replace⟨a33,h⟩:=Q1 h;simp[at_I a30,at_I a31,at_I a32,at_I a33];(repeat with_reducible refine sdQ ?_);refine Qa (λg=>?_) (λg=>?_)
    ·have g34:¬(¬((ix f_.t.fr (ix f_.ar s27))=(ix f_.ob (ix f_.s.fr s27)))):=gQ;clear g;replace h:=if_r g34 h;replace⟨a35,h⟩:=Q1 h;replace⟨a36,h⟩:=Q1 h;replace⟨a37,h⟩:=Q1 h;replace⟨a38,h⟩:=Q1 h;simp[at_I a30,at_I a31,at_I a32,at_I a33,at_I a35,at_I a36,at_I a37,at_I a38];(repeat refine sdQ ?_);refine hK _ ?_;exact jn (b:=(ix f_.t.to (ix f_.ar s27))!=(ix f_.ob (ix f_.s.to s27))) (yJ h) (wkI 3)
    have g34:¬((ix f_.t.fr (ix f_.ar s27))=(ix f_.ob (ix f_.s.fr s27))):=gQ;clear g;replace h:=if_l g34 h;simp[at_I a30,at_I a31,at_I a32,at_I a33];(repeat refine sdQ ?_);refine hK _ ?_;exact jn (b:=true) (yJ h) (wkI 3)
   intro b29 hb29;have h:=h29;(try rw[←hb29]at h);clear h29;(try dsimp only at h);refine Q7 rfl (λg=>?_) λg=>?_
   ·have g39:b29=true:=gQ;clear g;replace h:=if_l g39 h;refine Q0 (runQ hN λK hK=>?_);simp;(repeat refine sdQ ?_);refine hK _ (tn (Q2 (st':=⟨YM [],[],0⟩) (wkQ []) (Qe (br (tr (lr (br (tr ?_))))))));clear hK K;cases h;have q:_=e13:=hk27;have h:=h13;rw[←q]at h;clear q;(try dsimp only at h);have hr:=yJ h;rw[←hr];refine⟨_,(.tmp .nil),?_⟩;refine⟨(.one rfl rfl .nil),[.val (.bool false)],[],by simp[BN],by simp,(yN _)⟩
   have g39:¬(b29=true):=gQ;clear g;replace h:=if_r g39 h;refine Q8 (bn (tn (runQ hN λK hK=>?_)));replace⟨a40,h⟩:=Q1 h;simp[Qh a40];(repeat refine sdQ ?_);refine hK _ ?_;clear hK K;cases h;exact rn (s':=s27+1) hk27 (wkI 3)
  have g28:¬(s27<(f_.s.fr.length:Int)):=gQ;clear g;replace h:=if_r g28 h;refine Ql (tx (lx (bh ?_)));cases h;exact jn (b:=()) hk27 (wkI 3)
 intro b13 hb13;have h:=h13;try rw[←hb13]at h
 clear h13;try dsimp only at h
 refine Q0 (Q0 (runQ hN λK hK=>?_));simp;repeat refine sdQ ?_
 refine hK _ (tn (Q2 (st':=⟨Yp [(4,.adr 2 0 0),(6,iV 0)],Yh f_ [],3⟩) (wkI 3) ?_));clear hK K;replace⟨e41,h,h41⟩:=bind_some h;refine Q9 (λb41:Unit=>⟨Yp [(4,.adr 2 0 0)],Yh f_ [],3⟩) (λb41=>yK b41=e41) ?_ ?_
 ·refine Q5 (Qj h (λs49:Int=>⟨Yp [(4,.adr 2 0 0),(6,iV s49)],Yh f_ [],3⟩) (wkI 3) ?_);clear h;intro k49 s49 c49 h hk49;refine Q0 (Q0 (runQ hN λK hK=>?_));simp;repeat refine sdQ ?_
  refine hK _ ?_;clear hK K;refine tn (Q7 rfl (λg=>?_) λg=>?_)
  ·have g50:s49<f_.s.n:=gQ;clear g;replace h:=if_l g50 h;refine Q8 (tn (Q0 (Q5 (Q0 (runQ hN λK hK=>?_)))));replace⟨a51,h⟩:=Q1 h;replace⟨a52,h⟩:=Q1 h;replace⟨a53,h⟩:=Q1 h;replace⟨a54,h⟩:=Q1 h;simp[at_I a51,at_I a52,at_I a53,at_I a54];(repeat refine sdQ ?_);refine hK _ ?_;clear hK K;refine tn (Q7 rfl (λg=>?_) λg=>?_)
   ·have g55:¬((ix f_.ar (ix f_.s.id s49))=(ix f_.t.id (ix f_.ob s49))):=gQ;clear g;replace h:=if_l g55 h;refine Q0 (runQ hN λK hK=>?_);simp;(repeat refine sdQ ?_);refine hK _ (tn (Q2 (st':=⟨YM [],[],0⟩) (wkQ []) (Qe (br (tr (lr (br (tr ?_))))))));clear hK K;cases h;have q:_=e41:=hk49;have h:=h41;rw[←q]at h;clear q;(try dsimp only at h);have hr:=yJ h;rw[←hr];refine⟨_,(.tmp .nil),?_⟩;refine⟨(.one rfl rfl .nil),[.val (.bool false)],[],by simp[BN],by simp,(yN _)⟩
   have g55:¬(¬((ix f_.ar (ix f_.s.id s49))=(ix f_.t.id (ix f_.ob s49)))):=gQ;clear g;replace h:=if_r g55 h;refine Q8 (bn (tn (runQ hN λK hK=>?_)));replace⟨a56,h⟩:=Q1 h;simp[Qh a56];(repeat refine sdQ ?_);refine hK _ ?_;clear hK K;cases h;exact rn (s':=s49+1) hk49 (wkI 3)
  have g50:¬(s49<f_.s.n):=gQ;clear g;replace h:=if_r g50 h;refine Ql (tx (lx (bh ?_)));cases h;exact jn (b:=()) hk49 (wkI 3)
 intro b41 hb41;have h:=h41;try rw[←hb41]at h
 clear h41;try dsimp only at h
 refine Q0 (Q0 (runQ hN λK hK=>?_));simp;repeat refine sdQ ?_
 refine hK _ (tn (Q2 (st':=⟨Yp [(4,.adr 2 0 0),(7,iV 0)],Yh f_ [],3⟩) (wkI 3) ?_));clear hK K;replace⟨e57,h,h57⟩:=bind_some h;refine Q9 (λb57:Unit=>⟨[],[],0⟩) (λb57=>yK b57=e57) ?_ ?_
 ·refine Q5 (Qj h (λs90:Int=>⟨Yp [(4,.adr 2 0 0),(7,iV s90)],Yh f_ [],3⟩) (wkI 3) ?_);clear h;intro k90 s90 c90 h hk90;refine Q0 (Q0 (runQ hN λK hK=>?_));simp;repeat refine sdQ ?_
  refine hK _ ?_;clear hK K;refine tn (Q7 rfl (λg=>?_) λg=>?_)
  ·have g91:s90<(f_.s.fr.length:Int):=gQ;clear g;replace h:=if_l g91 h;refine Q8 (tn (Q0 ?_));replace⟨e92,h,h92⟩:=bind_some h;refine Q9 (λb92:Unit=>⟨Yp [(4,.adr 2 0 0),(7,iV s90)],Yh f_ [],3⟩) (λb92=>yK b92=e92) ?_ ?_
   ·refine Q5 (Q0 (runQ hN λK hK=>?_));simp;(repeat refine sdQ ?_);refine hK _ (tn (Q2 (st':=⟨Yp [(4,.adr 2 0 0),(7,iV s90),(8,iV 0)],Yh f_ [],3⟩) (wkI 3) (Q5 ?_)));clear hK K;replace⟨e107,he107,h107⟩:=bind_some h;refine Qj he107 (λs107:Int=>⟨Yp [(4,.adr 2 0 0),(7,iV s90),(8,iV s107)],Yh f_ [],3⟩) (wkI 3) ?_;intro k107 s107 c107 h hk107;refine Q0 (Q0 (runQ hN λK hK=>?_));simp;(repeat refine sdQ ?_);refine hK _ ?_;clear hK K;refine tn (Q7 rfl (λg=>?_) λg=>?_)
    ·have g108:s107<(f_.s.fr.length:Int):=gQ;clear g;replace h:=if_l g108 h;refine Q8 (tn (Q0 (Q5 (Q0 ?_))));replace⟨e109,h,h109⟩:=bind_some h;refine Q9 (λb109:Bool=>⟨Yp [(4,.adr 2 0 0),(7,iV s90),(8,iV s107),(180,.val (.bool b109))],Yh f_ [],3⟩) (λb109=>b109=e109) ?_ ?_
     ·refine runQ hN λK hK=>?_;replace⟨a110,h⟩:=Q1 h;replace⟨a111,h⟩:=Q1 h;simp[at_I a110,at_I a111];(repeat with_reducible refine sdQ ?_);refine Qa (λg=>?_) (λg=>?_)
      ·have g112:(ix f_.s.to s90)=(ix f_.s.fr s107):=gQ;clear g;replace h:=if_l g112 h;replace⟨a113,h⟩:=Q1 h;replace⟨a114,h⟩:=Q1 h;replace⟨a115,h⟩:=Q1 h;replace⟨a116,h⟩:=Q1 h;replace⟨a117,h⟩:=Q1 h;replace⟨a118,h⟩:=Q1 h;replace⟨a119,h⟩:=Q1 h;simp[at_I a110,at_I a111,at_L a113,at_I a114,at_I a115,at_I a116,at_L a117,at_I a118,at_I a119];(repeat refine sdQ ?_);refine hK _ ?_;exact jn (b:=(ix f_.ar (ix (rx f_.s.cs s90) s107))!=(ix (rx f_.t.cs (ix f_.ar s90)) (ix f_.ar s107))) (yJ h) (wkI 3)
      have g112:¬((ix f_.s.to s90)=(ix f_.s.fr s107)):=gQ;clear g;replace h:=if_r g112 h;simp[at_I a110,at_I a111];(repeat refine sdQ ?_);refine hK _ ?_;exact jn (b:=false) (yJ h) (wkI 3)
     intro b109 hb109;have h:=h109;(try rw[←hb109]at h);clear h109;(try dsimp only at h);refine Q7 rfl (λg=>?_) λg=>?_
     ·have g120:b109=true:=gQ;clear g;replace h:=if_l g120 h;refine Q0 (runQ hN λK hK=>?_);simp;(repeat refine sdQ ?_);refine hK _ (tn (Q2 (st':=⟨YM [],[],0⟩) (wkQ []) (Qe (br (tr (lr (br (br (tr (lr (br (tr ?_))))))))))));clear hK K;cases h;have q:_=e107:=hk107;have h:=h107;rw[←q]at h;clear q;(try dsimp only at h);cases h;have h:=h92;(try dsimp only at h);cases h;have q:_=e57:=hk90;have h:=h57;rw[←q]at h;clear q;(try dsimp only at h);have hr:=yJ h;rw[←hr];refine⟨_,(.tmp .nil),?_⟩;refine⟨(.one rfl rfl .nil),[.val (.bool false)],[],by simp[BN],by simp,(yN _)⟩
     have g120:¬(b109=true):=gQ;clear g;replace h:=if_r g120 h;refine Q8 (bn (tn (runQ hN λK hK=>?_)));replace⟨a121,h⟩:=Q1 h;simp[Qh a121];(repeat refine sdQ ?_);refine hK _ ?_;clear hK K;cases h;exact rn (s':=s107+1) hk107 (wkI 3)
    have g108:¬(s107<(f_.s.fr.length:Int)):=gQ;clear g;replace h:=if_r g108 h;refine Ql (tx (lx (bh (bn ?_))));cases h;have q:_=e107:=hk107;have h:=h107;rw[←q]at h;clear q;(try dsimp only at h);exact jn (b:=()) (yJ h) (wkI 3)
   intro b92 hb92;have h:=h92;(try rw[←hb92]at h);clear h92;(try dsimp only at h);refine runQ hN λK hK=>?_;replace⟨a122,h⟩:=Q1 h;simp[Qh a122];(repeat refine sdQ ?_);refine hK _ ?_;clear hK K;cases h;exact rn (s':=s90+1) hk90 (wkI 3)
  have g91:¬(s90<(f_.s.fr.length:Int)):=gQ;clear g;replace h:=if_r g91 h;refine Ql (tx (lx (bh ?_)));cases h;exact jn (b:=()) hk90 (wkQ [])
 intro b57 hb57;have h:=h57;try rw[←hb57]at h
 clear h57;try dsimp only at h
 refine Q0 (runQ hN λK hK=>?_);simp;repeat refine sdQ ?_
 refine hK _ (tn (Q2 (st':=⟨Y0u [],[],0⟩) (wkQ []) (Qe ?_)));clear hK K;have hr:=yJ h;rw[←hr];refine⟨_,(.tmp .nil),?_⟩;refine⟨(.one rfl rfl .nil),[.val (.bool true)],[],by simp[BN],by simp,(yN _)⟩
section
attribute [local simp] Qi QP Qv Q1l QN
structure Fn.Is(f:Fn):Prop where
 s:f.s.Is
 t:f.t.Is
 lo:(f.ob.length:Int)=f.s.n
 la:f.ar.length=f.s.fr.length
 ob:∀j:Nat,j<f.ob.length→0≤ix f.ob j∧ix f.ob j<f.t.n
 ar:∀j:Nat,j<f.ar.length→0≤ix f.ar j∧ix f.ar j<f.t.fr.length
 ends:∀a:Nat,a<f.s.fr.length→ix f.t.fr (ix f.ar a)=ix f.ob (ix f.s.fr a)∧ix f.t.to (ix f.ar a)=ix f.ob (ix f.s.to a)
 ids:∀x:Nat,x<f.s.id.length→ix f.ar (ix f.s.id x)=ix f.t.id (ix f.ob x)
 comp:∀a:Nat,a<f.s.fr.length→∀b:Nat,b<f.s.fr.length→ix f.s.to a=ix f.s.fr b→ix f.ar (ix (rx f.s.cs a) b)=ix (rx f.t.cs (ix f.ar a)) (ix f.ar b)
theorem Cat.Sh.frn{c:Cat}(h:c.Sh){a:Nat}(ha:a<c.fr.length):(0≤ix c.fr a∧ix c.fr a<c.id.length)∧(0≤ix c.to a∧ix c.to a<c.id.length):=⟨h.fr' (by omega) (by omega),h.to' (by omega) (by omega)⟩
theorem Cat.Sh.idn{c:Cat}(h:c.Sh){a:Nat}(ha:a<c.id.length):0≤ix c.id a∧ix c.id a<c.fr.length:=h.id' (by omega) (by omega)
theorem Cat.Sh.cmp{c:Cat}(h:c.Sh){f g:Int}(h0:0≤f)(h1:f<c.fr.length)(h2:0≤g)(h3:g<c.fr.length)(e:ix c.to f=ix c.fr g):0≤ix (rx c.cs f) g∧ix (rx c.cs f) g<c.fr.length:=by
 have:=(h.cell' h0 h1 h2 h3).2 e;omega
theorem e_l06Is(f:Fn):Q43 f=some (bo f.Is):=by
 unfold Q43
 by_cases h1:f.s.Is
 case neg=>rw[Qd (show¬f.Is from λq=>h1 q.s)];simp[Q1w,bo,h1]
 by_cases h2:f.t.Is
 case neg=>rw[Qd (show¬f.Is from λq=>h2 q.t)];simp[Q1w,bo,h1,h2]
 by_cases h3:(f.ob.length:Int)=f.s.n
 case neg=>rw[Qd (show¬f.Is from λq=>h3 q.lo)];simp[Q1w,bo,h1,h2,h3]
 by_cases h4:(f.ar.length:Int)=f.s.fr.length
 case neg=>rw[Qd (show¬f.Is from λq=>h4 (by rw[q.la]))];simp[Q1w,bo,h1,h2,h3,h4]
 by_cases h5:f.ob.all (inR f.t.n)=true
 case neg=>rw[Qd (show¬f.Is from λq=>h5 (all_inR.2 q.ob))];simp[Q1w,Q1i,bo,h1,h2,h3,h4,h5]
 by_cases h6:f.ar.all (inR f.t.fr.length)=true
 case neg=>rw[Qd (show¬f.Is from λq=>h6 (all_inR.2 q.ar))];simp[Q1w,Q1i,bo,h1,h2,h3,h4,h5,h6]
 have ho:=all_inR.1 h5;have ha:=all_inR.1 h6;have hs:=h1.1;have ht:=h2.1;simp only[Q1w,Q1i,Qk h1,Qk h2,h3,h4,h5,h6,yA,if_true,if_false,not_true_eq_false,bne_self_eq_false,Bool.not_true,zM];refine Q2S f.s.fr.length (λa:Nat=>ix f.t.fr (ix f.ar a)=ix f.ob (ix f.s.fr a)∧ix f.t.to (ix f.ar a)=ix f.ob (ix f.s.to a)) (eb:=yL false) (eg:=yK ()) (by have:=hs.m40;omega) (λa hi hp=>?_) (λa hi hp=>?_) ?_ (λhx=>?_) λq1=>?_
 ·have:=hs.frn hi;have:=ha a (by omega);have:=hs.lt;have:=ht.lt;have:=hs.li;have:=hs.m40;simp(disch:=omega) only[Q4,if_pos,B64,hp.1,hp.2,yA,not_true_eq_false,if_false,bne_self_eq_false,zM]
 ·have:=hs.frn hi;have:=ha a (by omega);have:=hs.lt;have:=ht.lt;have:=hs.li;have:=hs.m40
  by_cases hp1:ix f.t.fr (ix f.ar a)=ix f.ob (ix f.s.fr a)
  ·have hp2:¬ix f.t.to (ix f.ar a)=ix f.ob (ix f.s.to a):=λh=>hp ⟨hp1,h⟩;simp(disch:=omega) [Q4,B64,hp1,hp2,hi]
  simp(disch:=omega) [Q4,B64,hp1,hi]
 ·simp
 ·rw[Qd (show¬f.Is from λq=>hx q.ends)]
 simp only;refine Q2S f.s.id.length (λx:Nat=>ix f.ar (ix f.s.id x)=ix f.t.id (ix f.ob x)) (eb:=yL false) (eg:=yK ()) (by have:=hs.n8;have:=hs.li;omega) (λa hi hp=>?_) (λa hi hp=>?_) ?_ (λhx=>?_) λq2=>?_
 ·have:=hs.idn hi;have:=ho a (by have:=hs.li;omega);have:=hs.li;have:=ht.li;have:=hs.n8;simp(disch:=omega) [Q4,B64,hp];omega
 ·have:=hs.idn hi;have:=ho a (by have:=hs.li;omega);have:=hs.li;have:=ht.li;have:=hs.n8;simp(disch:=omega) [Q4,B64,hp];omega
 ·simp[hs.li]
 ·rw[Qd (show¬f.Is from λq=>hx q.ids)]
 simp only;refine Q2S f.s.fr.length (λa:Nat=>∀b:Nat,b<f.s.fr.length→ix f.s.to a=ix f.s.fr b→ix f.ar (ix (rx f.s.cs a) b)=ix (rx f.t.cs (ix f.ar a)) (ix f.ar b)) (eb:=yL false) (eg:=yK ()) (by have:=hs.m40;omega) (λa hi hp=>?_) (λa hi hp=>?_) ?_ (λhx=>?_) λq3=>?_;rotate_left 2
 ·simp
 ·rw[Qd (show¬f.Is from λq=>hx q.comp)]
 ·rw[Qk (show f.Is from⟨h1,h2,h3,by omega,ho,ha,q1,q2,q3⟩)]
 all_goals
  have m40:=hs.m40;have h7:=hs.lt;have h8:=ha a (by omega);have h9:=hs.lc;have h10:=ht.lc;have h11:=hs.row' (j:=a) (by omega) (by omega);have h12:=ht.row' (j:=ix f.ar a) (by omega) (by omega);rw[if_pos (by omega)]
 all_goals
  rw[Option.bind_assoc];refine Q2S f.s.fr.length (λb:Nat=>ix f.s.to a=ix f.s.fr b→ix f.ar (ix (rx f.s.cs a) b)=ix (rx f.t.cs (ix f.ar a)) (ix f.ar b)) (eb:=yK false) (eg:=yL ()) (by omega) (λb hb hq=>?_) (λb hb hq=>?_) ?_ (λhn=>?_) λhn=>?_
 all_goals first
  |exact absurd hp hn
  |exact absurd hn hp
  |(simp(disch:=omega) [Q4,B64];done)
  |skip
 all_goals
  have h13:=ha b (by omega)
  by_cases h14:ix f.s.to a=ix f.s.fr b
  ·have h15:=hs.cmp (f:=a) (g:=b) (by omega) (by omega) (by omega) (by omega) h14;first
    |(have hq1:=hq h14;simp(disch:=omega) [Q4,B64,h14,hq1,hb])
    |(have hq1:=λe=>hq (λ_=>e);simp(disch:=omega) [Q4,B64,h14,hq1,hb];exact hq1)
  first
   |(simp(disch:=omega) [Q4,B64,h14,hb];done)
   |exact absurd (λe=>absurd e h14) hq
end
attribute [local simp] unk unA unE unT unC flat eL eI Qc QS Q2i Cat.cells Fn.cells
def Q26(c_:Cat)(d_:Cat)(objects_:List Int)(arrows_:List Int):Option Fn:=
 (Q1t c_).bind λv1=>
 (Q1t d_).bind λv2=>
 (Q2J objects_).bind λv3=>
 (Q2J arrows_).bind λv4=>
 some (⟨v1,v2,v3,v4⟩:Fn)
@[simp] abbrev Y0Q(a:Cat)(b:List (AV)):List (AV):=iV a.n::.own 1 0 a.fr.length::.own 2 0 a.to.length::.own 3 0 a.id.length::.own 4 0 a.cs.length::b
@[simp] abbrev YS(a b:Cat)(c d:List Int)(e:List (Nat×Ent)):List (Nat×Ent):=(0,.mix 12 [(Y0Q a [iV b.n,.own 5 0 b.fr.length,.own 6 0 b.to.length,.own 7 0 b.id.length,.own 8 0 b.cs.length,.own 9 0 c.length,.own 10 0 d.length])])::(1,rI a.fr)::(2,rI a.to)::(3,rI a.id)::(4,.row 1 (Ls a.cs))::(5,rI b.fr)::(6,rI b.to)::(7,rI b.id)::(8,.row 1 (Ls b.cs))::(9,rI c)::(10,rI d)::e
@[simp] abbrev Y0M(a:List (AV)):List (AV):=iV 0::nS::nS::nS::nS::iV 0::nS::nS::a
@[simp] abbrev Y0g(a:List (Nat×Ent)):List (Nat×Ent):=(0,.mix 12 [(Y0M [nS,nS,nS,nS])])::a
theorem Q4x(c_:Cat)(d_:Cat)(objects_:List Int)(arrows_:List Int)(r:Fn)(h:Q26 c_ d_ objects_ arrows_=some r):Contract Try.prog 46 [.rptr (c_.cells true),.rptr (d_.cells true),lI objects_,lI arrows_] (.agg (r.cells true)):=by
 refine Q6 (rvs:=[.cell 8 38]) (rs:=[.agg (r.cells true)]) Try.func46 rfl rfl rfl rfl (by simp[Try.f46]) λF hN hP=>?_;unfold Q26 at h;refine Q0 (runQ hN λK hK=>?_);simp;repeat refine sdQ ?_
 refine hK _ ?_;clear hK K;refine tn (Q2 (st':=⟨[(0,.rptr (Cat.cells true c_)),(1,.rptr (Cat.cells true d_)),(2,lI objects_),(3,lI arrows_),(8,.adr 0 0 0)],Y0g [],1⟩) (wkQ [(0,0)]) (Q0 (runQ hN λK hK=>?_)));simp;repeat with_reducible refine sdQ ?_
 replace⟨v1,hv1,h⟩:=bind_some h;refine Q3 (Q3z _ v1 hv1) (.cons (.preT (by simp[CN])) .nil) ?_;simp;repeat with_reducible refine sdQ ?_
 replace⟨v2,hv2,h⟩:=bind_some h;refine Q3 (Q3z _ v2 hv2) (.cons (.preT (by simp[CN])) .nil) ?_;simp;repeat with_reducible refine sdQ ?_
 replace⟨v3,hv3,h⟩:=bind_some h;refine Q3 (Q4T _ v3 hv3) (.cons .lst .nil) ?_;simp;repeat with_reducible refine sdQ ?_
 replace⟨v4,hv4,h⟩:=bind_some h;refine Q3 (Q4T _ v4 hv4) (.cons .lst .nil) ?_;simp;repeat refine sdQ ?_
 refine hK _ (tn (Q2 (st':=⟨[(8,.adr 0 0 0)],YS v1 v2 v3 v4 [],11⟩) (wkQ [(0,0),(2,1),(3,2),(4,3),(5,4),(7,5),(8,6),(9,7),(10,8),(11,9),(12,10)]) (Qe ?_)));clear hK K;have hr:=yJ h;rw[←hr];refine⟨_,(.cell Q6l rfl rfl rfl (by simp) (by simp) .nil),?_⟩;refine⟨(.agg rfl .nil),[iV v1.n,lI v1.fr,lI v1.to,lI v1.id,.lst true 1 (Ls v1.cs),iV v2.n,lI v2.fr,lI v2.to,lI v2.id,.lst true 1 (Ls v2.cs),lI v3,lI v4],[1,2,3,4,5,6,7,8,9,10],by simp[BN],by simp,(yN _)⟩
attribute [local simp] unk unA unE unT unC flat eL eI Qc QS Q2i Cat.cells Fn.cells
def Q1J(f_:Fn):Option Fn:=
 (Q26 f_.s f_.t f_.ob f_.ar).bind λv1=>
 some v1
@[simp] abbrev Y7(a:Fn)(b:List (Nat×Ent)):List (Nat×Ent):=(0,.mix 12 [[iV a.s.n,.own 1 0 a.s.fr.length,.own 2 0 a.s.to.length,.own 3 0 a.s.id.length,.own 4 0 a.s.cs.length,iV a.t.n,.own 5 0 a.t.fr.length,.own 6 0 a.t.to.length,.own 7 0 a.t.id.length,.own 8 0 a.t.cs.length,.own 9 0 a.ob.length,.own 10 0 a.ar.length]])::(1,rI a.s.fr)::(2,rI a.s.to)::(3,rI a.s.id)::(4,.row 1 (Ls a.s.cs))::(5,rI a.t.fr)::(6,rI a.t.to)::(7,rI a.t.id)::(8,.row 1 (Ls a.t.cs))::(9,rI a.ob)::(10,rI a.ar)::b
@[simp] abbrev Yv(a:Fn)(b:List (Nat×AV)):List (Nat×AV):=(0,.rptr (Fn.cells true a))::b
@[simp] abbrev YA(a:List (Nat×AV)):List (Nat×AV):=(2,.adr 0 0 0)::a
theorem Q3V(f_:Fn)(r:Fn)(h:Q1J f_=some r):Contract Try.prog 141 [.rptr (f_.cells true)] (.agg (r.cells true)):=by
 refine Q6 (rvs:=[.cell 2 38]) (rs:=[.agg (r.cells true)]) Try.func141 rfl rfl rfl rfl (by simp[Try.f141]) λF hN hP=>?_;unfold Q1J at h;refine Q0 (runQ hN λK hK=>?_);simp;repeat refine sdQ ?_
 refine hK _ ?_;clear hK K;refine tn (Q2 (st':=⟨Yv f_ (YA []),Y0g [],1⟩) (wkQ [(0,0)]) (Q0 (runQ hN λK hK=>?_)));simp;repeat with_reducible refine sdQ ?_
 replace⟨v1,hv1,h⟩:=bind_some h;refine Q3 (Q4x _ _ _ _ v1 hv1) (.cons (.preT (by simp[CN])) (.cons (.preT (by simp[CN])) (.cons .lst (.cons .lst .nil)))) ?_;simp;repeat refine sdQ ?_
 refine hK _ (tn (Q2 (st':=⟨YA [],Y7 v1 [],11⟩) (wkQ [(0,0),(2,1),(3,2),(4,3),(5,4),(7,5),(8,6),(9,7),(10,8),(11,9),(12,10)]) (Qe ?_)));clear hK K;have hr:=yJ h;rw[←hr];refine⟨_,(.cell Q6l rfl rfl rfl (by simp) (by simp) .nil),?_⟩;refine⟨(.agg rfl .nil),[iV v1.s.n,lI v1.s.fr,lI v1.s.to,lI v1.s.id,.lst true 1 (Ls v1.s.cs),iV v1.t.n,lI v1.t.fr,lI v1.t.to,lI v1.t.id,.lst true 1 (Ls v1.t.cs),lI v1.ob,lI v1.ar],[1,2,3,4,5,6,7,8,9,10],by simp[BN],by simp,(yN _)⟩
attribute [local simp] unk unA unE unT unC flat eL eI Qc QS Q2i Cat.cells Fn.cells
def Q27(c_:Cat)(d_:Cat)(objects_:List Int)(arrows_:List Int):Option Fn:=
 (Q3u c_).bind λv1=>
 (Q3u d_).bind λv2=>
 (Q3t objects_).bind λv3=>
 (Q3t arrows_).bind λv4=>
 some (⟨v1,v2,v3,v4⟩:Fn)
@[simp] abbrev Y04(a:Cat)(b:List (Nat×Ent)):List (Nat×Ent):=(0,.mix 5 [(Cat.cells true a)])::b
theorem Q4z(c_:Cat)(d_:Cat)(objects_:List Int)(arrows_:List Int)(r:Fn)(h:Q27 c_ d_ objects_ arrows_=some r):Contract Try.prog 49 [.agg (c_.cells true),.agg (d_.cells true),lI objects_,lI arrows_] (.agg (r.cells true)):=by
 refine Q6 (rvs:=[.cell 8 38]) (rs:=[.agg (r.cells true)]) Try.func49 rfl rfl rfl rfl (by simp[Try.f49]) λF hN hP=>?_;unfold Q27 at h;refine Q0 (runQ hN λK hK=>?_);simp;repeat refine sdQ ?_
 refine hK _ ?_;clear hK K;refine tn (Q2 (st':=⟨[(2,lI objects_),(3,lI arrows_),(4,.adr 0 0 0),(5,.adr 1 0 0),(8,.adr 2 0 0)],Y04 c_ [(1,.mix 5 [(Cat.cells true d_)]),(2,.mix 12 [(Y0M [nS,nS,nS,nS])])],3⟩) (wkI 3) (Q0 (runQ hN λK hK=>?_)));simp;repeat with_reducible refine sdQ ?_
 replace⟨v1,hv1,h⟩:=bind_some h;refine Q3 (Q6M _ v1 hv1) (.cons (.aggL (.cons .val (.cons .lst (.cons .lst (.cons .lst (.cons .lst .nil)))))) .nil) ?_;simp;repeat with_reducible refine sdQ ?_
 replace⟨v2,hv2,h⟩:=bind_some h;refine Q3 (Q6M _ v2 hv2) (.cons (.aggL (.cons .val (.cons .lst (.cons .lst (.cons .lst (.cons .lst .nil)))))) .nil) ?_;simp;repeat with_reducible refine sdQ ?_
 replace⟨v3,hv3,h⟩:=bind_some h;refine Q3 (Q6L _ v3 hv3) (.cons .lst .nil) ?_;simp;repeat with_reducible refine sdQ ?_
 replace⟨v4,hv4,h⟩:=bind_some h;refine Q3 (Q6L _ v4 hv4) (.cons .lst .nil) ?_;simp;repeat refine sdQ ?_
 refine hK _ (tn (Q2 (st':=⟨[(8,.adr 0 0 0)],YS v1 v2 v3 v4 [],11⟩) (wkQ [(2,0),(4,1),(5,2),(6,3),(7,4),(9,5),(10,6),(11,7),(12,8),(13,9),(14,10)]) (Qe ?_)));clear hK K;have hr:=yJ h;rw[←hr];refine⟨_,(.cell Q6l rfl rfl rfl (by simp) (by simp) .nil),?_⟩;refine⟨(.agg rfl .nil),[iV v1.n,lI v1.fr,lI v1.to,lI v1.id,.lst true 1 (Ls v1.cs),iV v2.n,lI v2.fr,lI v2.to,lI v2.id,.lst true 1 (Ls v2.cs),lI v3,lI v4],[1,2,3,4,5,6,7,8,9,10],by simp[BN],by simp,(yN _)⟩
section
attribute [local simp] Qi QP Qv Q1l QN
theorem Cat.Is.ok{c:Cat}(h:c.Is):c.ok:=h.1.size2.1
theorem Q5N{c d:Cat}{ob ar:List Int}(hc:c.ok)(hd:d.ok)(ho:ob.length≤1048576)(ha:ar.length≤1048576):Q27 c d ob ar=some ⟨c,d,ob,ar⟩:=by
 simp[Q27,Q3u,Q3t,hc,hd,ho,ha]
theorem Q4E{c d:Cat}{ob ar:List Int}(hc:c.ok)(hd:d.ok)(ho:ob.length≤1048576)(ha:ar.length≤1048576):Q26 c d ob ar=some ⟨c,d,ob,ar⟩:=by
 simp[Q26,Q1t,Q2J,hc,hd,ho,ha]
end
attribute [local simp] unk unA unE unT unC flat eL eI Qc QS Q2i Cat.cells Fn.cells
def Q1K(f_:Fn):Option Bool:=
 (
  if¬((f_.ob.length:Int)=f_.s.n)then
   some true
  else
   (Qz f_.s).bind λv3=>
   if¬((f_.ar.length:Int)=v3)then
    some true
   else
    (Q1v f_.ob f_.t.n).bind λv5=>
    if¬(v5=true)then
     some true
    else
     (Qz f_.t).bind λv7=>
     (Q1v f_.ar v7).bind λv8=>
     some (!v8):Option (Bool)).bind λb1=>
 if b1=true then
  some false
 else
  (Qo (σ:=Int) (ε:=Unit⊕Bool) (λs23=>
   if s23<(f_.ar.length:Int)then
    ass (0≤s23∧s23<(f_.ar.length:Int))<|
    (
     ass (0≤ix f_.ar s23∧ix f_.ar s23<(f_.t.fr.length:Int))<|
     ass (0≤s23∧s23<(f_.s.fr.length:Int))<|
     ass (0≤ix f_.s.fr s23∧ix f_.s.fr s23<(f_.ob.length:Int))<|
     if¬((ix f_.t.fr (ix f_.ar s23))=(ix f_.ob (ix f_.s.fr s23)))then
      some true
     else
      ass (0≤ix f_.ar s23∧ix f_.ar s23<(f_.t.to.length:Int))<|
      ass (0≤s23∧s23<(f_.s.to.length:Int))<|
      ass (0≤ix f_.s.to s23∧ix f_.s.to s23<(f_.ob.length:Int))<|
      some ((ix f_.t.to (ix f_.ar s23))!=(ix f_.ob (ix f_.s.to s23))):Option (Bool)).bind λb26=>
    if b26=true then
     some (yM (yL false))
    else
     ass (B64 (s23+1))<|
     some (yO (s23+1))
   else
    some (yM (yK ()))) fuel 0).bind λe10=>
  match e10 with
  | .inl b10=>
   (Qo (σ:=Int) (ε:=Unit⊕Bool) (λs44=>
    if s44<(f_.s.id.length:Int)then
     ass (0≤s44∧s44<(f_.s.id.length:Int))<|
     ass (0≤ix f_.s.id s44∧ix f_.s.id s44<(f_.ar.length:Int))<|
     ass (0≤s44∧s44<(f_.ob.length:Int))<|
     ass (0≤ix f_.ob s44∧ix f_.ob s44<(f_.t.id.length:Int))<|
     if¬((ix f_.ar (ix f_.s.id s44))=(ix f_.t.id (ix f_.ob s44)))then
      some (yM (yL false))
     else
      ass (B64 (s44+1))<|
      some (yO (s44+1))
    else
     some (yM (yK ()))) fuel 0).bind λe36=>
   match e36 with
   | .inl b36=>
    (Qo (σ:=Int) (ε:=Unit⊕Bool) (λs78=>
     if s78<(f_.s.cs.length:Int)then
      (
       ass (0≤s78∧s78<(f_.s.cs.length:Int))<|
       (Qo (σ:=Int) (ε:=Bool⊕Unit) (λs92=>
        if s92<((rx f_.s.cs s78).length:Int)then
         ass (0≤s92∧s92<((rx f_.s.cs s78).length:Int))<|
         (
          if(ix (rx f_.s.cs s78) s92)≥0 then
           ass (0≤ix (rx f_.s.cs s78) s92∧ix (rx f_.s.cs s78) s92<(f_.ar.length:Int))<|
           ass (0≤s78∧s78<(f_.ar.length:Int))<|
           ass (0≤s92∧s92<(f_.ar.length:Int))<|
           (Qq f_.t (ix f_.ar s78) (ix f_.ar s92)).bind λv100=>
           some ((ix f_.ar (ix (rx f_.s.cs s78) s92))!=v100)
          else
           some false:Option (Bool)).bind λb95=>
         if b95=true then
          some (yM (yK false))
         else
          ass (B64 (s92+1))<|
          some (yO (s92+1))
        else
         some (yM (yL ()))) fuel 0).bind λe92=>
       match e92 with
       | .inl p92=>
        some (yL p92)
       | .inr p92=>
        some (yK p92):Option (Unit⊕Bool)).bind λe80=>
      match e80 with
      | .inl b80=>
       ass (B64 (s78+1))<|
       some (yO (s78+1))
      | .inr p80=>
       some (yM (yL p80))
     else
      some (yM (yK ()))) fuel 0).bind λe52=>
    match e52 with
    | .inl b52=>
     some true
    | .inr p52=>
     some p52
   | .inr p36=>
    some p36
  | .inr p10=>
   some p10
@[simp] abbrev Y0R(a:Fn)(b:List (AV)):List (AV):=iV a.t.n::lI a.t.fr::lI a.t.to::lI a.t.id::.lst true 1 (Ls a.t.cs)::lI a.ob::lI a.ar::b
@[simp] abbrev Yg(a:Fn)(b:List (Nat×AV)):List (Nat×AV):=(4,.rptr (Y0R a []))::b
@[simp] abbrev YR(a:Fn)(b:Int)(c:List (Nat×AV)):List (Nat×AV):=(151,.lst true 1 (Ls a.s.cs))::(152,iV (a.s.cs.length:Int))::(153,iV b)::(158,lI (rx a.s.cs b))::(159,iV ((rx a.s.cs b).length:Int))::c
@[simp] abbrev Y0m(a:Fn)(b:List (Nat×AV)):List (Nat×AV):=(3,.rptr (Fn.cells true a))::b
@[simp] abbrev Y0s(a:Fn)(b:List (Nat×AV)):List (Nat×AV):=(151,.lst true 1 (Ls a.s.cs))::(152,iV (a.s.cs.length:Int))::b
theorem Q5v(f_:Fn)(r:Bool)(h:Q1K f_=some r):Contract Try.prog 99 [.rptr (f_.cells true)] (.val (.bool r)):=by
 refine Q6 (rvs:=[.tmp 2]) (rs:=[.val (.bool r)]) Try.func99 rfl rfl rfl rfl (by simp[Try.f99]) λF hN hP=>?_;unfold Q1K at h;refine Q0 (runQ hN λK hK=>?_);simp;repeat refine sdQ ?_
 refine hK _ ?_;clear hK K;refine tn (Q2 (st':=⟨Yv f_ [],[],0⟩) (wkQ []) (Q0 (runQ hN λK hK=>?_)));simp;repeat refine sdQ ?_
 refine hK _ (tn (Q2 (st':=⟨Yv f_ (Y0m f_ (Yg f_ [])),[],0⟩) (wkQ []) (Q0 (Q0 ?_))));clear hK K;replace⟨e1,h,h1⟩:=bind_some h;refine Q9 (λb1:Bool=>⟨Yv f_ (Y0m f_ (Yg f_ [(60,.val (.bool b1))])),[],0⟩) (λb1=>b1=e1) ?_ ?_
 ·refine runQ hN λK hK=>?_;simp;repeat with_reducible refine sdQ ?_
  refine Qa (λg=>?_) (λg=>?_)
  ·have g2:¬(¬((f_.ob.length:Int)=f_.s.n)):=gQ;clear g;replace h:=if_r g2 h;simp;(repeat with_reducible refine sdQ ?_);replace⟨v3,hv3,h⟩:=bind_some h;refine Q3 (Q28 _ v3 hv3) (.cons (.preT (by simp[CN])) .nil) ?_;simp;(repeat with_reducible refine sdQ ?_);refine Qa (λg=>?_) (λg=>?_)
   ·have g4:¬(¬((f_.ar.length:Int)=v3)):=gQ;clear g;replace h:=if_r g4 h;simp;(repeat with_reducible refine sdQ ?_);replace⟨v5,hv5,h⟩:=bind_some h;refine Q3 (Q4k _ _ v5 hv5) (.cons .lst (.cons .val .nil)) ?_;simp;(repeat with_reducible refine sdQ ?_);refine Qa (λg=>?_) (λg=>?_)
    ·have g6:¬(¬(v5=true)):=gQ;clear g;replace h:=if_r g6 h;simp;(repeat with_reducible refine sdQ ?_);replace⟨v7,hv7,h⟩:=bind_some h;refine Q3 (Q28 _ v7 hv7) (.cons (.preT (by simp[CN])) .nil) ?_;simp;(repeat with_reducible refine sdQ ?_);replace⟨v8,hv8,h⟩:=bind_some h;refine Q3 (Q4k _ _ v8 hv8) (.cons .lst (.cons .val .nil)) ?_;simp;(repeat refine sdQ ?_);refine hK _ ?_;exact jn (b:=!v8) (yJ h) (wkQ [])
    have g6:¬(v5=true):=gQ;clear g;replace h:=if_l g6 h;simp;(repeat refine sdQ ?_);refine hK _ ?_;exact jn (b:=true) (yJ h) (wkQ [])
   have g4:¬((f_.ar.length:Int)=v3):=gQ;clear g;replace h:=if_l g4 h;simp;(repeat refine sdQ ?_);refine hK _ ?_;exact jn (b:=true) (yJ h) (wkQ [])
  have g2:¬((f_.ob.length:Int)=f_.s.n):=gQ;clear g;replace h:=if_l g2 h;simp;repeat refine sdQ ?_
  refine hK _ ?_;exact jn (b:=true) (yJ h) (wkQ [])
 intro b1 hb1;have h:=h1;try rw[←hb1]at h
 clear h1;try dsimp only at h
 refine Q7 rfl (λg=>?_) λg=>?_
 ·have g9:b1=true:=gQ;clear g;replace h:=if_l g9 h;refine Q0 (runQ hN λK hK=>?_);simp;repeat refine sdQ ?_
  refine hK _ (tn (Q2 (st':=⟨YM [],[],0⟩) (wkQ []) (Qe (tr ?_))));clear hK K;have hr:=yJ h;rw[←hr];refine⟨_,(.tmp .nil),?_⟩;refine⟨(.one rfl rfl .nil),[.val (.bool false)],[],by simp[BN],by simp,(yN _)⟩
 have g9:¬(b1=true):=gQ;clear g;replace h:=if_r g9 h;refine Q8 (tn (Q0 (Q0 (runQ hN λK hK=>?_))));simp;repeat refine sdQ ?_
 refine hK _ (tn (Q2 (st':=⟨Yv f_ (Y0m f_ (Yg f_ [(64,lI f_.ar),(65,iV (f_.ar.length:Int)),(66,iV 0)])),[],0⟩) (wkQ []) ?_));clear hK K;replace⟨e10,h,h10⟩:=bind_some h;refine Q9 (λb10:Unit=>⟨Yv f_ (Y0m f_ (Yg f_ [])),[],0⟩) (λb10=>yK b10=e10) ?_ ?_
 ·refine Q5 (Qj h (λs23:Int=>⟨Yv f_ (Y0m f_ (Yg f_ [(64,lI f_.ar),(65,iV (f_.ar.length:Int)),(66,iV s23)])),[],0⟩) (wkQ []) ?_);clear h;intro k23 s23 c23 h hk23;refine Q0 (runQ hN λK hK=>?_);simp;repeat refine sdQ ?_
  refine hK _ ?_;clear hK K;refine tn (Q0 (Q7 rfl (λg=>?_) λg=>?_))
  ·have g24:s23<(f_.ar.length:Int):=gQ;clear g;replace h:=if_l g24 h;refine Q8 (tn (Q0 (Q5 (Q0 (runQ hN λK hK=>?_)))));replace⟨a25,h⟩:=Q1 h;simp[at_I a25];(repeat refine sdQ ?_);refine hK _ (tn (Q2 (st':=⟨Yv f_ (Y0m f_ (Yg f_ [(5,iV s23),(6,iV (ix f_.ar s23)),(64,lI f_.ar),(65,iV (f_.ar.length:Int)),(66,iV s23)])),[],0⟩) (wkQ []) (Q0 ?_)));clear hK K;replace⟨e26,h,h26⟩:=bind_some h;refine Q9 (λb26:Bool=>⟨Yv f_ (Y0m f_ (Yg f_ [(64,lI f_.ar),(65,iV (f_.ar.length:Int)),(66,iV s23),(114,.val (.bool b26))])),[],0⟩) (λb26=>b26=e26) ?_ ?_
   ·refine runQ hN λK hK=>?_;replace⟨a27,h⟩:=Q1 h;replace⟨a28,h⟩:=Q1 h;replace⟨a29,h⟩:=Q1 h;simp[at_I a27,at_I a28,at_I a29];(repeat with_reducible refine sdQ ?_);refine Qa (λg=>?_) (λg=>?_)
    ·have g30:¬(¬((ix f_.t.fr (ix f_.ar s23))=(ix f_.ob (ix f_.s.fr s23)))):=gQ;clear g;replace h:=if_r g30 h;replace⟨a31,h⟩:=Q1 h;replace⟨a32,h⟩:=Q1 h;replace⟨a33,h⟩:=Q1 h;simp[at_I a27,at_I a28,at_I a29,at_I a31,at_I a32,at_I a33];(repeat refine sdQ ?_);refine hK _ ?_;exact jn (b:=(ix f_.t.to (ix f_.ar s23))!=(ix f_.ob (ix f_.s.to s23))) (yJ h) (wkQ [])
    have g30:¬((ix f_.t.fr (ix f_.ar s23))=(ix f_.ob (ix f_.s.fr s23))):=gQ;clear g;replace h:=if_l g30 h;simp[at_I a27,at_I a28,at_I a29];(repeat refine sdQ ?_);refine hK _ ?_;exact jn (b:=true) (yJ h) (wkQ [])
   intro b26 hb26;have h:=h26;(try rw[←hb26]at h);clear h26;(try dsimp only at h);refine Q7 rfl (λg=>?_) λg=>?_
   ·have g34:b26=true:=gQ;clear g;replace h:=if_l g34 h;refine Q0 (runQ hN λK hK=>?_);simp;(repeat refine sdQ ?_);refine hK _ (tn (Q2 (st':=⟨YM [],[],0⟩) (wkQ []) (Qe (br (tr (lr (br (tr ?_))))))));clear hK K;cases h;have q:_=e10:=hk23;have h:=h10;rw[←q]at h;clear q;(try dsimp only at h);have hr:=yJ h;rw[←hr];refine⟨_,(.tmp .nil),?_⟩;refine⟨(.one rfl rfl .nil),[.val (.bool false)],[],by simp[BN],by simp,(yN _)⟩
   have g34:¬(b26=true):=gQ;clear g;replace h:=if_r g34 h;refine Q8 (bn (tn (runQ hN λK hK=>?_)));replace⟨a35,h⟩:=Q1 h;simp[Qh a35];(repeat refine sdQ ?_);refine hK _ ?_;clear hK K;cases h;exact rn (s':=s23+1) hk23 (wkQ [])
  have g24:¬(s23<(f_.ar.length:Int)):=gQ;clear g;replace h:=if_r g24 h;refine Ql (tx (lx (bh ?_)));cases h;exact jn (b:=()) hk23 (wkQ [])
 intro b10 hb10;have h:=h10;try rw[←hb10]at h
 clear h10;try dsimp only at h
 refine Q0 (Q0 (runQ hN λK hK=>?_));simp;repeat refine sdQ ?_
 refine hK _ (tn (Q2 (st':=⟨Yv f_ (Y0m f_ (Yg f_ [(119,lI f_.s.id),(120,iV (f_.s.id.length:Int)),(121,iV 0)])),[],0⟩) (wkQ []) ?_));clear hK K;replace⟨e36,h,h36⟩:=bind_some h;refine Q9 (λb36:Unit=>⟨Yv f_ (Y0m f_ (Yg f_ [])),[],0⟩) (λb36=>yK b36=e36) ?_ ?_
 ·refine Q5 (Qj h (λs44:Int=>⟨Yv f_ (Y0m f_ (Yg f_ [(119,lI f_.s.id),(120,iV (f_.s.id.length:Int)),(121,iV s44)])),[],0⟩) (wkQ []) ?_);clear h;intro k44 s44 c44 h hk44;refine Q0 (runQ hN λK hK=>?_);simp;repeat refine sdQ ?_
  refine hK _ ?_;clear hK K;refine tn (Q0 (Q7 rfl (λg=>?_) λg=>?_))
  ·have g45:s44<(f_.s.id.length:Int):=gQ;clear g;replace h:=if_l g45 h;refine Q8 (tn (Q0 (Q5 (Q0 (runQ hN λK hK=>?_)))));replace⟨a46,h⟩:=Q1 h;simp[at_I a46];(repeat refine sdQ ?_);refine hK _ ?_;clear hK K;refine tn (Q2 (st':=⟨Yv f_ (Y0m f_ (Yg f_ [(7,iV s44),(8,iV (ix f_.s.id s44)),(119,lI f_.s.id),(120,iV (f_.s.id.length:Int)),(121,iV s44)])),[],0⟩) (wkQ []) (Q0 (runQ hN λK hK=>?_)));replace⟨a47,h⟩:=Q1 h;replace⟨a48,h⟩:=Q1 h;replace⟨a49,h⟩:=Q1 h;simp[at_I a47,at_I a48,at_I a49];(repeat refine sdQ ?_);refine hK _ ?_;clear hK K;refine tn (Q7 rfl (λg=>?_) λg=>?_)
   ·have g50:¬((ix f_.ar (ix f_.s.id s44))=(ix f_.t.id (ix f_.ob s44))):=gQ;clear g;replace h:=if_l g50 h;refine Q0 (runQ hN λK hK=>?_);simp;(repeat refine sdQ ?_);refine hK _ (tn (Q2 (st':=⟨YM [],[],0⟩) (wkQ []) (Qe (br (tr (lr (br (tr ?_))))))));clear hK K;cases h;have q:_=e36:=hk44;have h:=h36;rw[←q]at h;clear q;(try dsimp only at h);have hr:=yJ h;rw[←hr];refine⟨_,(.tmp .nil),?_⟩;refine⟨(.one rfl rfl .nil),[.val (.bool false)],[],by simp[BN],by simp,(yN _)⟩
   have g50:¬(¬((ix f_.ar (ix f_.s.id s44))=(ix f_.t.id (ix f_.ob s44)))):=gQ;clear g;replace h:=if_r g50 h;refine Q8 (bn (tn (runQ hN λK hK=>?_)));replace⟨a51,h⟩:=Q1 h;simp[Qh a51];(repeat refine sdQ ?_);refine hK _ ?_;clear hK K;cases h;exact rn (s':=s44+1) hk44 (wkQ [])
  have g45:¬(s44<(f_.s.id.length:Int)):=gQ;clear g;replace h:=if_r g45 h;refine Ql (tx (lx (bh ?_)));cases h;exact jn (b:=()) hk44 (wkQ [])
 intro b36 hb36;have h:=h36;try rw[←hb36]at h
 clear h36;try dsimp only at h
 refine Q0 (Q0 (runQ hN λK hK=>?_));simp;repeat refine sdQ ?_
 refine hK _ (tn (Q2 (st':=⟨Yv f_ (Yg f_ (Y0s f_ [(153,iV 0)])),[],0⟩) (wkQ []) ?_));clear hK K;replace⟨e52,h,h52⟩:=bind_some h;refine Q9 (λb52:Unit=>⟨[],[],0⟩) (λb52=>yK b52=e52) ?_ ?_
 ·refine Q5 (Qj h (λs78:Int=>⟨Yv f_ (Yg f_ (Y0s f_ [(153,iV s78)])),[],0⟩) (wkQ []) ?_);clear h;intro k78 s78 c78 h hk78;refine Q0 (runQ hN λK hK=>?_);simp;repeat refine sdQ ?_
  refine hK _ ?_;clear hK K;refine tn (Q0 (Q7 rfl (λg=>?_) λg=>?_))
  ·have g79:s78<(f_.s.cs.length:Int):=gQ;clear g;replace h:=if_l g79 h;refine Q8 (tn (Q0 ?_));replace⟨e80,h,h80⟩:=bind_some h;refine Q9 (λb80:Unit=>⟨Yv f_ (Yg f_ (Y0s f_ [(153,iV s78)])),[],0⟩) (λb80=>yK b80=e80) ?_ ?_
   ·refine Q5 (Q0 (runQ hN λK hK=>?_));replace⟨a81,h⟩:=Q1 h;simp[at_L a81];(repeat refine sdQ ?_);refine hK _ ?_;clear hK K;refine tn (Q2 (st':=⟨Yv f_ (Yg f_ ((9,iV s78)::(10,lI (rx f_.s.cs s78))::Y0s f_ [(153,iV s78)])),[],0⟩) (wkQ []) (Q0 (runQ hN λK hK=>?_)));simp;(repeat refine sdQ ?_);refine hK _ (tn (Q2 (st':=⟨Yv f_ (Yg f_ ((9,iV s78)::YR f_ s78 [(160,iV 0)])),[],0⟩) (wkQ []) (Q5 ?_)));clear hK K;replace⟨e92,he92,h92⟩:=bind_some h;refine Qj he92 (λs92:Int=>⟨Yv f_ (Yg f_ ((9,iV s78)::YR f_ s78 [(160,iV s92)])),[],0⟩) (wkQ []) ?_;intro k92 s92 c92 h hk92;refine Q0 (runQ hN λK hK=>?_);simp;(repeat refine sdQ ?_);refine hK _ ?_;clear hK K;refine tn (Q0 (Q7 rfl (λg=>?_) λg=>?_))
    ·have g93:s92<((rx f_.s.cs s78).length:Int):=gQ;clear g;replace h:=if_l g93 h;refine Q8 (tn (Q0 (Q5 (Q0 (runQ hN λK hK=>?_)))));replace⟨a94,h⟩:=Q1 h;simp[at_I a94];(repeat refine sdQ ?_);refine hK _ (tn (Q2 (st':=⟨Yv f_ (Yg f_ ((9,iV s78)::(11,iV s92)::(12,iV (ix (rx f_.s.cs s78) s92))::YR f_ s78 [(160,iV s92)])),[],0⟩) (wkQ []) (Q0 ?_)));clear hK K;replace⟨e95,h,h95⟩:=bind_some h;refine Q9 (λb95:Bool=>⟨Yv f_ (Yg f_ ((9,iV s78)::YR f_ s78 [(160,iV s92),(192,.val (.bool b95))])),[],0⟩) (λb95=>b95=e95) ?_ ?_
     ·refine runQ hN λK hK=>?_;simp;(repeat with_reducible refine sdQ ?_);refine Qa (λg=>?_) (λg=>?_)
      ·have g96:(ix (rx f_.s.cs s78) s92)≥0:=gQ;clear g;replace h:=if_l g96 h;replace⟨a97,h⟩:=Q1 h;replace⟨a98,h⟩:=Q1 h;replace⟨a99,h⟩:=Q1 h;simp[at_I a97,at_I a98,at_I a99];(repeat with_reducible refine sdQ ?_);replace⟨v100,hv100,h⟩:=bind_some h;refine Q3 (Q12 _ _ _ v100 hv100) (.cons (.preT (by simp[CN])) (.cons .val (.cons .val .nil))) ?_;simp[at_I a97,at_I a98,at_I a99];(repeat refine sdQ ?_);refine hK _ ?_;exact jn (b:=(ix f_.ar (ix (rx f_.s.cs s78) s92))!=v100) (yJ h) (wkQ [])
      have g96:¬((ix (rx f_.s.cs s78) s92)≥0):=gQ;clear g;replace h:=if_r g96 h;simp;(repeat refine sdQ ?_);refine hK _ ?_;exact jn (b:=false) (yJ h) (wkQ [])
     intro b95 hb95;have h:=h95;(try rw[←hb95]at h);clear h95;(try dsimp only at h);refine Q7 rfl (λg=>?_) λg=>?_
     ·have g101:b95=true:=gQ;clear g;replace h:=if_l g101 h;refine Q0 (runQ hN λK hK=>?_);simp;(repeat refine sdQ ?_);refine hK _ (tn (Q2 (st':=⟨YM [],[],0⟩) (wkQ []) (Qe (br (tr (lr (br (br (tr (lr (br (tr ?_))))))))))));clear hK K;cases h;have q:_=e92:=hk92;have h:=h92;rw[←q]at h;clear q;(try dsimp only at h);cases h;have h:=h80;(try dsimp only at h);cases h;have q:_=e52:=hk78;have h:=h52;rw[←q]at h;clear q;(try dsimp only at h);have hr:=yJ h;rw[←hr];refine⟨_,(.tmp .nil),?_⟩;refine⟨(.one rfl rfl .nil),[.val (.bool false)],[],by simp[BN],by simp,(yN _)⟩
     have g101:¬(b95=true):=gQ;clear g;replace h:=if_r g101 h;refine Q8 (bn (tn (runQ hN λK hK=>?_)));replace⟨a102,h⟩:=Q1 h;simp[Qh a102];(repeat refine sdQ ?_);refine hK _ ?_;clear hK K;cases h;exact rn (s':=s92+1) hk92 (wkQ [])
    have g93:¬(s92<((rx f_.s.cs s78).length:Int)):=gQ;clear g;replace h:=if_r g93 h;refine Ql (tx (lx (bh (bn ?_))));cases h;have q:_=e92:=hk92;have h:=h92;rw[←q]at h;clear q;(try dsimp only at h);exact jn (b:=()) (yJ h) (wkQ [])
   intro b80 hb80;have h:=h80;(try rw[←hb80]at h);clear h80;(try dsimp only at h);refine runQ hN λK hK=>?_;replace⟨a103,h⟩:=Q1 h;simp[Qh a103];(repeat refine sdQ ?_);refine hK _ ?_;clear hK K;cases h;exact rn (s':=s78+1) hk78 (wkQ [])
  have g79:¬(s78<(f_.s.cs.length:Int)):=gQ;clear g;replace h:=if_r g79 h;refine Ql (tx (lx (bh ?_)));cases h;exact jn (b:=()) hk78 (wkQ [])
 intro b52 hb52;have h:=h52;try rw[←hb52]at h
 clear h52;try dsimp only at h
 refine Q0 (runQ hN λK hK=>?_);simp;repeat refine sdQ ?_
 refine hK _ (tn (Q2 (st':=⟨Y0u [],[],0⟩) (wkQ []) (Qe ?_)));clear hK K;have hr:=yJ h;rw[←hr];refine⟨_,(.tmp .nil),?_⟩;refine⟨(.one rfl rfl .nil),[.val (.bool true)],[],by simp[BN],by simp,(yN _)⟩
attribute [local simp] unk unA unE unT unC flat eL eI Qc QS Cat.cells
def Q1u(list_:List Cat):Option Bool:=
 (Qo (σ:=Int) (ε:=Unit⊕Bool) (λs7=>
  if s7<(list_.length:Int)then
   ass (0≤s7∧s7<(list_.length:Int))<|
   (QE (gx list_ s7)).bind λv10=>
   if¬(v10=true)then
    some (yM (yL false))
   else
    ass (B64 (s7+1))<|
    some (yO (s7+1))
  else
   some (yM (yK ()))) fuel 0).bind λe1=>
 match e1 with
 | .inl b1=>
  some true
 | .inr p1=>
  some p1
@[simp] abbrev Y0H(a:List Cat)(b:List (Nat×AV)):List (Nat×AV):=(5,.lst true 1 (Es QS a))::(6,iV (a.length:Int))::b
theorem Q5a(list_:List Cat)(r:Bool)(h:Q1u list_=some r):Contract Try.prog 98 [.lst true 1 (Es QS list_)] (.val (.bool r)):=by
 refine Q6 (rvs:=[.tmp 2]) (rs:=[.val (.bool r)]) Try.func98 rfl rfl rfl rfl (by simp[Try.f98]) λF hN hP=>?_;unfold Q1u at h;refine Q0 (runQ hN λK hK=>?_);simp;repeat refine sdQ ?_
 refine hK _ ?_;clear hK K;refine tn (Q2 (st':=⟨[(0,.lst true 1 (Es QS list_))],[],0⟩) (wkQ []) (Q0 (Q0 (runQ hN λK hK=>?_))));simp;repeat refine sdQ ?_
 refine hK _ (tn (Q2 (st':=⟨Y0H list_ [(7,iV 0)],[],0⟩) (wkQ []) ?_));clear hK K;replace⟨e1,h,h1⟩:=bind_some h;refine Q9 (λb1:Unit=>⟨[],[],0⟩) (λb1=>yK b1=e1) ?_ ?_
 ·refine Q5 (Qj h (λs7:Int=>⟨Y0H list_ [(7,iV s7)],[],0⟩) (wkQ []) ?_);clear h;intro k7 s7 c7 h hk7;refine Q0 (runQ hN λK hK=>?_);simp;repeat refine sdQ ?_
  refine hK _ ?_;clear hK K;refine tn (Q0 (Q7 rfl (λg=>?_) λg=>?_))
  ·have g8:s7<(list_.length:Int):=gQ;clear g;replace h:=if_l g8 h;refine Q8 (tn (Q0 (Q5 (Q0 (runQ hN λK hK=>?_)))));replace⟨a9,h⟩:=Q1 h;simp[at_E (c:=QS) a9];(repeat refine sdQ ?_);refine hK _ ?_;clear hK K;refine tn (Q2 (st':=⟨(4,.rptr (Cat.cells true (gx list_ s7)))::Y0H list_ [(7,iV s7)],[],0⟩) (wkQ []) (Q0 (runQ hN λK hK=>?_)));simp;(repeat with_reducible refine sdQ ?_);replace⟨v10,hv10,h⟩:=bind_some h;refine Q3 (Q2r _ v10 hv10) (.cons (.preT (by simp[CN])) .nil) ?_;simp;(repeat refine sdQ ?_);refine hK _ ?_;clear hK K;refine tn (Q2 (st':=⟨Y0H list_ [(7,iV s7),(13,.val (.bool (!v10)))],[],0⟩) (wkQ []) (Q7 rfl (λg=>?_) λg=>?_))
   ·have g11:¬(v10=true):=gQ;clear g;replace h:=if_l g11 h;refine Q0 (runQ hN λK hK=>?_);simp;(repeat refine sdQ ?_);refine hK _ (tn (Q2 (st':=⟨YM [],[],0⟩) (wkQ []) (Qe (br (tr (lr (br (tr ?_))))))));clear hK K;cases h;have q:_=e1:=hk7;have h:=h1;rw[←q]at h;clear q;(try dsimp only at h);have hr:=yJ h;rw[←hr];refine⟨_,(.tmp .nil),?_⟩;refine⟨(.one rfl rfl .nil),[.val (.bool false)],[],by simp[BN],by simp,(yN _)⟩
   have g11:¬(¬(v10=true)):=gQ;clear g;replace h:=if_r g11 h;refine Q8 (bn (tn (runQ hN λK hK=>?_)));replace⟨a12,h⟩:=Q1 h;simp[Qh a12];(repeat refine sdQ ?_);refine hK _ ?_;clear hK K;cases h;exact rn (s':=s7+1) hk7 (wkQ [])
  have g8:¬(s7<(list_.length:Int)):=gQ;clear g;replace h:=if_r g8 h;refine Ql (tx (lx (bh ?_)));cases h;exact jn (b:=()) hk7 (wkQ [])
 intro b1 hb1;have h:=h1;try rw[←hb1]at h
 clear h1;try dsimp only at h
 refine Q0 (runQ hN λK hK=>?_);simp;repeat refine sdQ ?_
 refine hK _ (tn (Q2 (st':=⟨Y0u [],[],0⟩) (wkQ []) (Qe ?_)));clear hK K;have hr:=yJ h;rw[←hr];refine⟨_,(.tmp .nil),?_⟩;refine⟨(.one rfl rfl .nil),[.val (.bool true)],[],by simp[BN],by simp,(yN _)⟩
attribute [local simp] unk unA unE unT unC flat eL eI Qc QS Q2i Cat.cells Fn.cells
def Q13(f_:Fn):Option Bool:=
 (
  (Q1u [f_.s,f_.t]).bind λv2=>
  if v2=true then
   (Q1K f_).bind λv4=>
   some v4
  else
   some false:Option (Bool)).bind λb1=>
 some b1
theorem Q47(f_:Fn)(r:Bool)(h:Q13 f_=some r):Contract Try.prog 52 [.rptr (f_.cells true)] (.val (.bool r)):=by
 refine Q6 (rvs:=[.tmp 2]) (rs:=[.val (.bool r)]) Try.func52 rfl rfl rfl rfl (by simp[Try.f52]) λF hN hP=>?_;unfold Q13 at h;refine Q0 (runQ hN λK hK=>?_);simp;repeat refine sdQ ?_
 refine hK _ (tn (Q2 (st':=⟨Yv f_ [],[],0⟩) (wkQ []) (Q0 ?_)));clear hK K;replace⟨e1,h,h1⟩:=bind_some h;refine Q9 (λb1:Bool=>⟨[(2,.val (.bool b1))],[],0⟩) (λb1=>b1=e1) ?_ ?_
 ·refine runQ hN λK hK=>?_;simp;repeat with_reducible refine sdQ ?_
  replace⟨v2,hv2,h⟩:=bind_some h;refine Q3 (Q5a _ v2 hv2) (.cons (.lits (es:=_) rfl (.cons rfl (.cons (.preT (by simp[CN])) .nil) (.cons rfl (.cons (.preT (by simp[CN])) .nil) .nil)) rfl) .nil) ?_;simp;repeat with_reducible refine sdQ ?_
  refine Qa (λg=>?_) (λg=>?_)
  ·have g3:v2=true:=gQ;clear g;replace h:=if_l g3 h;simp;(repeat with_reducible refine sdQ ?_);replace⟨v4,hv4,h⟩:=bind_some h;refine Q3 (Q5v _ v4 hv4) (.cons (.preT (by simp[CN])) .nil) ?_;simp;(repeat refine sdQ ?_);refine hK _ ?_;exact jn (b:=v4) (yJ h) (wkQ [])
  have g3:¬(v2=true):=gQ;clear g;replace h:=if_r g3 h;simp;repeat refine sdQ ?_
  refine hK _ ?_;exact jn (b:=false) (yJ h) (wkQ [])
 intro b1 hb1;have h:=h1;try rw[←hb1]at h
 clear h1;try dsimp only at h
 refine Qe ?_;have hr:=yJ h;rw[←hr];refine⟨_,(.tmp .nil),?_⟩;refine⟨(.one rfl rfl .nil),[.val (.bool b1)],[],by simp[BN],by simp,(yN _)⟩
attribute [local simp] unk unA unE unT unC flat
def Q1A(c_:Cat)(f_:Int)(g_:Int):Option Int:=
 ass (0≤f_∧f_<(c_.cs.length:Int))<|
 ass (0≤g_∧g_<((rx c_.cs f_).length:Int))<|
 some (ix (rx c_.cs f_) g_)
@[simp] abbrev Y03(a b:Int)(c:List (Nat×AV)):List (Nat×AV):=(1,iV a)::(2,iV b)::(3,.adr 0 0 0)::c
theorem Q6f(c_:Cat)(f_:Int)(g_:Int)(r:Int)(h:Q1A c_ f_ g_=some r):Contract Try.prog 120 [.agg (c_.cells true),iV f_,iV g_] (iV r):=by
 refine Q6 (rvs:=[.tmp 6]) (rs:=[iV r]) Try.func120 rfl rfl rfl rfl (by simp[Try.f120]) λF hN hP=>?_;unfold Q1A at h;refine Q0 (runQ hN λK hK=>?_);simp[eL,eI,Qc,QS,Cat.cells];repeat refine sdQ ?_
 refine hK _ ?_;clear hK K;refine tn (Q2 (st':=⟨Y03 f_ g_ [],Y04 c_ [],1⟩) (wkQ [(0,0)]) (Q0 (runQ hN λK hK=>?_)));replace⟨a1,h⟩:=Q1 h;replace⟨a2,h⟩:=Q1 h;simp[eL,eI,Qc,QS,Cat.cells,at_L a1,at_I a2];repeat refine sdQ ?_
 refine hK _ (tn (Q2 (st':=⟨[(6,iV (ix (rx c_.cs f_) g_))],[],0⟩) (wkQ []) (Qe ?_)));clear hK K;have hr:=yJ h;rw[←hr];refine⟨_,(.tmp .nil),?_⟩;refine⟨(.one rfl rfl .nil),[iV (ix (rx c_.cs f_) g_)],[],by simp[BN],by simp,(yN _)⟩
section
attribute [local simp] Qi QP Qv Q1l QN
structure Para(f g:Fn):Prop where
 hf:f.Is
 hg:g.Is
 s:f.s=g.s
 t:f.t=g.t
theorem e_l02Then{c:Cat}{f g:Int}(h0:0≤f∧f<(c.cs.length:Int))(h1:0≤g∧g<((rx c.cs f).length:Int)):Q1A c f g=some (ix (rx c.cs f) g):=by
 unfold Q1A;rw[Q4 h0,Q4 h1]
theorem Q8b{c:Cat}{f g:Int}(h0:0≤f∧f<(c.cs.length:Int))(h1:0≤g∧g<((rx c.cs f).length:Int)):Qq c f g=some (ix (rx c.cs f) g):=by
 unfold Qq;rw[Q4 h0.1,Q4 h0.2,Q4 h1.1,Q4 h1.2]
theorem e_fits{f:Fn}(h1:f.s.Is)(h2:f.t.Is):Q1K f=some (bo f.Is):=by
 have hs:=h1.1;have ht:=h2.1;have k0:=hs.n0;have k1:=hs.n8;have k2:=hs.m40;have k3:=hs.li;have k4:=hs.lt;have k5:=hs.lc;have k6:=ht.li;have k7:=ht.lt;have k8:=ht.lc;have k9:=ht.m40;have k10:=ht.n0;have k11:=ht.n8;have b1:B64 (f.t.n - 1):=⟨by omega,by omega⟩;have b2:B64 ((f.t.fr.length:Int) - 1):=⟨by omega,by omega⟩;unfold Q1K
 by_cases h3:(f.ob.length:Int)=f.s.n
 case neg=>rw[Qd (show¬f.Is from λq=>h3 q.lo)];simp[h3]
 by_cases h4:(f.ar.length:Int)=f.s.fr.length
 case neg=>rw[Qd (show¬f.Is from λq=>h4 (by rw[q.la]))];simp[Qz,h3,h4]
 by_cases h5:f.ob.all (inR f.t.n)=true
 case neg=>rw[Qd (show¬f.Is from λq=>h5 (all_inR.2 q.ob))];simp[Qz,Q1v,Q4 b1,h3,h4,h5]
 by_cases h6:f.ar.all (inR f.t.fr.length)=true
 case neg=>rw[Qd (show¬f.Is from λq=>h6 (all_inR.2 q.ar))];simp[Qz,Q1v,Q4 b1,Q4 b2,h3,h4,h5,h6]
 have ho:=all_inR.1 h5;have ha:=all_inR.1 h6;simp only[Qz,Q1v,Q4 b1,Q4 b2,h3,h4,h5,h6,yA,if_true,if_false,not_true_eq_false,Bool.not_true,zM];refine Q2S f.s.fr.length (λa:Nat=>ix f.t.fr (ix f.ar a)=ix f.ob (ix f.s.fr a)∧ix f.t.to (ix f.ar a)=ix f.ob (ix f.s.to a)) (eb:=yL false) (eg:=yK ()) (by omega) (λa hi hp=>?_) (λa hi hp=>?_) (by simp) (λhx=>?_) λq1=>?_
 ·have:=hs.frn hi;have:=ha a (by omega);simp(disch:=omega) [Q4,B64,hp.1,hp.2,hi]
 ·have:=hs.frn hi;have:=ha a (by omega)
  by_cases hp1:ix f.t.fr (ix f.ar a)=ix f.ob (ix f.s.fr a)
  ·have hp2:¬ix f.t.to (ix f.ar a)=ix f.ob (ix f.s.to a):=λh=>hp ⟨hp1,h⟩;simp(disch:=omega) [Q4,B64,hp1,hp2,hi]
  simp(disch:=omega) [Q4,B64,hp1,hi]
 ·rw[Qd (show¬f.Is from λq=>hx q.ends)]
 simp only;refine Q2S f.s.id.length (λx:Nat=>ix f.ar (ix f.s.id x)=ix f.t.id (ix f.ob x)) (eb:=yL false) (eg:=yK ()) (by omega) (λa hi hp=>?_) (λa hi hp=>?_) (by simp) (λhx=>?_) λq2=>?_
 ·have:=hs.idn hi;have:=ho a (by omega);simp(disch:=omega) [Q4,B64,hp,hi]
 ·have:=hs.idn hi;have:=ho a (by omega);simp(disch:=omega) [Q4,B64,hp,hi]
 ·rw[Qd (show¬f.Is from λq=>hx q.ids)]
 simp only;refine Q2S f.s.fr.length (λa:Nat=>∀b:Nat,b<f.s.fr.length→ix f.s.to a=ix f.s.fr b→ix f.ar (ix (rx f.s.cs a) b)=ix (rx f.t.cs (ix f.ar a)) (ix f.ar b)) (eb:=yL false) (eg:=yK ()) (by omega) (λa hi hp=>?_) (λa hi hp=>?_) (by simp;omega) (λhx=>?_) λq3=>?_;rotate_left 2
 ·rw[Qd (show¬f.Is from λq=>hx q.comp)]
 ·rw[Qk (show f.Is from⟨h1,h2,h3,by omega,ho,ha,q1,q2,q3⟩)]
 all_goals
  have h8:=ha a (by omega);have h11:=hs.row' (j:=a) (by omega) (by omega);have h12:=ht.row' (j:=ix f.ar a) (by omega) (by omega);rw[if_pos (by omega),Q4 (by omega),Option.bind_assoc];refine Q2S f.s.fr.length (λb:Nat=>ix f.s.to a=ix f.s.fr b→ix f.ar (ix (rx f.s.cs a) b)=ix (rx f.t.cs (ix f.ar a)) (ix f.ar b)) (eb:=yK false) (eg:=yL ()) (by omega) (λb hb hq=>?_) (λb hb hq=>?_) ?_ (λhn=>?_) λhn=>?_
 all_goals first
  |exact absurd hp hn
  |exact absurd hn hp
  |(simp(disch:=omega) [Q4,B64,h11];done)
  |skip
 all_goals
  have h13:=ha b (by omega);have h16:=hs.cell' (f:=a) (g:=b) (by omega) (by omega) (by omega) (by omega)
  by_cases h14:ix f.s.to a=ix f.s.fr b
  ·have h15:=hs.cmp (f:=a) (g:=b) (by omega) (by omega) (by omega) (by omega) h14;have h17:ix (rx f.s.cs a) b≥0:=h15.1;first
    |(have hq1:=hq h14;simp(disch:=omega) [Q4,B64,Q8b,h14,hq1,hb,h11,h17];done)
    |(have hq1:=λe=>hq (λ_=>e);simp(disch:=omega) [Q4,B64,Q8b,h14,hq1,hb,h11,h17];exact hq1)
  have h17:=h16.1 h14;first
   |(simp(disch:=omega) [Q4,B64,h14,hb,h11,h17];done)
   |exact absurd (λe=>absurd e h14) hq
theorem gx_nat{α:Type}[Inhabited α](xs:List α){i:Nat}(h:i<xs.length):gx xs i=xs[i]:=by simp[gx,qB,h]
theorem e_areCats(cs:List Cat)(hl:cs.length≤1048576):Q1u cs=some (bo (∀c∈cs,c.Is)):=by
 unfold Q1u;refine Q2S cs.length (λi:Nat=>(gx cs i).Is) (eb:=yL false) (eg:=yK ()) (by omega) (λa hi hp=>?_) (λa hi hp=>?_) (by simp) (λhx=>?_) λq1=>?_
 ·simp(disch:=omega) [Q4,B64,QE,Qk hp,hi]
 ·simp(disch:=omega) [Q4,B64,QE,Qd hp,hi]
 ·rw[Qd (show¬∀c∈cs,c.Is from λq=>hx λi hi=>q _ (by rw[gx_nat _ hi];exact yC hi))]
 rw[Qk (show∀c∈cs,c.Is from λc hc=>by obtain⟨i,hi,rfl⟩:=yQ hc;have:=q1 i hi;rwa[gx_nat _ hi]at this)]
theorem Q8c(f:Fn):Q13 f=some (bo f.Is):=by
 unfold Q13;rw[e_areCats _ (by simp)]
 by_cases h:f.s.Is∧f.t.Is
 ·rw[Qk (show∀c∈[f.s,f.t],c.Is by simpa using h)];simp[e_fits h.1 h.2]
 rw[Qd (show¬∀c∈[f.s,f.t],c.Is by simpa using h),Qd (show¬f.Is from λq=>h ⟨q.s,q.t⟩)];simp
end
attribute [local simp] unk unA unE unT unC flat eL eI Qc Q5M Q2i Adj.cells Fn.cells
def Q2C(f_:Fn)(g_:Fn)(unit_:List Int)(counit_:List Int):Option Adj:=
 (Q1J f_).bind λv1=>
 (Q1J g_).bind λv2=>
 (Q2J unit_).bind λv3=>
 (Q2J counit_).bind λv4=>
 some (⟨v1,v2,v3,v4⟩:Adj)
@[simp] abbrev Y4(a:List (Nat×Ent)):List (Nat×Ent):=(0,.mix 26 [(Y0M (nS::nS::nS::nS::Y0M [nS,nS,nS,nS,nS,nS]))])::a
@[simp] abbrev YU(a b:Fn)(c:List (Nat×Ent)):List (Nat×Ent):=(1,rI a.s.fr)::(2,rI a.s.to)::(3,rI a.s.id)::(4,.row 1 (Ls a.s.cs))::(5,rI a.t.fr)::(6,rI a.t.to)::(7,rI a.t.id)::(8,.row 1 (Ls a.t.cs))::(9,rI a.ob)::(10,rI a.ar)::(11,rI b.s.fr)::(12,rI b.s.to)::(13,rI b.s.id)::(14,.row 1 (Ls b.s.cs))::(15,rI b.t.fr)::(16,rI b.t.to)::(17,rI b.t.id)::(18,.row 1 (Ls b.t.cs))::(19,rI b.ob)::(20,rI b.ar)::c
@[simp] abbrev Y0L(a b:Fn)(c:List (AV)):List (AV):=iV a.s.n::.own 1 0 a.s.fr.length::.own 2 0 a.s.to.length::.own 3 0 a.s.id.length::.own 4 0 a.s.cs.length::iV a.t.n::.own 5 0 a.t.fr.length::.own 6 0 a.t.to.length::.own 7 0 a.t.id.length::.own 8 0 a.t.cs.length::.own 9 0 a.ob.length::.own 10 0 a.ar.length::iV b.s.n::.own 11 0 b.s.fr.length::.own 12 0 b.s.to.length::.own 13 0 b.s.id.length::.own 14 0 b.s.cs.length::iV b.t.n::.own 15 0 b.t.fr.length::.own 16 0 b.t.to.length::.own 17 0 b.t.id.length::.own 18 0 b.t.cs.length::.own 19 0 b.ob.length::.own 20 0 b.ar.length::c
theorem Q6n(f_:Fn)(g_:Fn)(unit_:List Int)(counit_:List Int)(r:Adj)(h:Q2C f_ g_ unit_ counit_=some r):Contract Try.prog 118 [.rptr (f_.cells true),.rptr (g_.cells true),lI unit_,lI counit_] (.agg (r.cells true)):=by
 refine Q6 (rvs:=[.cell 8 57]) (rs:=[.agg (r.cells true)]) Try.func118 rfl rfl rfl rfl (by simp[Try.f118]) λF hN hP=>?_;unfold Q2C at h;refine Q0 (runQ hN λK hK=>?_);simp;repeat refine sdQ ?_
 refine hK _ ?_;clear hK K;refine tn (Q2 (st':=⟨Yv f_ [(1,.rptr (Fn.cells true g_)),(2,lI unit_),(3,lI counit_),(8,.adr 0 0 0)],Y4 [],1⟩) (wkQ [(0,0)]) (Q0 (runQ hN λK hK=>?_)));simp;repeat with_reducible refine sdQ ?_
 replace⟨v1,hv1,h⟩:=bind_some h;refine Q3 (Q3V _ v1 hv1) (.cons (.preT (by simp[CN])) .nil) ?_;simp;repeat with_reducible refine sdQ ?_
 replace⟨v2,hv2,h⟩:=bind_some h;refine Q3 (Q3V _ v2 hv2) (.cons (.preT (by simp[CN])) .nil) ?_;simp;repeat with_reducible refine sdQ ?_
 replace⟨v3,hv3,h⟩:=bind_some h;refine Q3 (Q4T _ v3 hv3) (.cons .lst .nil) ?_;simp;repeat with_reducible refine sdQ ?_
 replace⟨v4,hv4,h⟩:=bind_some h;refine Q3 (Q4T _ v4 hv4) (.cons .lst .nil) ?_;simp;repeat refine sdQ ?_
 refine hK _ (tn (Q2 (st':=⟨[(8,.adr 0 0 0)],(0,.mix 26 [(Y0L v1 v2 [.own 21 0 v3.length,.own 22 0 v4.length])])::YU v1 v2 [(21,rI v3),(22,rI v4)],23⟩) (wkQ [(0,0),(2,1),(3,2),(4,3),(5,4),(7,5),(8,6),(9,7),(10,8),(11,9),(12,10),(14,11),(15,12),(16,13),(17,14),(19,15),(20,16),(21,17),(22,18),(23,19),(24,20),(25,21),(26,22)]) (Qe ?_)));clear hK K;have hr:=yJ h;rw[←hr];refine⟨_,(.cell Q69 rfl rfl rfl (by simp) (by simp) .nil),?_⟩;refine⟨(.agg rfl .nil),[iV v1.s.n,lI v1.s.fr,lI v1.s.to,lI v1.s.id,.lst true 1 (Ls v1.s.cs),iV v1.t.n,lI v1.t.fr,lI v1.t.to,lI v1.t.id,.lst true 1 (Ls v1.t.cs),lI v1.ob,lI v1.ar,iV v2.s.n,lI v2.s.fr,lI v2.s.to,lI v2.s.id,.lst true 1 (Ls v2.s.cs),iV v2.t.n,lI v2.t.fr,lI v2.t.to,lI v2.t.id,.lst true 1 (Ls v2.t.cs),lI v2.ob,lI v2.ar,lI v3,lI v4],[1,2,3,4,5,6,7,8,9,10,11,12,13,14,15,16,17,18,19,20,21,22],by simp[BN],by simp,(yN _)⟩
section
attribute [local simp] Qi QP Qv Q1l QN
def tab{α:Type}(n:Nat)(g:Nat→α):List α:=(List.range n).map g
@[simp] theorem tab_length{α:Type}(n:Nat)(g:Nat→α):(tab n g).length=n:=by simp[tab]
theorem Q7e{α:Type}(n:Nat)(g:Nat→α):tab (n+1) g=tab n g++[g n]:=by simp[tab,List.range_succ]
theorem ix_tab(n:Nat)(g:Nat→Int){i:Nat}(h:i<n):ix (tab n g) i=g i:=by
 rw[←Q2e _ _ (show i<(tab n g).length by simpa using h)];simp[tab]
end
attribute [local simp] unk unA unE unT unC flat eL eI Qc QS Cat.cells
def QR(c_:Cat)(x_:Int)(y_:Int):Option (List Int):=
 (Qo (σ:=List Int×Int) (ε:=List Int) (λs11=>
  if s11.2<(c_.fr.length:Int)then
   (
    (
     ass (0≤s11.2∧s11.2<(c_.fr.length:Int))<|
     if(ix c_.fr s11.2)=x_ then
      ass (0≤s11.2∧s11.2<(c_.to.length:Int))<|
      some ((ix c_.to s11.2)==y_)
     else
      some false:Option (Bool)).bind λb14=>
    if b14=true then
     ass ((s11.1++[s11.2]).length≤1073741824)<|
     some (s11.1++[s11.2])
    else
     some s11.1:Option (List Int)).bind λb13=>
   ass (B64 (s11.2+1))<|
   some (yO (b13,s11.2+1))
  else
   some (yM s11.1)) fuel ([],0)).bind λb1=>
 some b1
@[simp] abbrev Y00(a:Cat)(b:Int)(c:List (Nat×AV)):List (Nat×AV):=(0,.rptr (Cat.cells true a))::(1,iV b)::c
theorem Q22(c_:Cat)(x_:Int)(y_:Int)(r:List Int)(h:QR c_ x_ y_=some r):Contract Try.prog 104 [.rptr (c_.cells true),iV x_,iV y_] (lI r):=by
 refine Q6 (rvs:=[.tmp 6]) (rs:=[lI r]) Try.func104 rfl rfl rfl rfl (by simp[Try.f104]) λF hN hP=>?_;unfold QR at h;refine Q0 (runQ hN λK hK=>?_);simp;repeat refine sdQ ?_
 refine hK _ ?_;clear hK K;refine tn (Q2 (st':=⟨Y00 c_ x_ [(2,iV y_)],[],0⟩) (wkQ []) (Q0 (runQ hN λK hK=>?_)));simp;repeat refine sdQ ?_
 refine hK _ ?_;clear hK K;refine tn (Q2 (st':=⟨Y00 c_ x_ [(2,iV y_),(7,.own 0 0 0)],[(0,.mix 1 [])],1⟩) (wkQ [(0,0)]) (Q0 (Q0 (runQ hN λK hK=>?_))));simp;repeat refine sdQ ?_
 refine hK _ (tn (Q2 (st':=⟨Y00 c_ x_ [(2,iV y_),(7,.own 0 0 0),(14,iV (c_.fr.length:Int)),(15,iV 0)],[(0,.mix 1 [])],1⟩) (wkQ [(0,0)]) ?_));clear hK K;replace⟨e1,h,h1⟩:=bind_some h;refine Q9 (λb1:List Int=>⟨[(7,.own 0 0 b1.length)],[(0,rI b1)],1⟩) (λb1=>b1=e1) ?_ ?_
 ·refine Q5 (Qj h (λs11:List Int×Int=>⟨Y00 c_ x_ [(2,iV y_),(7,.own 0 0 s11.1.length),(14,iV (c_.fr.length:Int)),(15,iV s11.2)],[(0,rI s11.1)],1⟩) (Q2Y ⟨Y00 c_ x_ [(2,iV y_),(7,.own 0 0 0),(14,iV (c_.fr.length:Int)),(15,iV 0)],[(0,rI [])],1⟩ (nlQ []) (wkQ [(0,0)])) ?_);clear h;intro k11 s11 c11 h hk11;refine Q0 (runQ hN λK hK=>?_);simp;repeat refine sdQ ?_
  refine hK _ ?_;clear hK K;refine tn (Q0 (Q7 rfl (λg=>?_) λg=>?_))
  ·have g12:s11.2<(c_.fr.length:Int):=gQ;clear g;replace h:=if_l g12 h;refine Q8 (tn (Q0 ?_));replace⟨e13,h,h13⟩:=bind_some h;refine Q9 (λb13:List Int=>⟨Y00 c_ x_ [(2,iV y_),(7,.own 0 0 b13.length),(14,iV (c_.fr.length:Int)),(15,iV s11.2)],[(0,rI b13)],1⟩) (λb13=>b13=e13) ?_ ?_
   ·refine Q5 (Q0 (runQ hN λK hK=>?_));simp;(repeat refine sdQ ?_);refine hK _ (tn (Q2 (st':=⟨Y00 c_ x_ [(2,iV y_),(7,.own 0 0 s11.1.length),(8,iV s11.2),(14,iV (c_.fr.length:Int)),(15,iV s11.2)],[(0,rI s11.1)],1⟩) (wkQ [(0,0)]) (Q0 ?_)));clear hK K;replace⟨e14,h,h14⟩:=bind_some h;refine Q9 (λb14:Bool=>⟨Y00 c_ x_ [(2,iV y_),(7,.own 0 0 s11.1.length),(8,iV s11.2),(14,iV (c_.fr.length:Int)),(15,iV s11.2),(37,.val (.bool b14))],[(0,rI s11.1)],1⟩) (λb14=>b14=e14) ?_ ?_
    ·refine runQ hN λK hK=>?_;replace⟨a15,h⟩:=Q1 h;simp[at_I a15];(repeat with_reducible refine sdQ ?_);refine Qa (λg=>?_) (λg=>?_)
     ·have g16:(ix c_.fr s11.2)=x_:=gQ;clear g;replace h:=if_l g16 h;replace⟨a17,h⟩:=Q1 h;simp[at_I a15,at_I a17];(repeat refine sdQ ?_);refine hK _ ?_;exact jn (b:=(ix c_.to s11.2)==y_) (yJ h) (wkQ [(0,0)])
     have g16:¬((ix c_.fr s11.2)=x_):=gQ;clear g;replace h:=if_r g16 h;simp[at_I a15];(repeat refine sdQ ?_);refine hK _ ?_;exact jn (b:=false) (yJ h) (wkQ [(0,0)])
    intro b14 hb14;have h:=h14;(try rw[←hb14]at h);clear h14;(try dsimp only at h);refine Q7 rfl (λg=>?_) λg=>?_
    ·have g18:b14=true:=gQ;clear g;replace h:=if_l g18 h;refine runQ hN λK hK=>?_;replace⟨a19,h⟩:=Q1 h;(try simp only[List.length_append,List.length_cons,List.length_nil]at a19);simp[a19];(repeat refine sdQ ?_);refine hK _ (bn ?_);clear hK K;exact jn (b:=s11.1++[s11.2]) (yJ h) (wkQ [(2,0)])
    have g18:¬(b14=true):=gQ;clear g;replace h:=if_r g18 h;refine Q8 (bn ?_);exact jn (b:=s11.1) (yJ h) (wkQ [(0,0)])
   intro b13 hb13;have h:=h13;(try rw[←hb13]at h);clear h13;(try dsimp only at h);refine runQ hN λK hK=>?_;replace⟨a20,h⟩:=Q1 h;simp[Qh a20];(repeat refine sdQ ?_);refine hK _ ?_;clear hK K;cases h;exact rn (s':=(b13,s11.2+1)) hk11 (wkQ [(0,0)])
  have g12:¬(s11.2<(c_.fr.length:Int)):=gQ;clear g;replace h:=if_r g12 h;refine Ql (tx (lx (bh ?_)));cases h;exact jn (b:=s11.1) hk11 (wkQ [(0,0)])
 intro b1 hb1;have h:=h1;try rw[←hb1]at h
 clear h1;try dsimp only at h
 refine Q0 (runQ hN λK hK=>?_);simp;repeat refine sdQ ?_
 refine hK _ (tn (Q2 (st':=⟨[(6,.own 0 0 b1.length)],[(0,rI b1)],1⟩) (wkQ [(0,0)]) (Qe ?_)));clear hK K;have hr:=yJ h;rw[←hr];refine⟨_,(.tmp .nil),?_⟩;refine⟨(.one rfl rfl .nil),[lI b1],[0],by simp[BN],by simp,(yN _)⟩
end Go.Vc.T
