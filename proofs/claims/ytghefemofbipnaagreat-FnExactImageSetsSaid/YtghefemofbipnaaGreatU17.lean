/- A part of the proof: a verified generator of conditions, and what each function of the program does. -/
import Derived.Test.YtghefemofbipnaaGreatU16
set_option maxRecDepth 100000
set_option maxHeartbeats 4000000
set_option linter.unusedSimpArgs false
set_option linter.unusedVariables false
set_option linter.unusedSectionVars false
set_option linter.unnecessarySimpa false

namespace Go.Vc.T
open Go Go.Vc Go.Proofs
section
attribute [local simp] Qg QD Qr Q1j QO
@[simp] theorem ze93:elm Tryz.prog 135=some 4:=by kernel_rfl
@[simp] theorem z4:tyi Tryz.prog 4=some ⟨false,1,1,[.bool false]⟩:=by kernel_rfl
def bsF (f:List Int) (n:Nat):Nat→List Bool
 | 0=>List.replicate n false
 | i+1=>(bsF f n i).set (ix f i).toNat true
def mkF (bs:List Bool) (i:Nat):List Int:=((List.range i).filter fun k=>bs.getD k false).map fun k:Nat=>(k:Int)
theorem mkF_succ (bs:List Bool) (i:Nat):mkF bs (i+1)=mkF bs i++(if bs.getD i false=true then [(i:Int)] else []):=by
 simp only [mkF,List.range_succ,List.filter_append,List.map_append]
 congr 1
 cases h:bs.getD i false
 ·rw [List.filter_cons_of_neg (by rw [h];decide)];rfl
 rw [List.filter_cons_of_pos (by rw [h])];rfl
theorem mkF_len (bs:List Bool):∀ i,(mkF bs i).length≤i:=by
 intro i;simp only [mkF,List.length_map];exact Nat.le_trans (List.length_filter_le _ _) (by simp)
def imgL (n:Nat) (f:List Int):List Int:=mkF (bsF f n f.length) n
def SM.I1 (m:SM):Prop:=∀ x:Nat,x<m.p.length→(imgL (ix m.t.sz x).toNat (rx m.p x)).length=(rx m.p x).length
def Bs (bs:List Bool):List (List AV):=bs.map fun b=>[.val (.bool b)]
@[simp] theorem Bs_length (bs:List Bool):(Bs bs).length=bs.length:=by simp [Bs]
@[simp] theorem Bs_at' (bs:List Bool) (i:Nat) (h:i<(Bs bs).length):(Bs bs)[i]=[.val (.bool (bs[i]'(by simpa using h)))]:=by simp [Bs]
@[simp] theorem Bs_set (bs:List Bool) (i:Nat) (b:Bool):(Bs bs).set i [.val (.bool b)]=Bs (bs.set i b):=by simp [Bs,List.map_set]
@[simp] theorem Bs_rep (n:Nat) (b:Bool):List.replicate n [.val (.bool b)]=Bs (List.replicate n b):=by simp [Bs]
theorem iq72 [Kd Tryz.prog] (u:Bool) (xs:List Int) (n:Int):Contract Tryz.prog 107 [.lst u 1 (Is xs),iV n] (.val (.bool (bo (n∈xs)))):=by
 refine Q4 (rs:=[.val (.bool (bo (n∈xs)))]) Tryz.func107 rfl rfl rfl rfl (by simp [Tryz.f107]) fun F hN hP=>?_;refine Q3J 0 fun h0=>?_;simp at h0;obtain ⟨hl0,hb0⟩:=h0.is;refine srQ hN fun K hK=>?_;simp;refine hK _ ?_;clear hK K;refine Q2 (srQ hN fun K hK=>?_);simp;refine hK _ (Q5 (Qv (fun i:Nat=>⟨[(0,.lst u 1 (Is xs)),(1,iV n),(5,iV i)],[],0⟩) (fun i=>i≤xs.length∧∀ y:Nat,y<i→ix xs y ≠ n) (fun i=>xs.length - i) 0 (by simp) (Wk.cut (by simp) (by simp) rfl) ?_));clear hK K
 rintro i ⟨hi,ht⟩
 refine Q2 (srQ hN fun K hK=>?_);simp;refine hK _ ?_;clear hK K;refine Q6 rfl (fun h=>?_) fun h=>?_
 ·simp at h;refine Q7 (Q2 (Q5 (srQ hN fun K hK=>?_)));simp [h,QI];refine hK _ ?_;clear hK K;refine Q6 rfl (fun h2=>?_) fun h2=>?_
  ·simp at h2;refine srQ hN fun K hK=>?_;simp;refine hK _ (Qh (Q9 rfl (bo_t ?_)));clear hK K;rw [← h2,← QI _ _ h];exact List.getElem_mem h
  simp at h2;refine Q7 (runQ hN fun K hK=>?_);simp;refine hK _ ?_;clear hK K;rw [Qe (n:=xs.length) (by omega) (by omega)];refine ⟨i+1,⟨by omega,Qo ht h2⟩,by dsimp only;omega,(Wk.relabel [] (by simp) (by simp) (by rw [hP];simp) (by simp) (by simp) (by simp) (by simp))⟩
 simp at h;have hi2:i=xs.length:=by omega
 refine Ql ?_;simp;refine srQ hN fun K hK=>?_;simp;refine hK _ (Qh (Q9 rfl (bo_f fun hm=>?_)));clear hK K;obtain ⟨y,hy,e⟩:=List.getElem_of_mem hm;exact ht y (by omega) (by rw [← QI _ _ hy];exact e)
theorem iq86 [Kd Tryz.prog] (u:Bool) (bs:List Bool) (hb:bs.length≤1048576):Contract Tryz.prog 110 [.lst u 1 (Bs bs)] (lI (mkF bs bs.length)):=by
 refine Q4 (rs:=[lI (mkF bs bs.length)]) Tryz.func110 rfl rfl rfl rfl (by simp [Tryz.f110]) fun F hN hP=>?_;refine srQ hN fun K hK=>?_;simp;refine hK _ ?_;clear hK K;refine srQ hN fun K hK=>?_;simp;refine hK _ ?_;clear hK K;refine Q2 (srQ hN fun K hK=>?_);simp;refine hK _ (Q5 (Qv (fun i:Nat=>⟨[(3,.own 0 0 (mkF bs i).length),(7,.lst u 1 (Bs bs)),(8,iV bs.length),(9,iV i)],[(0,rI (mkF bs i))],1⟩) (fun i=>i≤bs.length) (fun i=>bs.length - i) 0 (by simp) (Wk.nils [] (by simp) (by simp) (by simp [nlA,mkF]) (by simp [entN,mkF]) (by simp)) ?_));clear hK K;intro i hi;refine srQ hN fun K hK=>?_;simp;refine hK _ ?_;clear hK K;refine Q2 (Q6 rfl (fun h=>?_) fun h=>?_)
 ·simp at h;have hm:=mkF_succ bs i;have hml:=mkF_len bs i;rw [List.getD_eq_getElem?_getD,List.getElem?_eq_getElem h,Option.getD_some] at hm;refine Q7 (Q2 (Q5 (srQ hN fun K hK=>?_)));simp [h];refine hK _ ?_;clear hK K;refine srQ hN fun K hK=>?_;simp;refine hK _ ?_;clear hK K;refine Q6 rfl (fun h2=>?_) fun h2=>?_
  ·rw [if_pos h2] at hm;refine runQ hN fun K hK=>?_;simp;refine ⟨by omega,hK _ ?_⟩;clear hK K;refine runQ hN fun K hK=>?_;simp;refine hK _ ?_;clear hK K;rw [Qe (n:=bs.length) (by omega) (by omega)];refine ⟨i+1,by omega,by dsimp only;omega,?_⟩;dsimp only;rw [hm];exact Wk.relabel [(2,0)] (by simp) (by simp) (by rw [hP];simp) (by simp) (by simp) (by simp) (by simp [List.take_of_length_le (l:=Is (mkF bs i)) (i:=(mkF bs i).length) (by simp),Is_snoc])
  rw [if_neg (by simp [h2])] at hm;refine Q7 (runQ hN fun K hK=>?_);simp;refine hK _ ?_;clear hK K;rw [Qe (n:=bs.length) (by omega) (by omega)];refine ⟨i+1,by omega,by dsimp only;omega,?_⟩;dsimp only;rw [hm,List.append_nil];exact Wk.relabel [(0,0)] (by simp) (by simp) (by rw [hP];simp) (by simp) (by simp) (by simp) (by simp)
 simp at h;have hi2:i=bs.length:=by omega
 subst hi2;refine Ql ?_;simp;refine srQ hN fun K hK=>?_;simp;refine hK _ ?_;clear hK K;refine Qh (Q3P rfl rfl (by simp) rfl)
end
section
attribute [local simp] Qg QD Qr Q1j QO
def Es {α:Type} (c:α→List AV) (xs:List α):List (List AV):=xs.map c
def gx {α:Type} [Inhabited α] (xs:List α) (j:Int):α:=xs.getD j.toNat default
def eB (b:Bool):List AV:=[.val (.bool b)]
def eI (b:Int):List AV:=[iV b]
def eL (x:List (List Int)):List AV:=[.lst true 1 (Ls x)]
section
variable {α:Type} {c:α→List AV}
@[simp] theorem Es_length (xs:List α):(Es c xs).length=xs.length:=by simp [Es]
@[simp] theorem Es_nil:Es c []=[]:=rfl
theorem Es_append (xs ys:List α):Es c (xs++ys)=Es c xs++Es c ys:=by simp [Es]
theorem Es_set' (xs:List α) (i:Nat) (x:α):Es c (xs.set i x)=(Es c xs).set i (c x):=by simp [Es,List.map_set]
theorem at_E [Inhabited α] {xs:List α} {j:Int} (h:0≤j∧j<(xs.length:Int)):(Es c xs)[j.toNat]? = some (c (gx xs j)):=by
 have h2:j.toNat<xs.length:=by omega
 simp [Es,gx,List.getD_eq_getElem?_getD,h2]
end
@[simp] theorem Cs_E (xs:List Cat):Cs xs=Es (Cat.cells true) xs:=rfl
@[simp] theorem Fs_E (xs:List Fn):Fs xs=Es (Fn.cells true) xs:=rfl
@[simp] theorem Ls_nil':Ls []=[]:=rfl
theorem Ls_append (xs ys:List (List Int)):Ls (xs++ys)=Ls xs++Ls ys:=by simp [Ls]
theorem at_I {xs:List Int} {j:Int} (h:0≤j∧j<(xs.length:Int)):(Is xs)[j.toNat]? = some [iV (ix xs j)]:=by
 have h2:j.toNat<xs.length:=by omega
 simp [Is,ix,List.getD_eq_getElem?_getD,h2]
theorem at_L {xs:List (List Int)} {j:Int} (h:0≤j∧j<(xs.length:Int)):(Ls xs)[j.toNat]? = some [lI (rx xs j)]:=by
 have h2:j.toNat<xs.length:=by omega
 simp [Ls,rx,List.getD_eq_getElem?_getD,h2]
@[simp] theorem Is_takeE (xs:List Int) (k:Nat):List.take k (Is xs)=Is (xs.take k):=by simp [Is,List.map_take]
@[simp] theorem Ls_takeA (xs:List (List Int)):List.take xs.length (Ls xs)=Ls xs:=List.take_of_length_le (by simp)
@[simp] theorem Us_takeA (xs:List Int):List.take xs.length (Us xs)=Us xs:=List.take_of_length_le (by simp)
@[simp] theorem u8_min:IntKind.u8.min=0:=rfl
@[simp] theorem u8_max:IntKind.u8.max=255:=rfl
@[simp] theorem Bs_nil':Bs []=[]:=rfl
theorem Bs_append (xs ys:List Bool):Bs (xs++ys)=Bs xs++Bs ys:=by simp [Bs]
theorem at_B {xs:List Bool} {j:Int} (h:0≤j∧j<(xs.length:Int)):(Bs xs)[j.toNat]? = some [.val (.bool (gx xs j))]:=by
 have h2:j.toNat<xs.length:=by omega
 simp [Bs,gx,List.getD_eq_getElem?_getD,h2]
theorem IA (xs ys:List Int):Is (xs++ys)=Is xs++Is ys:=Is_append xs ys
theorem I1 (x:Int) (xs:List Int):Is (x :: xs)=[iV x] :: Is xs:=rfl
theorem LA (xs ys:List (List Int)):Ls (xs++ys)=Ls xs++Ls ys:=Ls_append xs ys
theorem L1 (x:List Int) (xs:List (List Int)):Ls (x :: xs)=[lI x] :: Ls xs:=rfl
theorem BA (xs ys:List Bool):Bs (xs++ys)=Bs xs++Bs ys:=Bs_append xs ys
theorem B1 (x:Bool) (xs:List Bool):Bs (x :: xs)=[.val (.bool x)] :: Bs xs:=rfl
theorem EA {α:Type} {c:α→List AV} (xs ys:List α):Es c (xs++ys)=Es c xs++Es c ys:=Es_append xs ys
theorem E1 {α:Type} {c:α→List AV} (x:α) (xs:List α):Es c (x :: xs)=c x :: Es c xs:=rfl
theorem E2 {α:Type} {c:α→List AV} (xs:List α) (i:Nat) (x:α):Es c (xs.set i x)=(Es c xs).set i (c x):=Es_set' xs i x
theorem rlLL_c {α:Type} {m:List (Nat × Nat)} {c:α→List AV} (h:∀ x,rlL m (c x)=c x):∀ xs:List α,rlLL m (xs.map c)=xs.map c:=by
 intro xs
 induction xs with
 | nil=>rfl
 | cons a r ih=>simp only [List.map_cons,rlLL,h,ih]
@[simp] theorem rlLL_Es {α:Type} (m:List (Nat × Nat)) (c:α→List AV) (xs:List α) (h:∀ x,rlL m (c x)=c x):rlLL m (Es c xs)=Es c xs:=rlLL_c h xs
@[simp] theorem rlLL_append (m:List (Nat × Nat)) (xs ys:List (List AV)):rlLL m (xs++ys)=rlLL m xs++rlLL m ys:=by
 induction xs with
 | nil=>rfl
 | cons a r ih=>simp only [List.cons_append,rlLL,ih]
@[simp] theorem Es_rep0 (n:Nat):Es eL (List.replicate n [])=List.replicate n [AV.lst true 1 []]:=by simp [Es,eL]
theorem Es_st {α:Type} {c:α→List AV} {xs:List α} {i:Nat} {x:α} {b:AV} (h1:∀ y,(c y).length=1) (h2:c x=[b]):(Es c xs).set i (((Es c xs).getD i []).set 0 b)=Es c (xs.set i x):=by
 by_cases h:i<xs.length
 ·rw [Es_set',h2];congr 1;have h3:=h1 xs[i];simp only [Es,List.getD_eq_getElem?_getD,List.getElem?_map,List.getElem?_eq_getElem h,Option.map_some,Option.getD_some]
  match c xs[i],h3 with
  | [a],_=>rfl
 rw [List.set_eq_of_length_le (by simp;omega),List.set_eq_of_length_le (by omega)]
end
end Go.Vc.T
