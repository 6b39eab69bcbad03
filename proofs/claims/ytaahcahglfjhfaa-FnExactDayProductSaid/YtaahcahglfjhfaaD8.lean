/- A part of the proof: a verified generator of conditions, and what each function of the program does. -/
import Derived.Test.YtaahcahglfjhfaaD7
set_option maxRecDepth 100000
set_option maxHeartbeats 4000000
set_option linter.unusedSimpArgs false
set_option linter.unusedVariables false

namespace Go.Vc.T
open Go Go.Vc Go.Proofs
section
attribute [local simp] Qa Qy Qq QK Qu
def Es {α:Type} (c:α→List AV) (xs:List α):List (List AV):=xs.map c
def gx {α:Type} [Inhabited α] (xs:List α) (j:Int):α:=xs.getD j.toNat default
def eB (b:Bool):List AV:=[.val (.bool b)]
def eI (b:Int):List AV:=[iV b]
def eL (x:List (List Int)):List AV:=[.lst true 1 (Ls x)]
section
variable {α:Type} {c:α→List AV}
@[simp] theorem Es_length (xs:List α):(Es c xs).length=xs.length:=by simp [Es]
@[simp] theorem Es_nil:Es c []=[]:=rfl
theorem Es_append (xs ys:List α):Es c (xs++ys)=Es c xs++Es c ys:=by simp [Es]
theorem Es_set' (xs:List α) (i:Nat) (x:α):Es c (xs.set i x)=(Es c xs).set i (c x):=by simp [Es,List.map_set]
theorem at_E [Inhabited α] {xs:List α} {j:Int} (h:0≤j∧j<(xs.length:Int)):(Es c xs)[j.toNat]? = some (c (gx xs j)):=by
 have h2:j.toNat<xs.length:=by omega
 simp [Es,gx,List.getD_eq_getElem?_getD,h2]
end
@[simp] theorem Cs_E (xs:List Cat):Cs xs=Es (Cat.cells true) xs:=rfl
@[simp] theorem Fs_E (xs:List Fn):Fs xs=Es (Fn.cells true) xs:=rfl
@[simp] theorem Ls_nil':Ls []=[]:=rfl
theorem Ls_append (xs ys:List (List Int)):Ls (xs++ys)=Ls xs++Ls ys:=by simp [Ls]
theorem at_I {xs:List Int} {j:Int} (h:0≤j∧j<(xs.length:Int)):(Is xs)[j.toNat]? = some [iV (ix xs j)]:=by
 have h2:j.toNat<xs.length:=by omega
 simp [Is,ix,List.getD_eq_getElem?_getD,h2]
theorem at_L {xs:List (List Int)} {j:Int} (h:0≤j∧j<(xs.length:Int)):(Ls xs)[j.toNat]? = some [lI (rx xs j)]:=by
 have h2:j.toNat<xs.length:=by omega
 simp [Ls,rx,List.getD_eq_getElem?_getD,h2]
@[simp] theorem Is_takeE (xs:List Int) (k:Nat):List.take k (Is xs)=Is (xs.take k):=by simp [Is,List.map_take]
@[simp] theorem Ls_takeA (xs:List (List Int)):List.take xs.length (Ls xs)=Ls xs:=List.take_of_length_le (by simp)
@[simp] theorem Us_takeA (xs:List Int):List.take xs.length (Us xs)=Us xs:=List.take_of_length_le (by simp)
@[simp] theorem u8_min:IntKind.u8.min=0:=rfl
@[simp] theorem u8_max:IntKind.u8.max=255:=rfl
@[simp] theorem Es_takeA {α:Type} {c:α→List AV} (xs:List α):List.take xs.length (Es c xs)=Es c xs:=List.take_of_length_le (by simp)
@[simp] theorem Bs_nil':Bs []=[]:=rfl
theorem Bs_append (xs ys:List Bool):Bs (xs++ys)=Bs xs++Bs ys:=by simp [Bs]
theorem IA (xs ys:List Int):Is (xs++ys)=Is xs++Is ys:=Is_append xs ys
theorem I1 (x:Int) (xs:List Int):Is (x :: xs)=[iV x] :: Is xs:=rfl
theorem LA (xs ys:List (List Int)):Ls (xs++ys)=Ls xs++Ls ys:=Ls_append xs ys
theorem L1 (x:List Int) (xs:List (List Int)):Ls (x :: xs)=[lI x] :: Ls xs:=rfl
theorem BA (xs ys:List Bool):Bs (xs++ys)=Bs xs++Bs ys:=Bs_append xs ys
theorem B1 (x:Bool) (xs:List Bool):Bs (x :: xs)=[.val (.bool x)] :: Bs xs:=rfl
theorem EA {α:Type} {c:α→List AV} (xs ys:List α):Es c (xs++ys)=Es c xs++Es c ys:=Es_append xs ys
theorem E1 {α:Type} {c:α→List AV} (x:α) (xs:List α):Es c (x :: xs)=c x :: Es c xs:=rfl
theorem E2 {α:Type} {c:α→List AV} (xs:List α) (i:Nat) (x:α):Es c (xs.set i x)=(Es c xs).set i (c x):=Es_set' xs i x
theorem rlLL_c {α:Type} {m:List (Nat × Nat)} {c:α→List AV} (h:∀ x,rlL m (c x)=c x):∀ xs:List α,rlLL m (xs.map c)=xs.map c:=by
 intro xs
 induction xs with
 | nil=>rfl
 | cons a r ih=>simp only [List.map_cons,rlLL,h,ih]
@[simp] theorem rlLL_Ls (m:List (Nat × Nat)) (xs:List (List Int)):rlLL m (Ls xs)=Ls xs:=rlLL_c (fun _=>rfl) xs
@[simp] theorem Qd {α:Type} (m:List (Nat × Nat)) (c:α→List AV) (xs:List α) (h:∀ x,rlL m (c x)=c x):rlLL m (Es c xs)=Es c xs:=rlLL_c h xs
@[simp] theorem rlLL_append (m:List (Nat × Nat)) (xs ys:List (List AV)):rlLL m (xs++ys)=rlLL m xs++rlLL m ys:=by
 induction xs with
 | nil=>rfl
 | cons a r ih=>simp only [List.cons_append,rlLL,ih]
end
section
attribute [local simp] Qa Qy Qq QK Qu
def Q1L (x:Cat):List AV:=[.rptr (x.cells true)]
def Q8g (x:SF):List AV:=[.rptr (x.cells true)]
instance:Inhabited Cat:=⟨⟨0,[],[],[],[]⟩⟩
instance:Inhabited SF:=⟨⟨default,[],[]⟩⟩
structure Ends where
 a:Int
 b:Int
def Ends.cells (u:Bool) (f:Ends):List AV:=[iV f.a,iV f.b]
instance:Inhabited Ends:=⟨⟨default,default⟩⟩
def eP_Ends (x:Ends):List AV:=[.rptr (x.cells true)]
structure XClassifier where
 sets_:SF
 sieves_:List (List (List Int))
def XClassifier.cells (u:Bool) (f:XClassifier):List AV:=[iV f.sets_.s.n,.lst u 1 (Is f.sets_.s.fr),.lst u 1 (Is f.sets_.s.to),.lst u 1 (Is f.sets_.s.id),.lst u 1 (Ls f.sets_.s.cs),.lst u 1 (Is f.sets_.sz),.lst u 1 (Ls f.sets_.ac),.lst u 1 (Es eL f.sieves_)]
structure XDayAt where
 lists_:List (List Int)
 at_:List (ByteArray × Int)
 classes_:List Int
def XDayAt.cells (u:Bool) (f:XDayAt):List AV:=[.lst u 1 (Ls f.lists_),.cmap .str (Msi f.at_),.lst u 1 (Is f.classes_)]
instance:Inhabited XDayAt:=⟨⟨default,default,default⟩⟩
def Qv (x:XDayAt):List AV:=[.rptr (x.cells true)]
structure XMonoidal where
 on_:Cat
 unit_:Int
 objects_:List (List Int)
 arrows_:List (List Int)
def XMonoidal.cells (u:Bool) (f:XMonoidal):List AV:=[iV f.on_.n,.lst u 1 (Is f.on_.fr),.lst u 1 (Is f.on_.to),.lst u 1 (Is f.on_.id),.lst u 1 (Ls f.on_.cs),iV f.unit_,.lst u 1 (Ls f.objects_),.lst u 1 (Ls f.arrows_)]
instance:Inhabited XMonoidal:=⟨⟨default,default,default,default⟩⟩
def Q6 (x:XMonoidal):List AV:=[.rptr (x.cells true)]
end
section
attribute [local simp] Qa Qy Qq QK Qu
@[simp] theorem bf_120_9:byS Try.prog 120 9=some 5:=by kernel_rfl
@[simp] theorem ef_59:elm Try.prog 59=some 23:=by kernel_rfl
@[simp] theorem ef_74:elm Try.prog 74=some 75:=by kernel_rfl
@[simp] theorem ef_79:elm Try.prog 79=some 2:=by kernel_rfl
@[simp] theorem ef_115:elm Try.prog 115=some 2:=by kernel_rfl
@[simp] theorem ef_120:elm Try.prog 120=some 5:=by kernel_rfl
@[simp] theorem ff_27_0:fld Try.prog 27 0=some (0,5,true):=by kernel_rfl
@[simp] theorem ff_27_1:fld Try.prog 27 1=some (5,1,false):=by kernel_rfl
@[simp] theorem ff_27_2:fld Try.prog 27 2=some (6,1,false):=by kernel_rfl
@[simp] theorem ff_27_3:fld Try.prog 27 3=some (7,1,false):=by kernel_rfl
@[simp] theorem ff_38_0:fld Try.prog 38 0=some (0,5,true):=by kernel_rfl
@[simp] theorem ff_38_1:fld Try.prog 38 1=some (5,1,false):=by kernel_rfl
@[simp] theorem ff_38_2:fld Try.prog 38 2=some (6,1,false):=by kernel_rfl
@[simp] theorem ff_38_3:fld Try.prog 38 3=some (7,1,false):=by kernel_rfl
@[simp] theorem ff_81_0:fld Try.prog 81 0=some (0,1,false):=by kernel_rfl
@[simp] theorem ff_81_1:fld Try.prog 81 1=some (1,1,false):=by kernel_rfl
@[simp] theorem ff_81_2:fld Try.prog 81 2=some (2,1,false):=by kernel_rfl
@[simp] theorem kf_2:intk Try.prog 2=some .i64:=by kernel_rfl
@[simp] theorem kf_5:intk Try.prog 5=some .u8:=by kernel_rfl
@[simp] theorem mf_78:mty Try.prog 78=some (.str,.int .i64 0):=by kernel_rfl
@[simp] theorem mf_153:mty Try.prog 153=some ((.int .i64),.int .i64 0):=by kernel_rfl
@[simp] theorem pf_81:Q3K Try.prog 81=some [(0,1),(1,1),(2,1)]:=by kernel_rfl
@[simp] theorem tf_5:tyi Try.prog 5=some ⟨false,1,1,[.int .u8 0]⟩:=by kernel_rfl
@[simp] theorem Q5a:tyi Try.prog 34=some ⟨true,7,152,[.int .i64 0,.slice none 0 0,.slice none 0 0,.slice none 0 0,.slice none 0 0,.slice none 0 0,.slice none 0 0]⟩:=by kernel_rfl
@[simp] theorem tf_38:tyi Try.prog 38=some ⟨true,8,160,[.int .i64 0,.slice none 0 0,.slice none 0 0,.slice none 0 0,.slice none 0 0,.int .i64 0,.slice none 0 0,.slice none 0 0]⟩:=by kernel_rfl
@[simp] theorem tf_75:tyi Try.prog 75=some ⟨false,1,8,[.pointer none]⟩:=by kernel_rfl
@[simp] theorem tf_78:tyi Try.prog 78=some ⟨false,1,8,[.map none]⟩:=by kernel_rfl
@[simp] theorem tf_79:tyi Try.prog 79=some ⟨false,1,24,[.slice none 0 0]⟩:=by kernel_rfl
@[simp] theorem tf_81:tyi Try.prog 81=some ⟨true,3,56,[.slice none 0 0,.map none,.slice none 0 0]⟩:=by kernel_rfl
end
section
attribute [local simp] Qa Qy Qq QK Qu
theorem toCat (u:Bool) (c:Cat) (hc:c.ok):Contract Try.prog 19 [.agg (c.cells u)] (.agg (c.cells true)):=c18 c u hc
theorem cszCat (u:Bool) (c:Cat) (l:Int) (h1:0≤l) (h2:l≤1048576):Contract Try.prog 17 [.agg (c.cells u),iV l] (iV (Q35 l c)):=c13 u c l h1 h2
theorem Q3R {l:Int} {f:Cat} (h:l≤1048576):Q35 l f≤1048576:=Q3Q h
theorem mu_len {ms:List Mu} (h:∀ u∈ms,u.fs.length=u.es.length):∀ j,j<ms.length→(ms.getD j .none).fs.length=(ms.getD j .none).es.length:=fun j hj=>by rw [List.getD_eq_getElem?_getD,List.getElem?_eq_getElem hj];exact h _ (List.getElem_mem hj)
theorem markCat (f:Cat) (k:Int) (hf:f.ok) (h2:0≤k) (h3:k+f.size≤576460752303423488):MContract Try.prog 22 [.agg [iV f.n,.own 0 0 f.fr.length,.own 1 0 f.to.length,.own 2 0 f.id.length,.own 3 0 f.cs.length],iV k] (f.mu k) (iV (k+f.size)):=by
 have q:=m31 f k hf h2 (by omega)
 rwa [show k+f.fr.length+f.to.length+f.id.length+sumL f.cs=k+f.size by simp [Cat.size,Int.add_assoc]] at q
theorem XMonoidal.pur {h:HP} {u v:Bool} {c:XMonoidal}:PurL h (c.cells u) (c.cells v):=.cons .val (.cons .lst (.cons .lst (.cons .lst (.cons .lst (.cons .val (.cons .lst (.cons .lst .nil)))))))
def XMonoidal.mark (k:Int) (f:XMonoidal):XMonoidal:=⟨f.on_.mark (k),f.unit_,runs (k+f.on_.size) f.objects_,runs (k+f.on_.size+sumL f.objects_) f.arrows_⟩
def XMonoidal.size (f:XMonoidal):Nat:=f.on_.size+sumL f.objects_+sumL f.arrows_
def XMonoidal.ok (f:XMonoidal):Prop:=f.on_.ok∧f.objects_.length≤1048576∧(∀ xs∈f.objects_,xs.length≤1048576)∧sumL f.objects_≤1099511627776∧f.arrows_.length≤1048576∧(∀ xs∈f.arrows_,xs.length≤1048576)∧sumL f.arrows_≤1099511627776
def XMonoidal.mu (f:XMonoidal) (k:Int):List Mu:=[⟨1,Is f.on_.fr,Is (f.mark k).on_.fr⟩,⟨1,Is f.on_.to,Is (f.mark k).on_.to⟩,⟨1,Is f.on_.id,Is (f.mark k).on_.id⟩,⟨1,Ls f.on_.cs,Ls (f.mark k).on_.cs⟩,⟨1,Ls f.objects_,Ls (f.mark k).objects_⟩,⟨1,Ls f.arrows_,Ls (f.mark k).arrows_⟩]
theorem XMonoidal.ok_size {f:XMonoidal} (h:f.ok):f.size≤3298538029056:=by
 obtain ⟨hon_,hobjects_1,hobjects_2,hobjects_3,harrows_1,harrows_2,harrows_3⟩:=h;have s_on_:=Cat.ok_size hon_;simp only [XMonoidal.size];omega
theorem Q6O (u v:Bool) (f:XMonoidal):Contract Try.prog 13 [.agg (f.cells u),.agg (f.cells v)] (.val (.bool true)):=by
 refine Q9 (rs:=[.val (.bool true)]) Try.func13 rfl rfl rfl rfl (by simp [Try.f13]) fun F hN hP=>?_;refine srQ hN fun K hK=>?_;simp [XMonoidal.cells];refine hK _ ?_;clear hK K;refine Q1 (srQ hN fun K hK=>?_);simp;refine Q2 (c26 u v f.on_) (.cons (.aggL Cat.pur) (.cons (.aggL Cat.pur) .nil)) ?_;simp [unk,unA,unE,flat];refine hK _ (Q7 rfl (fun h=>by simp at h) fun _=>?_);clear hK K;refine Q8 (Q1 (srQ hN fun K hK=>?_));simp;refine hK _ (Q7 rfl (fun h=>by simp at h) fun _=>?_);clear hK K;refine Q8 (Q1 (srQ hN fun K hK=>?_));simp;refine Q2 (c30 u v f.objects_) (.cons .lst (.cons .lst .nil)) ?_;simp [unk,unA,unE,flat];refine hK _ (Q7 rfl (fun h=>by simp at h) fun _=>?_);clear hK K;refine Q8 (Q1 (srQ hN fun K hK=>?_));simp;refine Q2 (c30 u v f.arrows_) (.cons .lst (.cons .lst .nil)) ?_;simp [unk,unA,unE,flat];refine hK _ (Q7 rfl (fun h=>by simp at h) fun _=>?_);clear hK K;refine Q8 (srQ hN fun K hK=>?_);simp;refine hK _ ?_;clear hK K;refine Qf (Qc rfl rfl)
theorem Q2Y (u:Bool) (f:XMonoidal) (hf:f.ok):Contract Try.prog 9 [.agg (f.cells u)] (.agg (f.cells true)):=by
 obtain ⟨hon_,hobjects_1,hobjects_2,hobjects_3,harrows_1,harrows_2,harrows_3⟩:=hf;refine Q19 Try.func9 rfl rfl tf_38 rfl rfl (by simp [Try.f9]) fun F hN hP=>?_;refine srQ hN fun K hK=>?_;simp [XMonoidal.cells];refine hK _ ?_;clear hK K;refine srQ hN fun K hK=>?_;simp;refine hK _ ?_;clear hK K;refine srQ hN fun K hK=>?_;simp;refine Q2 (toCat u f.on_ hon_) (.cons (.aggL Cat.pur) .nil) ?_;simp [unk,unA,unE,flat,unC,Cat.cells];refine hK _ ?_;clear hK K;refine srQ hN fun K hK=>?_;simp;refine hK _ ?_;clear hK K;refine srQ hN fun K hK=>?_;simp;refine Q2 (c20 u f.objects_ hobjects_1 hobjects_2) (.cons .lst .nil) ?_;simp [unk,unA,unE,flat];refine hK _ ?_;clear hK K;refine srQ hN fun K hK=>?_;simp;refine Q2 (c20 u f.arrows_ harrows_1 harrows_2) (.cons .lst .nil) ?_;simp [unk,unA,unE,flat];refine hK _ ?_;clear hK K;refine srQ hN fun K hK=>?_;simp;refine hK _ (Qf ⟨_,_,_,_,_,rfl,rfl,by simp,by simp,?_⟩);clear hK K;exact ⟨.agg rfl .nil,[iV f.on_.n,lI f.on_.fr,lI f.on_.to,lI f.on_.id,.lst true 1 (Ls f.on_.cs),iV f.unit_,.lst true 1 (Ls f.objects_),.lst true 1 (Ls f.arrows_)],[4,5,6,7,8,9],by simp,by simp,UpL.refl _⟩
def QG (l:Int) (f:XMonoidal):Int:=nn (Q35 l f.on_) fun a0=>nn (Q2a a0 f.objects_) fun a1=>nn (Q2a a1 f.arrows_) fun a2=>a2
theorem Q20 {l:Int} {f:XMonoidal} (h:l≤1048576):QG l f≤1048576:=Q55 (fun x0 h0 _=>Q55 (fun x1 h1 _=>Q55 (fun x2 h2 _=>by rw [← h2];exact Q2m (by rw [← h1];exact Q2m (by rw [← h0];exact Q3R h))) (by decide)) (by decide)) (by decide)
theorem Q59 {l:Int} {f:XMonoidal} (hl:l≤1048576) (h:0≤QG l f):f.ok:=by
 unfold QG at h;obtain ⟨p0,q0,_⟩:=Q56 h;have b0:=Q3R (f:=f.on_) hl;obtain ⟨p1,q1,_⟩:=Q56 q0;obtain ⟨e1,e1a,e1b,_⟩:=Q3H p1;have b1:=Q2m (xs:=f.objects_) b0;obtain ⟨p2,q2,_⟩:=Q56 q1;obtain ⟨e2,e2a,e2b,_⟩:=Q3H p2;have b2:=Q2m (xs:=f.arrows_) b1;exact ⟨Q88 hl p0,by omega,fun x hx=>by have:=e1b x hx;omega,by omega,by omega,fun x hx=>by have:=e2b x hx;omega,by omega⟩
theorem Q66 (u:Bool) (f:XMonoidal) (l:Int) (h1:0≤l) (h2:l≤1048576):Contract Try.prog 6 [.agg (f.cells u),iV l] (iV (QG l f)):=by
 refine Q9 (rs:=[iV (QG l f)]) Try.func6 rfl rfl rfl rfl (by simp [Try.f6]) fun F hN hP=>?_;refine srQ hN fun K hK=>?_;simp [XMonoidal.cells];refine hK _ ?_;clear hK K;refine srQ hN fun K hK=>?_;simp;refine Q2 (cszCat u f.on_ (l) h1 (h2)) (.cons (.aggL Cat.pur) (.cons .val .nil)) ?_;simp [unk,unA,unE,flat];refine hK _ ?_;clear hK K;refine Q1 (srQ hN fun K hK=>?_);simp;refine hK _ ?_;clear hK K;refine Q7 rfl (fun g1=>?_) fun g1=>?_
 ·simp at g1;refine srQ hN fun K hK=>?_;simp;refine hK _ (Qf (Qc rfl ?_));clear hK K;simp only [QG,nn];rw [if_pos g1]
 simp at g1;refine Q8 (srQ hN fun K hK=>?_);simp;refine Q2 (c15 u f.objects_ (Q35 (l) f.on_) g1 (Q3R (h2))) (.cons .lst (.cons .val .nil)) ?_;simp [unk,unA,unE,flat];refine hK _ ?_;clear hK K;refine Q1 (srQ hN fun K hK=>?_);simp;refine hK _ ?_;clear hK K;refine Q7 rfl (fun g2=>?_) fun g2=>?_
 ·simp at g2;refine srQ hN fun K hK=>?_;simp;refine hK _ (Qf (Qc rfl ?_));clear hK K;simp only [QG,nn];rw [if_neg (Int.not_lt.2 g1),if_pos g2]
 simp at g2;refine Q8 (srQ hN fun K hK=>?_);simp;refine Q2 (c15 u f.arrows_ (Q2a (Q35 (l) f.on_) f.objects_) g2 (Q2m (Q3R (h2)))) (.cons .lst (.cons .val .nil)) ?_;simp [unk,unA,unE,flat];refine hK _ ?_;clear hK K;refine Q1 (srQ hN fun K hK=>?_);simp;refine hK _ ?_;clear hK K;refine Q7 rfl (fun g3=>?_) fun g3=>?_
 ·simp at g3;refine srQ hN fun K hK=>?_;simp;refine hK _ (Qf (Qc rfl ?_));clear hK K;simp only [QG,nn];rw [if_neg (Int.not_lt.2 g1),if_neg (Int.not_lt.2 g2),if_pos g3]
 simp at g3;refine Q8 (srQ hN fun K hK=>?_);simp;refine hK _ (Qf (Qc rfl ?_));clear hK K;simp only [QG,nn];rw [if_neg (Int.not_lt.2 g1),if_neg (Int.not_lt.2 g2),if_neg (Int.not_lt.2 g3)]
theorem Q5M (f:XMonoidal) (k:Int) (hf:f.ok) (h2:0≤k) (h3:k+f.size≤576460752303423488) :
  MContract Try.prog 14 [.agg [iV f.on_.n,.own 0 0 f.on_.fr.length,.own 1 0 f.on_.to.length,.own 2 0 f.on_.id.length,.own 3 0 f.on_.cs.length,iV f.unit_,.own 4 0 f.objects_.length,.own 5 0 f.arrows_.length],iV k] (f.mu k) (iV (k+f.size)):=by
 obtain ⟨hon_,hobjects_1,hobjects_2,hobjects_3,harrows_1,harrows_2,harrows_3⟩:=hf;have hz:f.size=f.on_.size+sumL f.objects_+sumL f.arrows_:=rfl;refine Q1l (ts:=[4]) (rv:=.int .i64 (k+f.size)) Try.func14 rfl rfl ?_ rfl (by simp [Try.f14]) ?_ fun F hN hP=>?_
 ·have:(-9223372036854775808≤k+f.size)∧k+f.size≤9223372036854775807:=by omega
  simp [resV,this]
 ·exact mu_len (by simp [XMonoidal.mu,XMonoidal.mark,Cat.mark])
 refine srQ hN fun K hK=>?_;simp [Q44,XMonoidal.mu];refine hK _ ?_;clear hK K;refine Q3W mo (by rw [hN];decide) fun K hK=>?_;simp;refine Q1S (m:=[0,1,2,3]) (markCat f.on_ (k) hon_ (by omega) (by omega)) (by decide) (.cons rfl (.cons rfl (.cons rfl (.cons rfl .nil)))) (.cons (.aggL (.cons .val (.cons (.own (j:=0) (by decide)) (.cons (.own (j:=1) (by decide)) (.cons (.own (j:=2) (by decide)) (.cons (.own (j:=3) (by decide)) .nil)))))) (.cons .val .nil)) rfl (by simp) ?_;simp [Q3t,Cat.mu];refine hK _ ?_;clear hK K;refine Q3W mo (by rw [hN];decide) fun K hK=>?_;simp;refine Q1E (m33 f.objects_ (k+f.on_.size) hobjects_1 hobjects_2 (by omega) (by omega)) rfl (by simp) ?_;simp;refine hK _ ?_;clear hK K;refine Q3W mo (by rw [hN];decide) fun K hK=>?_;simp;refine Q1E (m33 f.arrows_ (k+f.on_.size+sumL f.objects_) harrows_1 harrows_2 (by omega) (by omega)) rfl (by simp) ?_;simp;refine hK _ ?_;clear hK K;refine srQ hN fun K hK=>?_;simp;refine hK _ ?_;clear hK K;refine Qf (mret ?_ ?_)
 ·simp [hz,Int.add_assoc]
 exact (.cons rfl (.cons rfl (.cons rfl (.cons rfl (.cons rfl (.cons rfl .nil))))))
end
section
attribute [local simp] Qa Qy Qq QK Qu
noncomputable def Q2U (x:Int) (a:Int) (b:Int):Option (Bool) :=
 some ((decide (a≤x) && decide (x≤b)))
theorem Q7p (x:Int) (a:Int) (b:Int) (r:Bool) (h:Q2U x a b=some r):Contract Try.prog 74 [iV x,iV a,iV b] (.val (.bool r)):=by
 unfold Q2U at h;cases h;exact c46 x a b
noncomputable def Q2j (xs:List Int) (n:Int):Option (Bool) :=
 ass (B64 (n - 1)) <| some ((xs.all (inR n)))
theorem Q5z (xs:List Int) (n:Int) (r:Bool) (h:Q2j xs n=some r):Contract Try.prog 90 [lI xs,iV n] (.val (.bool r)):=by
 unfold Q2j at h;replace ⟨hn,h⟩:=Q0 h;cases h;exact c22 true xs n hn
noncomputable def Q3p (n:Int) (xs:List Int):Option (Bool) :=
 some ((xs.all (inR n)))
theorem Q8N (n:Int) (xs:List Int) (r:Bool) (h:Q3p n xs=some r):Contract Try.prog 105 [iV n,lI xs] (.val (.bool r)):=by
 unfold Q3p at h;cases h;exact c57 true xs n
noncomputable def Q1d (c:Cat):Option (Int) :=
 some (c.fr.length)
theorem Q3y (c:Cat) (r:Int) (h:Q1d c=some r):Contract Try.prog 76 [.rptr (c.cells true)] (iV r):=by
 unfold Q1d at h;cases h;have q:=c61 true c [];simp only [List.append_nil] at q;exact q
noncomputable def Q3q (c:Cat):Option (Cat) :=
 ass (c.ok) <| some (c)
theorem Q8O (c:Cat) (r:Cat) (h:Q3q c=some r):Contract Try.prog 33 [.agg (c.cells true)] (.agg (r.cells true)):=by
 unfold Q3q at h;replace ⟨hc,h⟩:=Q0 h;cases h;exact c41 true c hc
noncomputable def Q1o (c:Cat):Option (Cat) :=
 ass (c.ok) <| some (c)
theorem Q4a (c:Cat) (r:Cat) (h:Q1o c=some r):Contract Try.prog 44 [.rptr (c.cells true)] (.agg (r.cells true)):=by
 unfold Q1o at h;replace ⟨hc,h⟩:=Q0 h;cases h;have q:=c23 true c [] hc;simp only [List.append_nil] at q;exact q
noncomputable def Qx (c:Cat) (f:Int) (g:Int):Option (Int) :=
 ass (0≤f) <| ass (f<c.cs.length) <| ass (0≤g) <| ass (g<(rx c.cs f).length) <| some ((ix (rx c.cs f) g))
theorem Q1c (c:Cat) (f:Int) (g:Int) (r:Int) (h:Qx c f g=some r):Contract Try.prog 49 [.rptr (c.cells true),iV f,iV g] (iV r):=by
 unfold Qx at h;replace ⟨h1,h⟩:=Q0 h;replace ⟨h2,h⟩:=Q0 h;replace ⟨h3,h⟩:=Q0 h;replace ⟨h4,h⟩:=Q0 h;cases h;have q:=c69 true c [] f g h1 h2 h3 h4;simp only [List.append_nil] at q;exact q
noncomputable def Q3M (c:Cat):Option (Bool) :=
 some ((bo c.Is))
theorem w_s_l02Is (c:Cat) (r:Bool) (h:Q3M c=some r):Contract Try.prog 54 [.agg (c.cells true)] (.val (.bool r)):=by
 unfold Q3M at h;cases h;exact c55 true c
noncomputable def QU (c:Cat):Option (Bool) :=
 some ((bo c.Is))
theorem Q2Z (c:Cat) (r:Bool) (h:QU c=some r):Contract Try.prog 57 [.rptr (c.cells true)] (.val (.bool r)):=by
 unfold QU at h;cases h;have q:=c60 true c [];simp only [List.append_nil] at q;exact q
noncomputable def Q2r (f:SF):Option (Bool) :=
 some ((bo f.Is))
theorem Q6F (f:SF) (r:Bool) (h:Q2r f=some r):Contract Try.prog 31 [.agg (f.cells true)] (.val (.bool r)):=by
 unfold Q2r at h;cases h;exact c16 true f
noncomputable def Q2V (xs:List Int) (ys:List Int):Option (Bool) :=
 some ((decide (xs=ys)))
theorem Q7s (xs:List Int) (ys:List Int) (r:Bool) (h:Q2V xs ys=some r):Contract Try.prog 67 [lI xs,lI ys] (.val (.bool r)):=by
 unfold Q2V at h;cases h;exact n54 true true xs ys
noncomputable def Q1V (c:Cat) (d:Cat):Option (Bool) :=
 some ((bo (c=d)))
theorem Q4X (c:Cat) (d:Cat) (r:Bool) (h:Q1V c d=some r):Contract Try.prog 32 [.agg (c.cells true),.agg (d.cells true)] (.val (.bool r)):=by
 unfold Q1V at h;cases h;exact n53 true true c d
noncomputable def QZ (c:Cat) (d:Cat):Option (Bool) :=
 ass (c.cs.length≤1048576) <| some ((bo (c=d)))
theorem Q33 (c:Cat) (d:Cat) (r:Bool) (h:QZ c d=some r):Contract Try.prog 43 [.rptr (c.cells true),.rptr (d.cells true)] (.val (.bool r)):=by
 unfold QZ at h;replace ⟨hl,h⟩:=Q0 h;cases h;have q:=n61 true true c d [] [] hl;simp only [List.append_nil] at q;exact q
noncomputable def QR (fs:List SF):Option (Bool) :=
 ass (fs.length≤1048576) <| some ((bo (∀ f∈fs,f.Is)))
theorem Q3U (fs:List SF) (r:Bool) (h:QR fs=some r):Contract Try.prog 42 [.lst true 1 (Es Q8g fs)] (.val (.bool r)):=by
 unfold QR at h;replace ⟨hl,h⟩:=Q0 h;cases h;exact n84 true true fs hl
noncomputable def Q1p (c_:Cat) (f_:Int):Option Ends :=
 ass (0≤f_∧f_<c_.fr.length∧f_<c_.to.length) <| some ⟨ix c_.fr f_,ix c_.to f_⟩
theorem Q4b (c_:Cat) (f_:Int) (r:Ends) (h:Q1p c_ f_=some r):Contract Try.prog 77 [.rptr (c_.cells true),iV f_] (.agg (r.cells true)):=by
 unfold Q1p at h;replace h:=Q0 h;obtain ⟨⟨h1,h2,h3⟩,h⟩:=h;cases h;have q:=c68 true c_ [] f_ h1 h2 h3;simp only [List.append_nil] at q;exact q
end
section
attribute [local simp] Qa Qy Qq QK Qu
@[simp] theorem ass_true {α:Type} {k:Option α}:ass True k=k:=Q3 trivial
theorem bo_tt (p:Prop):(bo p=true)=p:=by simp [bo]
theorem Qm {p:Prop} (h:p):bo p=true:=by simp [bo,h]
theorem Qj {p:Prop} (h:¬ p):bo p=false:=by simp [bo,h]
theorem bo_iff2 {p q:Prop} (h:p↔q):bo p=bo q:=by simp [bo,h]
theorem loop_go {σ ε:Type} {body:σ→Option (Ctl σ ε)} (g:Nat→σ) (m:Nat):∀ (k:Nat),m≤k→(∀ i,i<m→body (g i)=some (.next (g (i+1))))→Qt body k (g 0)=Qt body (k - m) (g m):=by
 induction m with
 | zero=>intro k _ _;rfl
 | succ m ih =>
  intro k hk h;rw [ih k (by omega) fun i hi=>h i (by omega)];obtain ⟨j,hj⟩:∃ j,k - m=j+1:=⟨k - m - 1,by omega⟩;rw [hj,show k - (m+1)=j by omega];simp only [Qt,h m (by omega)]
theorem Q3m {σ ε:Type} {body:σ→Option (Ctl σ ε)} (g:Nat→σ) (n:Nat) {e:ε} {s0:σ} (h0:s0=g 0) (hn:n<4611686018427387904) (h:∀ i,i<n→body (g i)=some (.next (g (i+1)))) (he:body (g n)=some (.ret e)):Qt body fuel s0=some e:=by
 subst h0;rw [loop_go g n fuel (by unfold fuel;omega) h];obtain ⟨j,hj⟩:∃ j,fuel - n=j+1:=⟨fuel - n - 1,by unfold fuel;omega⟩;rw [hj];simp only [Qt,he]
theorem loop_chk {ε:Type} {body:Int→Option (Ctl Int ε)} (n:Nat) (p:Nat→Prop) {eb eg:ε} (hn:n<4611686018427387904) (h1:∀ i:Nat,i<n→p i→body (i:Int)=some (.next ((i:Int)+1))) (h2:∀ i:Nat,i<n→¬ p i→body (i:Int)=some (.ret eb)) (h3:body (n:Int)=some (.ret eg)) :
  Qt body fuel 0=some (@ite _ (∀ i:Nat,i<n→p i) (Classical.propDecidable _) eg eb):=by
 by_cases hall:∀ i:Nat,i<n→p i
 ·rw [if_pos hall];exact Q3m (fun i:Nat=>(i:Int)) n rfl hn (fun i hi=>h1 i hi (hall i hi)) h3
 rw [if_neg hall];have hex:∃ i,i<n∧¬ p i:=Classical.byContradiction fun hx=>hall fun i hi=>Classical.byContradiction fun hp=>hx ⟨i,hi,hp⟩;obtain ⟨m,⟨hm,hp⟩,hmin⟩:∃ m,(m<n∧¬ p m)∧∀ k,k<m→¬ (k<n∧¬ p k):=by
  obtain ⟨i,hi⟩:=hex
  induction i using Nat.strongRecOn with
  | _ i ih =>
   by_cases h:∃ k,k<i∧k<n∧¬ p k
   ·obtain ⟨k,h1,h2⟩:=h;exact ih k h1 h2
   exact ⟨i,hi,fun k hk hh=>h ⟨k,hk,hh⟩⟩
 exact Q3m (fun i:Nat=>(i:Int)) m rfl (by omega) (fun i hi=>h1 i (by omega) (Classical.byContradiction fun hh=>hmin i hi ⟨by omega,hh⟩)) (h2 m hm hp)
theorem Q7R {ε:Type} {body:Int→Option (Ctl Int ε)} (n:Nat) (p:Nat→Prop) {eb:Nat→ε} {eg:ε} (hn:n<4611686018427387904) (h1:∀ i:Nat,i<n→p i→body (i:Int)=some (.next ((i:Int)+1))) (h2:∀ i:Nat,i<n→¬ p i→body (i:Int)=some (.ret (eb i))) (h3:body (n:Int)=some (.ret eg)) :
  ((∀ i:Nat,i<n→p i)∧Qt body fuel 0=some eg)∨∃ m,m<n∧¬ p m∧(∀ k,k<m→p k)∧Qt body fuel 0=some (eb m):=by
 by_cases hall:∀ i:Nat,i<n→p i
 ·exact .inl ⟨hall,Q3m (fun i:Nat=>(i:Int)) n rfl hn (fun i hi=>h1 i hi (hall i hi)) h3⟩
 right;have hex:∃ i,i<n∧¬ p i:=Classical.byContradiction fun hx=>hall fun i hi=>Classical.byContradiction fun hp=>hx ⟨i,hi,hp⟩;obtain ⟨m,⟨hm,hp⟩,hmin⟩:∃ m,(m<n∧¬ p m)∧∀ k,k<m→¬ (k<n∧¬ p k):=by
  obtain ⟨i,hi⟩:=hex
  induction i using Nat.strongRecOn with
  | _ i ih =>
   by_cases h:∃ k,k<i∧k<n∧¬ p k
   ·obtain ⟨k,h1,h2⟩:=h;exact ih k h1 h2
   exact ⟨i,hi,fun k hk hh=>h ⟨k,hk,hh⟩⟩
 have hlt:∀ k,k<m→p k:=fun k hk=>Classical.byContradiction fun hh=>hmin k hk ⟨by omega,hh⟩;exact ⟨m,hm,hp,hlt,Q3m (fun i:Nat=>(i:Int)) m rfl (by omega) (fun i hi=>h1 i (by omega) (hlt i hi)) (h2 m hm hp)⟩
theorem Q5L {α ε:Type} {body:α × Int→Option (Ctl (α × Int) ε)} (g:Nat→α) (n:Nat) {e:ε} {a0:α} (h0:a0=g 0) (hn:n<4611686018427387904) (h:∀ i:Nat,i<n→body (g i,(i:Int))=some (.next (g (i+1),(i:Int)+1))) (he:body (g n,(n:Int))=some (.ret e)):Qt body fuel (a0,0)=some e:=by
 subst h0;exact Q3m (fun i:Nat=>(g i,(i:Int))) n rfl hn h he
theorem all_inR {xs:List Int} {n:Int}:xs.all (inR n)=true↔∀ j:Nat,j<xs.length→0≤ix xs j∧ix xs j<n:=by
 rw [List.all_eq_true];constructor
 ·intro h j hj;have:=h _ (List.getElem_mem hj);rw [QL _ _ hj] at this;simp only [inR,Bool.and_eq_true,decide_eq_true_eq] at this;omega
 intro h x hx;obtain ⟨i,hi,rfl⟩:=List.getElem_of_mem hx;rw [QL _ _ hi];have:=h i hi;simp only [inR,Bool.and_eq_true,decide_eq_true_eq];omega
theorem QC {α ε β:Type} {body:α × Int→Option (Ctl (α × Int) ε)} {K:ε→Option β} {r:Option β} {a0:α} (n:Nat) (g:Nat→α) {e:ε} (h0:a0=g 0) (hn:n<4611686018427387904) (h:∀ i:Nat,i<n→body (g i,(i:Int))=some (.next (g (i+1),(i:Int)+1))) (he:body (g n,(n:Int))=some (.ret e)) (hk:K e=r):(Qt body fuel (a0,0)).bind K=r:=by
 rw [Q5L g n h0 hn h he];exact hk
end
section
attribute [local simp] Qa Qy Qq QK Qu
structure Fn.Is (f:Fn):Prop where
 s:f.s.Is
 t:f.t.Is
 lo:(f.ob.length:Int)=f.s.n
 la:f.ar.length=f.s.fr.length
 ob:∀ j:Nat,j<f.ob.length→0≤ix f.ob j∧ix f.ob j<f.t.n
 ar:∀ j:Nat,j<f.ar.length→0≤ix f.ar j∧ix f.ar j<f.t.fr.length
 ends:∀ a:Nat,a<f.s.fr.length→ix f.t.fr (ix f.ar a)=ix f.ob (ix f.s.fr a)∧ix f.t.to (ix f.ar a)=ix f.ob (ix f.s.to a)
 ids:∀ x:Nat,x<f.s.id.length→ix f.ar (ix f.s.id x)=ix f.t.id (ix f.ob x)
 comp:∀ a:Nat,a<f.s.fr.length→∀ b:Nat,b<f.s.fr.length→ix f.s.to a=ix f.s.fr b→ix f.ar (ix (rx f.s.cs a) b)=ix (rx f.t.cs (ix f.ar a)) (ix f.ar b)
end
attribute [local simp] unk unA unE unT unC flat eL eI Qs
noncomputable def Q2o (n_:Int):Option (List Int) :=
 ass (0≤n_∧n_≤1073741824) <|
 (Qt (σ:=List Int × Int) (ε:=List Int) (fun s6 =>
  if s6.2<((List.replicate n_.toNat 0).length:Int) then
   ass (0≤s6.2∧s6.2<(s6.1.length:Int)) <|
   ass (B64 (s6.2+1)) <|
   some (Ctl.next (s6.1.set s6.2.toNat s6.2,s6.2+1))
  else
   some (Ctl.ret s6.1)) fuel (List.replicate n_.toNat 0,0)).bind fun b2 =>
 some b2
theorem wkQ8 {F : Fx} {st st' : St} (m : List (Nat × Nat)) (h : (m.map Prod.fst).Nodup ∧ (m.map Prod.snd).Nodup ∧ (∀ id, id < F.pins → look id m = some id) ∧ (∀ p ∈ m, p.2 < st'.n) ∧ (∀ p ∈ st'.h, p.1 < st'.n) ∧ (∀ p ∈ st'.s, p.2 = rl m (st.get p.1) ∨ p.2 = .bot) ∧ ∀ p ∈ st'.h, hhOk m st.h p.1 p.2 := by simp [hP, hhOk, back, idQ, UA, U1, IA, I1, LA, L1, BA, B1, EA, E1, E2, eB, eI, eL, Cat.cells]) : Wk F st st' := Wk.r1 m h
theorem wkI8 {F : Fx} {st st' : St} (m : Nat) (h : ((idQ m).map Prod.fst).Nodup ∧ ((idQ m).map Prod.snd).Nodup ∧ (∀ id, id < F.pins → look id (idQ m) = some id) ∧ (∀ p ∈ (idQ m), p.2 < st'.n) ∧ (∀ p ∈ st'.h, p.1 < st'.n) ∧ (∀ p ∈ st'.s, p.2 = rl (idQ m) (st.get p.1) ∨ p.2 = .bot) ∧ ∀ p ∈ st'.h, hhOk (idQ m) st.h p.1 p.2 := by simp [hP, hhOk, back, idQ, UA, U1, IA, I1, LA, L1, BA, B1, EA, E1, E2, eB, eI, eL, Cat.cells]) : Wk F st st' := Wk.r1 (idQ m) h
@[simp] abbrev Y0a (a:Int) (b:List (Nat × AV)):List (Nat × AV):=(8,iV ((List.replicate a.toNat 0).length:Int))::b
theorem Q7q (n_:Int) (r:List Int) (h:Q2o n_=some r):Contract Try.prog 111 [iV n_] (lI r):=by
 refine Qh (rvs:=[.tmp 2]) (rs:=[lI r]) Try.func111 rfl rfl rfl rfl (by simp [Try.f111]) fun F hN hP=>?_;unfold Q2o at h;refine Q1 (runQ hN fun K hK=>?_);simp;repeat refine sdQ ?_
 refine hK _ ?_;clear hK K;refine tn (Q4 (st':=⟨[(0,iV n_)],[],0⟩) (wkQ8 []) (Q1 (runQ hN fun K hK=>?_)));replace ⟨a1,h⟩:=Q0 h;simp;repeat refine sdQ ?_
 refine hK _ ?_;clear hK K;refine tn (Q4 (st':=⟨[(3,.own 0 0 ((List.replicate n_.toNat 0).length))],[(0,rI (List.replicate n_.toNat 0))],1⟩) (wkQ8 [(0,0)]) (Q1 (Q1 (runQ hN fun K hK=>?_))));simp;repeat refine sdQ ?_
 refine hK _ (tn (Q4 (st':=⟨(3,.own 0 0 ((List.replicate n_.toNat 0).length))::Y0a n_ [(9,iV 0)],[(0,rI (List.replicate n_.toNat 0))],1⟩) (wkQ8 [(0,0)]) ?_));clear hK K;replace ⟨e2,h,h2⟩:=bind_some h;refine Qe (fun b2:List Int=>⟨[(3,.own 0 0 b2.length)],[(0,rI b2)],1⟩) (fun b2=>b2=e2) ?_ ?_
 ·refine Q5 (Qn h (fun s6:List Int × Int=>⟨(3,.own 0 0 s6.1.length)::Y0a n_ [(9,iV s6.2)],[(0,rI s6.1)],1⟩) (wkQ8 [(0,0)]) ?_);clear h;intro k6 s6 c6 h hk6;refine Q1 (runQ hN fun K hK=>?_);simp;repeat refine sdQ ?_
  refine hK _ ?_;clear hK K;refine tn (Q1 (Q7 rfl (fun g=>?_) fun g=>?_))
  ·have g7:s6.2<((List.replicate n_.toNat 0).length:Int):=gQ;clear g;replace h:=if_l g7 h;refine Q8 (tn (Q1 (Q5 (Q1 (runQ hN fun K hK=>?_)))));simp;(repeat refine sdQ ?_);refine hK _ ?_;clear hK K;refine tn (Q4 (st':=⟨(3,.own 0 0 s6.1.length)::(4,iV s6.2)::Y0a n_ [(9,iV s6.2)],[(0,rI s6.1)],1⟩) (wkQ8 [(0,0)]) (runQ hN fun K hK=>?_));replace ⟨a8,h⟩:=Q0 h;simp [at_I a8];(repeat refine sdQ ?_);refine hK _ ?_;clear hK K;refine bn (tn (Q4 (st':=⟨(3,.own 0 0 ((s6.1.set s6.2.toNat s6.2).length))::Y0a n_ [(9,iV s6.2)],[(0,rI (s6.1.set s6.2.toNat s6.2))],1⟩) (wkQ8 [(0,0)]) (runQ hN fun K hK=>?_)));replace ⟨a9,h⟩:=Q0 h;simp [Qk a9];(repeat refine sdQ ?_);refine hK _ ?_;clear hK K;cases h;exact rn (s':=(s6.1.set s6.2.toNat s6.2,s6.2+1)) hk6 (wkQ8 [(0,0)])
  have g7:¬ (s6.2<((List.replicate n_.toNat 0).length:Int)):=gQ;clear g;replace h:=if_r g7 h;refine Qg (tx (lx (bh ?_)));cases h;exact jn (b:=s6.1) hk6 (wkQ8 [(0,0)])
 intro b2 hb2;have h:=h2;try rw [← hb2] at h
 clear h2;try dsimp only at h
 refine Q1 (runQ hN fun K hK=>?_);simp;repeat refine sdQ ?_
 refine hK _ (tn (Q4 (st':=⟨[(2,.own 0 0 b2.length)],[(0,rI b2)],1⟩) (wkQ8 [(0,0)]) (Qf ?_)));clear hK K;have hr:=Option.some.inj h;rw [← hr];refine ⟨_,(.tmp .nil),?_⟩;refine ⟨(.one rfl rfl .nil),[lI b2],[0],by simp [UA,U1,IA,I1,LA,L1,BA,B1,EA,E1,E2,eB,eI,eL],by simp,(UpL.refl _)⟩
section
attribute [local simp] Qa Qy Qq QK Qu
theorem Q4L (n:Nat) {j:Int} (h0:0≤j) (h1:j<n):ix (iota n) j=j:=by
 obtain ⟨i,rfl⟩:∃ i:Nat,j=i:=⟨j.toNat,by omega⟩;rw [← QL _ _ (show i<(iota n).length by simp [iota];omega)];simp [iota]
theorem set_fill {α:Type} (xs:List α) (k:Nat) (v z:α) {i:Nat} (h:i=xs.length):(xs++List.replicate (k+1) z).set i v=(xs++[v])++List.replicate k z:=by
 subst h;simp [List.replicate_succ]
theorem Cat.Is.ok {c:Cat} (h:c.Is):c.ok:=h.1.size2.1
theorem e_numbers {n:Int} (h0:0≤n) (h1:n≤1048576):Q2o n=some (iota n.toNat):=by
 unfold Q2o;rw [Q3 (by omega)];simp only [List.length_replicate];refine QC n.toNat (fun i:Nat=>iota i++List.replicate (n.toNat - i) 0) (e:=iota n.toNat) (by simp [iota]) (by omega) (fun i hi=>?_) (by simp) (by simp);obtain ⟨k,hk⟩:∃ k,n.toNat - i=k+1:=⟨n.toNat - i - 1,by omega⟩;have hl:(iota i).length=i:=by simp [iota]
 have hs:=set_fill (iota i) k (i:Int) 0 (i:=i) (by rw [hl]);rw [iota_succ,hk,show n.toNat - (i+1)=k by omega,← hs];simp (disch:=omega) [Q3,B64,hl];omega
end
attribute [local simp] unk unA unE unT unC flat
noncomputable def Q1B (c_:Cat) (f_:Int) (g_:Int):Option Int :=
 ass (0≤f_∧f_<(c_.cs.length:Int)) <|
 ass (0≤g_∧g_<((rx c_.cs f_).length:Int)) <|
 some (ix (rx c_.cs f_) g_)
@[simp] abbrev YV (a:Cat) (b:List (Nat × Ent)):List (Nat × Ent):=(0,.mix 5 [(Cat.cells true a)])::b
@[simp] abbrev Y00 (a b:Int) (c:List (Nat × AV)):List (Nat × AV):=(1,iV a)::(2,iV b)::(3,.adr 0 0 0)::c
theorem Q4Y (c_:Cat) (f_:Int) (g_:Int) (r:Int) (h:Q1B c_ f_ g_=some r):Contract Try.prog 38 [.agg (c_.cells true),iV f_,iV g_] (iV r):=by
 refine Qh (rvs:=[.tmp 6]) (rs:=[iV r]) Try.func38 rfl rfl rfl rfl (by simp [Try.f38]) fun F hN hP=>?_;unfold Q1B at h;refine Q1 (runQ hN fun K hK=>?_);simp [eL,eI,Qs,Q1L,Cat.cells];repeat refine sdQ ?_
 refine hK _ ?_;clear hK K;refine tn (Q4 (st':=⟨Y00 f_ g_ [],YV c_ [],1⟩) (wkQ8 [(0,0)]) (Q1 (runQ hN fun K hK=>?_)));replace ⟨a1,h⟩:=Q0 h;replace ⟨a2,h⟩:=Q0 h;simp [eL,eI,Qs,Q1L,Cat.cells,at_L a1,at_I a2];repeat refine sdQ ?_
 refine hK _ (tn (Q4 (st':=⟨[(6,iV (ix (rx c_.cs f_) g_))],[],0⟩) (wkQ8 []) (Qf ?_)));clear hK K;have hr:=Option.some.inj h;rw [← hr];refine ⟨_,(.tmp .nil),?_⟩;refine ⟨(.one rfl rfl .nil),[iV (ix (rx c_.cs f_) g_)],[],by simp [Cat.cells,UA,U1,IA,I1,LA,L1,BA,B1,EA,E1,E2,eB,eI,eL],by simp,(UpL.refl _)⟩
section
attribute [local simp] Qa Qy Qq QK Qu
structure NatT (f g:Fn) (p:List Int):Prop where
 lp:p.length=f.ob.length
 bd:∀ j:Nat,j<p.length→0≤ix p j∧ix p j<f.t.fr.length
 ends:∀ x:Nat,x<p.length→ix f.t.fr (ix p x)=ix f.ob x∧ix f.t.to (ix p x)=ix g.ob x
 sq:∀ a:Nat,a<f.s.fr.length→ix (rx f.t.cs (ix f.ar a)) (ix p (ix f.s.to a))=ix (rx f.t.cs (ix p (ix f.s.fr a))) (ix g.ar a)
structure Para (f g:Fn):Prop where
 hf:f.Is
 hg:g.Is
 s:f.s=g.s
 t:f.t=g.t
theorem e_l02Then {c:Cat} {f g:Int} (h0:0≤f∧f<(c.cs.length:Int)) (h1:0≤g∧g<((rx c.cs f).length:Int)):Q1B c f g=some (ix (rx c.cs f) g):=by
 unfold Q1B;rw [Q3 h0,Q3 h1]
theorem e_Cthen {c:Cat} {f g:Int} (h0:0≤f∧f<(c.cs.length:Int)) (h1:0≤g∧g<((rx c.cs f).length:Int)):Qx c f g=some (ix (rx c.cs f) g):=by
 unfold Qx;rw [Q3 h0.1,Q3 h0.2,Q3 h1.1,Q3 h1.2]
end
attribute [local simp] unk unA unE unT unC flat
noncomputable def Q2q (c_:Cat) (f_:Int):Option Bool :=
 ass (0≤f_∧f_<(c_.fr.length:Int)) <|
 ass (0≤ix c_.fr f_∧ix c_.fr f_<(c_.id.length:Int)) <|
 some ((ix c_.id (ix c_.fr f_)) == f_)
theorem Q4Z (c_:Cat) (f_:Int) (r:Bool) (h:Q2q c_ f_=some r):Contract Try.prog 72 [.agg (c_.cells true),iV f_] (.val (.bool r)):=by
 refine Qh (rvs:=[.tmp 4]) (rs:=[.val (.bool r)]) Try.func72 rfl rfl rfl rfl (by simp [Try.f72]) fun F hN hP=>?_;unfold Q2q at h;refine Q1 (runQ hN fun K hK=>?_);simp [eL,eI,Qs,Q1L,Cat.cells];repeat refine sdQ ?_
 refine hK _ ?_;clear hK K;refine tn (Q4 (st':=⟨[(1,iV f_),(2,.adr 0 0 0)],YV c_ [],1⟩) (wkQ8 [(0,0)]) (Q1 (runQ hN fun K hK=>?_)));replace ⟨a1,h⟩:=Q0 h;replace ⟨a2,h⟩:=Q0 h;simp [eL,eI,Qs,Q1L,Cat.cells,at_I a1,at_I a2];repeat refine sdQ ?_
 refine hK _ (tn (Q4 (st':=⟨[(4,.val (.bool ((ix c_.id (ix c_.fr f_)) == f_)))],[],0⟩) (wkQ8 []) (Qf ?_)));clear hK K;have hr:=Option.some.inj h;rw [← hr];refine ⟨_,(.tmp .nil),?_⟩;refine ⟨(.one rfl rfl .nil),[.val (.bool ((ix c_.id (ix c_.fr f_)) == f_))],[],by simp [Cat.cells,UA,U1,IA,I1,LA,L1,BA,B1,EA,E1,E2,eB,eI,eL],by simp,(UpL.refl _)⟩
section
attribute [local simp] Qa Qy Qq QK Qu
def tab {α:Type} (n:Nat) (g:Nat→α):List α:=(List.range n).map g
@[simp] theorem Q1X {α:Type} (n:Nat) (g:Nat→α):(tab n g).length=n:=by simp [tab]
theorem Q11 {α:Type} (n:Nat) (g:Nat→α):tab (n+1) g=tab n g++[g n]:=by simp [tab,List.range_succ]
theorem Q21 {α:Type} (g:Nat→α):tab 0 g=[]:=rfl
theorem Q4g (n:Nat) (g:Nat→Int) {i:Nat} (h:i<n):ix (tab n g) i=g i:=by
 rw [← QL _ _ (show i<(tab n g).length by simpa using h)];simp [tab]
theorem Cat.Is.size {c:Cat} (h:c.Is):c.size≤2000:=h.1.size2.2
end
section
attribute [local simp] Qa Qy Qq QK Qu
theorem Q3S {α:Type} {n:Nat} {f g:Nat→α} (h:∀ i,i<n→f i=g i):tab n f=tab n g:=by
 unfold tab;exact List.map_congr_left fun i hi=>h i (by simpa using hi)
end
attribute [local simp] unk unA unE unT unC flat eL eI Qs Q1L Cat.cells
noncomputable def QJ (c_:Cat) (x_:Int) (y_:Int):Option (List Int) :=
 (Qt (σ:=List Int × Int) (ε:=List Int) (fun s11 =>
  if s11.2<(c_.fr.length:Int) then
   (
    (
     ass (0≤s11.2∧s11.2<(c_.fr.length:Int)) <|
     if (ix c_.fr s11.2)=x_ then
      ass (0≤s11.2∧s11.2<(c_.to.length:Int)) <|
      some ((ix c_.to s11.2) == y_)
     else
      some false:Option (Bool)).bind fun b14 =>
    if b14=true then
     ass ((s11.1++[s11.2]).length≤1073741824) <|
     some (s11.1++[s11.2])
    else
     some s11.1:Option (List Int)).bind fun b13 =>
   ass (B64 (s11.2+1)) <|
   some (Ctl.next (b13,s11.2+1))
  else
   some (Ctl.ret s11.1)) fuel ([],0)).bind fun b1 =>
 some b1
@[simp] abbrev YL (a:Cat) (b:Int) (c:List (Nat × AV)):List (Nat × AV):=(0,.rptr (Cat.cells true a))::(1,iV b)::c
theorem Q32 (c_:Cat) (x_:Int) (y_:Int) (r:List Int) (h:QJ c_ x_ y_=some r):Contract Try.prog 85 [.rptr (c_.cells true),iV x_,iV y_] (lI r):=by
 refine Qh (rvs:=[.tmp 6]) (rs:=[lI r]) Try.func85 rfl rfl rfl rfl (by simp [Try.f85]) fun F hN hP=>?_;unfold QJ at h;refine Q1 (runQ hN fun K hK=>?_);simp;repeat refine sdQ ?_
 refine hK _ ?_;clear hK K;refine tn (Q4 (st':=⟨YL c_ x_ [(2,iV y_)],[],0⟩) (wkQ8 []) (Q1 (runQ hN fun K hK=>?_)));simp;repeat refine sdQ ?_
 refine hK _ ?_;clear hK K;refine tn (Q4 (st':=⟨YL c_ x_ [(2,iV y_),(7,.own 0 0 0)],[(0,.mix 1 [])],1⟩) (wkQ8 [(0,0)]) (Q1 (Q1 (runQ hN fun K hK=>?_))));simp;repeat refine sdQ ?_
 refine hK _ (tn (Q4 (st':=⟨YL c_ x_ [(2,iV y_),(7,.own 0 0 0),(14,iV (c_.fr.length:Int)),(15,iV 0)],[(0,.mix 1 [])],1⟩) (wkQ8 [(0,0)]) ?_));clear hK K;replace ⟨e1,h,h1⟩:=bind_some h;refine Qe (fun b1:List Int=>⟨[(7,.own 0 0 b1.length)],[(0,rI b1)],1⟩) (fun b1=>b1=e1) ?_ ?_
 ·refine Q5 (Qn h (fun s11:List Int × Int=>⟨YL c_ x_ [(2,iV y_),(7,.own 0 0 s11.1.length),(14,iV (c_.fr.length:Int)),(15,iV s11.2)],[(0,rI s11.1)],1⟩) (Q4c ⟨YL c_ x_ [(2,iV y_),(7,.own 0 0 0),(14,iV (c_.fr.length:Int)),(15,iV 0)],[(0,rI [])],1⟩ (Wk.nils [] (by simp) (by simp) (by simp [nlA]) (by simp [entN,nlL,nlA,Cat.cells,UA,U1,IA,I1,LA,L1,BA,B1,EA,E1,E2,eB,eI,eL]) (by simp)) (wkQ8 [(0,0)])) ?_);clear h;intro k11 s11 c11 h hk11;refine Q1 (runQ hN fun K hK=>?_);simp;repeat refine sdQ ?_
  refine hK _ ?_;clear hK K;refine tn (Q1 (Q7 rfl (fun g=>?_) fun g=>?_))
  ·have g12:s11.2<(c_.fr.length:Int):=gQ;clear g;replace h:=if_l g12 h;refine Q8 (tn (Q1 ?_));replace ⟨e13,h,h13⟩:=bind_some h;refine Qe (fun b13:List Int=>⟨YL c_ x_ [(2,iV y_),(7,.own 0 0 b13.length),(14,iV (c_.fr.length:Int)),(15,iV s11.2)],[(0,rI b13)],1⟩) (fun b13=>b13=e13) ?_ ?_
   ·refine Q5 (Q1 (runQ hN fun K hK=>?_));simp;(repeat refine sdQ ?_);refine hK _ (tn (Q4 (st':=⟨YL c_ x_ [(2,iV y_),(7,.own 0 0 s11.1.length),(8,iV s11.2),(14,iV (c_.fr.length:Int)),(15,iV s11.2)],[(0,rI s11.1)],1⟩) (wkQ8 [(0,0)]) (Q1 ?_)));clear hK K;replace ⟨e14,h,h14⟩:=bind_some h;refine Qe (fun b14:Bool=>⟨YL c_ x_ [(2,iV y_),(7,.own 0 0 s11.1.length),(8,iV s11.2),(14,iV (c_.fr.length:Int)),(15,iV s11.2),(37,.val (.bool b14))],[(0,rI s11.1)],1⟩) (fun b14=>b14=e14) ?_ ?_
    ·refine runQ hN fun K hK=>?_;replace ⟨a15,h⟩:=Q0 h;simp [at_I a15];(repeat with_reducible refine sdQ ?_);refine Qo (fun g=>?_) (fun g=>?_)
     ·have g16:(ix c_.fr s11.2)=x_:=gQ;clear g;replace h:=if_l g16 h;replace ⟨a17,h⟩:=Q0 h;simp [at_I a15,at_I a17];(repeat refine sdQ ?_);refine hK _ ?_;exact jn (b:=(ix c_.to s11.2) == y_) (Option.some.inj h) (wkQ8 [(0,0)])
     have g16:¬ ((ix c_.fr s11.2)=x_):=gQ;clear g;replace h:=if_r g16 h;simp [at_I a15];(repeat refine sdQ ?_);refine hK _ ?_;exact jn (b:=false) (Option.some.inj h) (wkQ8 [(0,0)])
    intro b14 hb14;have h:=h14;(try rw [← hb14] at h);clear h14;(try dsimp only at h);refine Q7 rfl (fun g=>?_) fun g=>?_
    ·have g18:b14=true:=gQ;clear g;replace h:=if_l g18 h;refine runQ hN fun K hK=>?_;replace ⟨a19,h⟩:=Q0 h;(try simp only [List.length_append,List.length_cons,List.length_nil] at a19);simp [a19];(repeat refine sdQ ?_);refine hK _ (bn ?_);clear hK K;exact jn (b:=s11.1++[s11.2]) (Option.some.inj h) (wkQ8 [(2,0)])
    have g18:¬ (b14=true):=gQ;clear g;replace h:=if_r g18 h;refine Q8 (bn ?_);exact jn (b:=s11.1) (Option.some.inj h) (wkQ8 [(0,0)])
   intro b13 hb13;have h:=h13;(try rw [← hb13] at h);clear h13;(try dsimp only at h);refine runQ hN fun K hK=>?_;replace ⟨a20,h⟩:=Q0 h;simp [Qk a20];(repeat refine sdQ ?_);refine hK _ ?_;clear hK K;cases h;exact rn (s':=(b13,s11.2+1)) hk11 (wkQ8 [(0,0)])
  have g12:¬ (s11.2<(c_.fr.length:Int)):=gQ;clear g;replace h:=if_r g12 h;refine Qg (tx (lx (bh ?_)));cases h;exact jn (b:=s11.1) hk11 (wkQ8 [(0,0)])
 intro b1 hb1;have h:=h1;try rw [← hb1] at h
 clear h1;try dsimp only at h
 refine Q1 (runQ hN fun K hK=>?_);simp;repeat refine sdQ ?_
 refine hK _ (tn (Q4 (st':=⟨[(6,.own 0 0 b1.length)],[(0,rI b1)],1⟩) (wkQ8 [(0,0)]) (Qf ?_)));clear hK K;have hr:=Option.some.inj h;rw [← hr];refine ⟨_,(.tmp .nil),?_⟩;refine ⟨(.one rfl rfl .nil),[lI b1],[0],by simp [Cat.cells,UA,U1,IA,I1,LA,L1,BA,B1,EA,E1,E2,eB,eI,eL],by simp,(UpL.refl _)⟩
attribute [local simp] unk unA unE unT unC flat eL eI Qs Q1L Cat.cells
noncomputable def Q2k (c_:Cat) (x_:Int) (y_:Int):Option (List Int) :=
 (Qt (σ:=List Int × Int) (ε:=List Int) (fun s11 =>
  if s11.2<(c_.fr.length:Int) then
   (
    (
     ass (0≤s11.2∧s11.2<(c_.fr.length:Int)) <|
     if (ix c_.fr s11.2)=x_ then
      ass (0≤s11.2∧s11.2<(c_.to.length:Int)) <|
      some ((ix c_.to s11.2) == y_)
     else
      some false:Option (Bool)).bind fun b14 =>
    if b14=true then
     ass ((s11.1++[s11.2]).length≤1073741824) <|
     some (s11.1++[s11.2])
    else
     some s11.1:Option (List Int)).bind fun b13 =>
   ass (B64 (s11.2+1)) <|
   some (Ctl.next (b13,s11.2+1))
  else
   some (Ctl.ret s11.1)) fuel ([],0)).bind fun b1 =>
 some b1
theorem Q5A (c_:Cat) (x_:Int) (y_:Int) (r:List Int) (h:Q2k c_ x_ y_=some r):Contract Try.prog 71 [.agg (c_.cells true),iV x_,iV y_] (lI r):=by
 refine Qh (rvs:=[.tmp 6]) (rs:=[lI r]) Try.func71 rfl rfl rfl rfl (by simp [Try.f71]) fun F hN hP=>?_;unfold Q2k at h;refine Q1 (runQ hN fun K hK=>?_);simp;repeat refine sdQ ?_
 refine hK _ ?_;clear hK K;refine tn (Q4 (st':=⟨Y00 x_ y_ [],YV c_ [],1⟩) (wkQ8 [(0,0)]) (Q1 (runQ hN fun K hK=>?_)));simp;repeat refine sdQ ?_
 refine hK _ ?_;clear hK K;refine tn (Q4 (st':=⟨Y00 x_ y_ [(7,.own 1 0 0)],YV c_ [(1,.mix 1 [])],2⟩) (wkQ8 [(0,0),(1,1)]) (Q1 (Q1 (runQ hN fun K hK=>?_))));simp;repeat refine sdQ ?_
 refine hK _ (tn (Q4 (st':=⟨Y00 x_ y_ [(7,.own 1 0 0),(8,iV 0)],YV c_ [(1,.mix 1 [])],2⟩) (wkQ8 [(0,0),(1,1)]) ?_));clear hK K;replace ⟨e1,h,h1⟩:=bind_some h;refine Qe (fun b1:List Int=>⟨[(7,.own 0 0 b1.length)],[(0,rI b1)],1⟩) (fun b1=>b1=e1) ?_ ?_
 ·refine Q5 (Qn h (fun s11:List Int × Int=>⟨Y00 x_ y_ [(7,.own 1 0 s11.1.length),(8,iV s11.2)],YV c_ [(1,rI s11.1)],2⟩) (Q4c ⟨Y00 x_ y_ [(7,.own 1 0 0),(8,iV 0)],YV c_ [(1,rI [])],2⟩ (Wk.nils [] (by simp) (by simp) (by simp [nlA]) (by simp [entN,nlL,nlA,Cat.cells,UA,U1,IA,I1,LA,L1,BA,B1,EA,E1,E2,eB,eI,eL]) (by simp)) (wkQ8 [(0,0),(1,1)])) ?_);clear h;intro k11 s11 c11 h hk11;refine Q1 (Q1 (runQ hN fun K hK=>?_));simp;repeat refine sdQ ?_
  refine hK _ ?_;clear hK K;refine tn (Q7 rfl (fun g=>?_) fun g=>?_)
  ·have g12:s11.2<(c_.fr.length:Int):=gQ;clear g;replace h:=if_l g12 h;refine Q8 (tn (Q1 ?_));replace ⟨e13,h,h13⟩:=bind_some h;refine Qe (fun b13:List Int=>⟨Y00 x_ y_ [(7,.own 1 0 b13.length),(8,iV s11.2)],YV c_ [(1,rI b13)],2⟩) (fun b13=>b13=e13) ?_ ?_
   ·refine Q5 (Q1 ?_);replace ⟨e14,h,h14⟩:=bind_some h;refine Qe (fun b14:Bool=>⟨Y00 x_ y_ [(7,.own 1 0 s11.1.length),(8,iV s11.2),(32,.val (.bool b14))],YV c_ [(1,rI s11.1)],2⟩) (fun b14=>b14=e14) ?_ ?_
    ·refine runQ hN fun K hK=>?_;replace ⟨a15,h⟩:=Q0 h;simp [at_I a15];(repeat with_reducible refine sdQ ?_);refine Qo (fun g=>?_) (fun g=>?_)
     ·have g16:(ix c_.fr s11.2)=x_:=gQ;clear g;replace h:=if_l g16 h;replace ⟨a17,h⟩:=Q0 h;simp [at_I a15,at_I a17];(repeat refine sdQ ?_);refine hK _ ?_;exact jn (b:=(ix c_.to s11.2) == y_) (Option.some.inj h) (wkQ8 [(0,0),(1,1)])
     have g16:¬ ((ix c_.fr s11.2)=x_):=gQ;clear g;replace h:=if_r g16 h;simp [at_I a15];(repeat refine sdQ ?_);refine hK _ ?_;exact jn (b:=false) (Option.some.inj h) (wkQ8 [(0,0),(1,1)])
    intro b14 hb14;have h:=h14;(try rw [← hb14] at h);clear h14;(try dsimp only at h);refine Q7 rfl (fun g=>?_) fun g=>?_
    ·have g18:b14=true:=gQ;clear g;replace h:=if_l g18 h;refine runQ hN fun K hK=>?_;replace ⟨a19,h⟩:=Q0 h;(try simp only [List.length_append,List.length_cons,List.length_nil] at a19);simp [a19];(repeat refine sdQ ?_);refine hK _ (bn ?_);clear hK K;exact jn (b:=s11.1++[s11.2]) (Option.some.inj h) (wkQ8 [(0,0),(3,1)])
    have g18:¬ (b14=true):=gQ;clear g;replace h:=if_r g18 h;refine Q8 (bn ?_);exact jn (b:=s11.1) (Option.some.inj h) (wkQ8 [(0,0),(1,1)])
   intro b13 hb13;have h:=h13;(try rw [← hb13] at h);clear h13;(try dsimp only at h);refine runQ hN fun K hK=>?_;replace ⟨a20,h⟩:=Q0 h;simp [Qk a20];(repeat refine sdQ ?_);refine hK _ ?_;clear hK K;cases h;exact rn (s':=(b13,s11.2+1)) hk11 (wkQ8 [(0,0),(1,1)])
  have g12:¬ (s11.2<(c_.fr.length:Int)):=gQ;clear g;replace h:=if_r g12 h;refine Qg (tx (lx (bh ?_)));cases h;exact jn (b:=s11.1) hk11 (wkQ8 [(1,0)])
 intro b1 hb1;have h:=h1;try rw [← hb1] at h
 clear h1;try dsimp only at h
 refine Q1 (runQ hN fun K hK=>?_);simp;repeat refine sdQ ?_
 refine hK _ (tn (Q4 (st':=⟨[(6,.own 0 0 b1.length)],[(0,rI b1)],1⟩) (wkQ8 [(0,0)]) (Qf ?_)));clear hK K;have hr:=Option.some.inj h;rw [← hr];refine ⟨_,(.tmp .nil),?_⟩;refine ⟨(.one rfl rfl .nil),[lI b1],[0],by simp [Cat.cells,UA,U1,IA,I1,LA,L1,BA,B1,EA,E1,E2,eB,eI,eL],by simp,(UpL.refl _)⟩
section
attribute [local simp] Qa Qy Qq QK Qu
noncomputable def flt (n:Nat) (p:Nat→Prop):List Int:=((List.range n).filter fun i=>bo (p i)).map Int.ofNat
noncomputable def fstN (n:Nat) (p:Nat→Prop):Int:=(((List.range n).find? fun i=>bo (p i)).map Int.ofNat).getD (-1)
theorem Q41 {n:Nat} {p:Nat→Prop} (h:p n):flt (n+1) p=flt n p++[(n:Int)]:=by simp [flt,List.range_succ,Qm h]
theorem Q40 {n:Nat} {p:Nat→Prop} (h:¬ p n):flt (n+1) p=flt n p:=by simp [flt,List.range_succ,Qj h]
theorem Q4H (n:Nat) (p:Nat→Prop):(flt n p).length≤n:=by
 unfold flt;rw [List.length_map];exact Nat.le_trans (List.length_filter_le _ _) (by simp)
theorem mem_flt {n:Nat} {p:Nat→Prop} {x:Int}:x∈flt n p↔∃ i:Nat,i<n∧p i∧x=(i:Int):=by
 simp only [flt,List.mem_map,List.mem_filter,List.mem_range,bo_tt];constructor
 ·rintro ⟨i,⟨h1,h2⟩,rfl⟩;exact ⟨i,h1,h2,rfl⟩
 rintro ⟨i,h1,h2,rfl⟩;exact ⟨i,⟨h1,h2⟩,rfl⟩
theorem ix_flt {n:Nat} {p:Nat→Prop} {i:Nat} (h:i<(flt n p).length):∃ k:Nat,k<n∧p k∧ix (flt n p) i=(k:Int):=by
 have:=List.getElem_mem h;rw [QL _ _ h] at this;exact mem_flt.1 this
theorem Q3k (n:Nat) (p:Nat→Prop):(fstN n p = -1∧∀ i,i<n→¬ p i)∨∃ k:Nat,k<n∧p k∧fstN n p=(k:Int):=by
 unfold fstN;cases h:(List.range n).find? fun i=>bo (p i) with
 | none =>
  refine .inl ⟨rfl,fun i hi=>?_⟩;have:=List.find?_eq_none.1 h i (by simpa using hi);simpa [bo_tt] using this
 | some k =>
  have h1:=List.find?_some h;have h2:=List.mem_of_find?_eq_some h;exact .inr ⟨k,by simpa using h2,by simpa [bo_tt] using h1,rfl⟩
theorem e_hom {c:Cat} (h:c.Is) (x y:Int):QJ c x y=some (flt c.fr.length fun a=>ix c.fr a=x∧ix c.to a=y):=by
 have k1:=h.1.lt;have k2:=h.1.m40;unfold QJ;refine QC c.fr.length (fun i=>flt i fun a=>ix c.fr a=x∧ix c.to a=y) (e:=flt c.fr.length fun a=>ix c.fr a=x∧ix c.to a=y) rfl (by omega) (fun i hi=>?_) (by simp) rfl;have hl:=Q4H i fun a=>ix c.fr a=x∧ix c.to a=y
 by_cases h1:ix c.fr i=x
 ·by_cases h2:ix c.to i=y
  ·rw [Q41 ⟨h1,h2⟩];simp (disch:=omega) [Q3,B64,h1,h2];try omega
  rw [Q40 fun q=>h2 q.2];simp (disch:=omega) [Q3,B64,h1,h2];try omega
 rw [Q40 fun q=>h1 q.1];simp (disch:=omega) [Q3,B64,h1];try omega
theorem Q7H (c:Cat) (x y:Int):Q2k c x y=QJ c x y:=rfl
def Inv (c:Cat) (f:Int) (g:Nat):Prop:=(ix c.fr g=ix c.to f∧ix c.to g=ix c.fr f)∧ix (rx c.cs f) g=ix c.id (ix c.fr f)∧ix (rx c.cs g) f=ix c.id (ix c.to f)
noncomputable def inv (c:Cat) (f:Int):Int:=fstN c.fr.length (Inv c f)
end
section
attribute [local simp] Qa Qy Qq QK Qu
theorem Cat.Is.two {c:Cat} (h:c.Is) {f g:Int} (f0:0≤f∧f<c.fr.length) (g0:0≤g∧g<c.fr.length) (e:ix c.to f=ix c.fr g):(0≤ix (rx c.cs f) g∧ix (rx c.cs f) g<c.fr.length)∧ix c.fr (ix (rx c.cs f) g)=ix c.fr f∧ix c.to (ix (rx c.cs f) g)=ix c.to g:=by
 have:=(h.1.cell' f0.1 f0.2 g0.1 g0.2).2 e;exact ⟨⟨this.1,this.2.1⟩,this.2.2⟩
theorem Q4E {c:Cat} (h:c.Is) {f g:Int} (f0:0≤f∧f<c.fr.length) (g0:0≤g∧g<c.fr.length):Q1B c f g=some (ix (rx c.cs f) g)∧Qx c f g=some (ix (rx c.cs f) g):=by
 have h1:=h.1.lc;have h2:=h.1.row' f0.1 f0.2;exact ⟨e_l02Then (by omega) (by omega),e_Cthen (by omega) (by omega)⟩
end
section
attribute [local simp] Qa Qy Qq QK Qu
abbrev Ar (c:Cat) (f x y:Int):Prop:=(0≤f∧f<(c.fr.length:Int))∧ix c.fr f=x∧ix c.to f=y
theorem Ar.two {c:Cat} (hc:c.Is) {f g x y z:Int} (h1:Ar c f x y) (h2:Ar c g y z):Ar c (ix (rx c.cs f) g) x z:=by
 have:=hc.two h1.1 h2.1 (by rw [h1.2.2,h2.2.1]);exact ⟨this.1,by rw [this.2.1,h1.2.1],by rw [this.2.2,h2.2.2]⟩
end
attribute [local simp] unk unA unE unT unC flat eL eI Qs Q1L Cat.cells
noncomputable def Q2g (c_:Cat) (x_:Int):Option Bool :=
 (
  if x_ ≥ 0 then
   some (decide (x_<c_.n))
  else
   some false:Option (Bool)).bind fun b1 =>
 some b1
theorem Q5Z (c_:Cat) (x_:Int) (r:Bool) (h:Q2g c_ x_=some r):Contract Try.prog 61 [.agg (c_.cells true),iV x_] (.val (.bool r)):=by
 refine Qh (rvs:=[.tmp 4]) (rs:=[.val (.bool r)]) Try.func61 rfl rfl rfl rfl (by simp [Try.f61]) fun F hN hP=>?_;unfold Q2g at h;refine Q1 (runQ hN fun K hK=>?_);simp;repeat refine sdQ ?_
 refine hK _ (tn (Q4 (st':=⟨[(1,iV x_),(2,.adr 0 0 0)],YV c_ [],1⟩) (wkQ8 [(0,0)]) (Q1 ?_)));clear hK K;replace ⟨e1,h,h1⟩:=bind_some h;refine Qe (fun b1:Bool=>⟨[(4,.val (.bool b1))],[],0⟩) (fun b1=>b1=e1) ?_ ?_
 ·refine runQ hN fun K hK=>?_;simp;repeat with_reducible refine sdQ ?_
  refine Qo (fun g=>?_) (fun g=>?_)
  ·have g2:x_ ≥ 0:=gQ;clear g;replace h:=if_l g2 h;simp;(repeat refine sdQ ?_);refine hK _ ?_;exact jn (b:=decide (x_<c_.n)) (Option.some.inj h) (wkQ8 [])
  have g2:¬ (x_ ≥ 0):=gQ;clear g;replace h:=if_r g2 h;simp;repeat refine sdQ ?_
  refine hK _ ?_;exact jn (b:=false) (Option.some.inj h) (wkQ8 [])
 intro b1 hb1;have h:=h1;try rw [← hb1] at h
 clear h1;try dsimp only at h
 refine Qf ?_;have hr:=Option.some.inj h;rw [← hr];refine ⟨_,(.tmp .nil),?_⟩;refine ⟨(.one rfl rfl .nil),[.val (.bool b1)],[],by simp [Cat.cells,UA,U1,IA,I1,LA,L1,BA,B1,EA,E1,E2,eB,eI,eL],by simp,(UpL.refl _)⟩
section
attribute [local simp] Qa Qy Qq QK Qu
theorem mem_ix {xs:List Int} {P:Int→Prop} (h:∀ x∈xs,P x) {i:Nat} (hi:i<xs.length):P (ix xs i):=by
 rw [← QL _ _ hi];exact h _ (List.getElem_mem hi)
noncomputable def homL (c:Cat) (x y:Int):List Int:=flt c.fr.length fun a=>ix c.fr a=x∧ix c.to a=y
theorem homL_mem {c:Cat} {x y:Int}:∀ f∈homL c x y,Ar c f x y:=by
 intro f hf;obtain ⟨i,h1,h2,rfl⟩:=mem_flt.1 hf;exact ⟨by omega,h2⟩
theorem homL_len (c:Cat) (x y:Int):(homL c x y).length≤c.fr.length:=Q4H _ _
theorem Q7G {c:Cat} (h:c.Is) (x y:Int):Q2k c x y=some (homL c x y)∧QJ c x y=some (homL c x y):=⟨by rw [Q7H,e_hom h];rfl,e_hom h x y⟩
end
section
attribute [local simp] Qa Qy Qq QK Qu
theorem chkI {ε β:Type} {body:Int→Option (Ctl Int ε)} {K:ε→Option β} {r:Option β} (n:Nat) (p:Nat→Prop) (eb eg:ε) (hn:n<4611686018427387904)
  (h:∀ i:Nat,i<n→body (i:Int)=if bo (p i)=true then some (.next ((i:Int)+1)) else some (.ret eb)) (h3:body (n:Int)=some (.ret eg)) (hk:K (if bo (∀ i:Nat,i<n→p i)=true then eg else eb)=r):(Qt body fuel 0).bind K=r:=by
 rw [loop_chk n p (eb:=eb) (eg:=eg) hn (fun i hi q=>by rw [h i hi,Qm q];simp) (fun i hi q=>by rw [h i hi,Qj q];simp) h3,Option.bind_some,← hk]
 congr 1
 by_cases q:∀ i:Nat,i<n→p i
 ·rw [if_pos q,Qm q];simp
 rw [if_neg q,Qj q];simp
def MpP (f:List Int) (m n:Int):Prop:=(f.length:Int)=m∧∀ j:Nat,j<f.length→0≤ix f j∧ix f j<n
theorem Cat.Is.nums {c:Cat} (h:c.Is):0≤c.n∧c.n≤8∧c.fr.length≤40∧c.to.length=c.fr.length∧c.cs.length=c.fr.length∧(c.id.length:Int)=c.n:=⟨h.1.n0,h.1.n8,h.1.m40,h.1.lt,h.1.lc,h.1.li⟩
theorem Cat.Is.ends {c:Cat} (h:c.Is) {a:Int} (ha:0≤a∧a<(c.fr.length:Int)):(0≤ix c.fr a∧ix c.fr a<c.n)∧(0≤ix c.to a∧ix c.to a<c.n):=by
 have:=h.1.fr' ha.1 ha.2;have:=h.1.to' ha.1 ha.2;have:=h.1.li;omega
theorem Cat.Is.comp {c:Cat} (h:c.Is) {a b:Int} (ha:0≤a∧a<(c.fr.length:Int)) (hb:0≤b∧b<(c.fr.length:Int)) (h0:0≤ix (rx c.cs a) b) :
  ix c.to a=ix c.fr b∧ix (rx c.cs a) b<(c.fr.length:Int)∧ix c.fr (ix (rx c.cs a) b)=ix c.fr a∧ix c.to (ix (rx c.cs a) b)=ix c.to b:=by
 by_cases e:ix c.to a=ix c.fr b
 ·have q:=h.two ha hb e;exact ⟨e,q.1.2,q.2.1,q.2.2⟩
 have:=(h.1.cell' ha.1 ha.2 hb.1 hb.2).1 e;omega
theorem Q1O {p:Prop} (h:p):¬ ¬ p:=fun q=>q h
theorem MpP.len {f:List Int} {m n:Int} (hf:MpP f m n) (hm:m≤64):f.length≤64:=by have:=hf.1;omega
end
section
attribute [local simp] Qa Qy Qq QK Qu
theorem tabg {α ε β:Type} {body:List α × Int→Option (Ctl (List α × Int) ε)} {K:ε→Option β} {r:Option β} (n:Nat) (v:Nat→α) {e:ε} (hn:n<1000000)
  (h:∀ i:Nat,i<n→body (tab i v,(i:Int))=(ass ((tab i v++[v i]).length≤1073741824) <| ass (B64 ((i:Int)+1)) <| some (.next (tab i v++[v i],(i:Int)+1))))
  (he:body (tab n v,(n:Int))=some (.ret e)) (hk:K e=r):(Qt body fuel ([],0)).bind K=r:=by
 refine QC n (fun i=>tab i v) (e:=e) rfl (by omega) (fun i hi=>?_) he hk;rw [h i hi,Q3 (by simp;omega),Q3 (by unfold B64;omega),Q11]
theorem sumL_bnd {m:Nat}:∀ {x:List (List Int)},(∀ a∈x,a.length≤m)→sumL x≤x.length * m:=by
 intro x
 induction x with
 | nil=>intro _;simp [sumL]
 | cons a r ih =>
  intro h;have h1:=h a (by simp);have h2:=ih fun b hb=>h b (by simp [hb]);simp only [sumL,List.map_cons,List.sum_cons,List.length_cons,Nat.succ_mul] at h2 ⊢;omega
end
section
attribute [local simp] Qa Qy Qq QK Qu
theorem Q75 {α:Type} {n:Nat} {v:Nat→α} {a:α} (h:a∈tab n v):∃ i,i<n∧a=v i:=by
 simp only [tab,List.mem_map,List.mem_range] at h;obtain ⟨i,hi,rfl⟩:=h;exact ⟨i,hi,rfl⟩
end
section
attribute [local simp] Qa Qy Qq QK Qu
theorem fst_eq {n m:Nat} {p:Nat→Prop} (hm:m<n) (hp:p m) (hl:∀ k,k<m→¬ p k):fstN n p=(m:Int):=by
 rcases Q3k n p with ⟨_,h⟩|⟨k,hk,pk,e⟩
 ·exact absurd hp (h m hm)
 unfold fstN;rw [List.find?_range_eq_some.2 ⟨Qm hp,by simpa using hm,fun j hj=>by simp [Qj (hl j hj)]⟩];rfl
theorem fst_no {n:Nat} {p:Nat→Prop} (h:∀ i,i<n→¬ p i):fstN n p = -1:=by
 rcases Q3k n p with ⟨e,_⟩|⟨k,hk,pk,e⟩
 ·exact e
 exact absurd pk (h k hk)
theorem fstI {ε β:Type} {body:Int→Option (Ctl Int ε)} {K:ε→Option β} {r:Option β} (n:Nat) (p:Nat→Prop) (eb:Int→ε) (eg:ε) (hn:n<4611686018427387904)
  (h:∀ i:Nat,i<n→body (i:Int)=if bo (p i)=true then some (.ret (eb i)) else some (.next ((i:Int)+1))) (h3:body (n:Int)=some (.ret eg)) (hk:K (if 0≤fstN n p then eb (fstN n p) else eg)=r):(Qt body fuel 0).bind K=r:=by
 rcases Q7R n (fun i=>¬ p i) (eb:=fun i=>eb i) (eg:=eg) hn (fun i hi q=>by rw [h i hi,Qj q];simp) (fun i hi q=>by rw [h i hi,Qm (Classical.byContradiction q)];simp) h3 with ⟨q,e⟩|⟨m,hm,hq,hlt,e⟩
 ·rw [e,Option.bind_some,← hk,fst_no q];simp
 rw [e,Option.bind_some,← hk,fst_eq hm (Classical.byContradiction hq) hlt];simp
theorem hom_at {c:Cat} {x y:Int} {i:Nat} (hi:i<(homL c x y).length):Ar c (ix (homL c x y) i) x y:=mem_ix homL_mem hi
end
section
attribute [local simp] Qa Qy Qq QK Qu
theorem inv_iff {c:Cat} {a:Int}:0≤inv c a↔∃ g:Nat,g<c.fr.length∧Inv c a g:=by
 unfold inv;rcases Q3k c.fr.length (Inv c a) with ⟨e,h⟩|⟨k,hk,pk,e⟩
 ·rw [e];exact ⟨fun q=>by omega,fun ⟨g,hg,q⟩=>absurd q (h g hg)⟩
 rw [e];exact ⟨fun _=>⟨k,hk,pk⟩,fun _=>by omega⟩
def Io (c:Cat) (x y:Nat):Prop:=∃ a:Int,Ar c a x y∧0≤inv c a
theorem Io.symm {c:Cat} (hc:c.Is) {x y:Nat} (h:Io c x y):Io c y x:=by
 obtain ⟨a,ha,hi⟩:=h;obtain ⟨g,hg,⟨q1,q2⟩,q3,q4⟩:=inv_iff.1 hi;have n:=ha.1;refine ⟨(g:Int),⟨by omega,by rw [q1,ha.2.2],by rw [q2,ha.2.1]⟩,inv_iff.2 ⟨a.toNat,by omega,?_⟩⟩;unfold Inv;rw [Int.toNat_of_nonneg n.1,q1,q2];exact ⟨⟨rfl,rfl⟩,q4,q3⟩
structure UF (j:List Int) (r:Nat→Nat) (n:Nat):Prop where
 len:j.length=n
 b:∀ x:Nat,x<n→0≤ix j x∧ix j x≤x
 le:∀ x,x<n→r x≤x
 fix:∀ x,x<n→ix j (r x:Nat)=(r x:Int)
 st:∀ x:Nat,x<n→r (ix j x).toNat=r x
 tip:∀ x:Nat,x<n→ix j x=x→r x=x
theorem Q2e {p:List Int} {f:Int} {i:Nat} (h:i<p.length):ix (p.set i f) i=f:=by simp [ix,List.getD_eq_getElem?_getD,h]
theorem Q2f {p:List Int} {f:Int} {i j:Nat} (h:i ≠ j):ix (p.set i f) j=ix p j:=by simp [ix,List.getD_eq_getElem?_getD,List.getElem?_set,h]
theorem UF.half {j:List Int} {r:Nat→Nat} {n x:Nat} (h:UF j r n) (hx:x<n):UF (j.set x (ix j (ix j x))) r n:=by
 have b1:=h.b x hx;obtain ⟨y,hy⟩:=Int.eq_ofNat_of_zero_le b1.1;rw [hy] at b1 ⊢;have b2:=h.b y (by omega);have s1:=h.st x hx;rw [hy] at s1;have s2:=h.st y (by omega);simp only [Int.toNat_natCast] at s1;refine ⟨by simp [h.len],fun z hz=>?_,h.le,fun z hz=>?_,fun z hz=>?_,fun z hz e=>?_⟩
 ·by_cases q:x=z
  ·subst q;rw [Q2e (by rw [h.len];exact hx)];omega
  rw [Q2f q];exact h.b z hz
 ·by_cases q:x=r z
  ·rw [← q,Q2e (by rw [h.len];exact hx)];have f:=h.fix z hz;rw [← q,hy] at f;have:y=x:=(by omega);subst this;exact hy
  rw [Q2f q];exact h.fix z hz
 ·by_cases q:x=z
  ·subst q;rw [Q2e (by rw [h.len];exact hx),s2,s1]
  rw [Q2f q];exact h.st z hz
 by_cases q:x=z
 ·subst q;rw [Q2e (by rw [h.len];exact hx)] at e;exact h.tip x hx (by omega)
 rw [Q2f q] at e;exact h.tip z hz e
theorem Q7a {r:Nat→Nat} {n:Nat}:∀ (x:Nat) (j:List Int) (F:Nat),UF j r n→x<n→x<F→∃ j',Qt (σ:=List Int × Int) (ε:=List Int × Int) (fun s64 =>
        ass (0≤s64.2∧s64.2<(s64.1.length:Int)) <|
        if ¬ ((ix s64.1 s64.2)=s64.2) then
         ass (0≤s64.2∧s64.2<(s64.1.length:Int)) <|
         ass (0≤ix s64.1 s64.2∧ix s64.1 s64.2<(s64.1.length:Int)) <|
         ass (0≤s64.2∧s64.2<(s64.1.length:Int)) <|
         ass (0≤s64.2∧s64.2<((s64.1.set s64.2.toNat (ix s64.1 (ix s64.1 s64.2))).length:Int)) <|
         some (Ctl.next (s64.1.set s64.2.toNat (ix s64.1 (ix s64.1 s64.2)),ix (s64.1.set s64.2.toNat (ix s64.1 (ix s64.1 s64.2))) s64.2))
        else
         some (Ctl.ret (s64.1,s64.2))) F (j,(x:Int))=some (j',(r x:Int))∧UF j' r n:=by
 intro x
 induction x using Nat.strongRecOn with
 | _ x ih =>
  intro j F h hx hF;obtain ⟨F,rfl⟩:∃ F',F=F' + 1:=⟨F - 1,by omega⟩;have b1:=h.b x hx;have hl:=h.len;simp only [Qt];rw [Q3 (by omega)]
  by_cases q:ix j x=x
  ·rw [if_neg (by simp [q])];exact ⟨j,by rw [h.tip x hx q],h⟩
  rw [if_pos q,Q3 (by omega),Q3 (by omega),Q3 (by omega),Q3 (by simp;omega)];obtain ⟨y,hy⟩:=Int.eq_ofNat_of_zero_le b1.1;have b2:=h.b y (by omega);obtain ⟨z,hz⟩:=Int.eq_ofNat_of_zero_le b2.1;have s1:=h.st x hx;rw [hy] at s1;simp only [Int.toNat_natCast] at s1;have s2:=h.st y (by omega);rw [hz] at s2;simp only [Int.toNat_natCast] at s2;have hh:=h.half hx;simp only [Int.toNat_natCast];rw [Q2e (by omega),hy,hz];rw [hy,hz] at hh;rw [show r x=r z by rw [s2,s1]];exact ih z (by omega) _ F hh (by omega) (by omega)
theorem UF.join {j:List Int} {r:Nat→Nat} {n a b:Nat} (h:UF j r n) (ha:a<n) (hb:b<n) (ra:r a=a) (rb:r b=b) (hab:a≤b):UF (j.set b a) (fun z=>if r z=b then a else r z) n:=by
 have fa:=h.fix a ha;have fb:=h.fix b hb;rw [ra] at fa;rw [rb] at fb;refine ⟨by simp [h.len],fun z hz=>?_,fun z hz=>?_,fun z hz=>?_,fun z hz=>?_,fun z hz e=>?_⟩
 ·by_cases q:b=z
  ·subst q;rw [Q2e (by rw [h.len];exact hb)];omega
  rw [Q2f q];exact h.b z hz
 ·have:=h.le z hz;split<;>omega
 ·split
  ·by_cases q:b=a
   ·subst q;rw [Q2e (by rw [h.len];exact hb)]
   rw [Q2f q];exact fa
  rename_i q;rw [Q2f (fun e=>q e.symm)];exact h.fix z hz
 ·by_cases q:b=z
  ·subst q;rw [Q2e (by rw [h.len];exact hb),Int.toNat_natCast,ra,rb,if_pos rfl];split<;>rfl
  rw [Q2f q,h.st z hz]
 by_cases q:b=z
 ·subst q;rw [Q2e (by rw [h.len];exact hb)] at e;rw [rb,if_pos rfl];omega
 rw [Q2f q] at e;rw [h.tip z hz e,if_neg (fun x=>q x.symm)]
end
section
attribute [local simp] Qa Qy Qq QK Qu
theorem Q4P {α:Type} (xs:List α) (k:Nat) (v z:α) {i:Nat} (h:i=xs.length):(xs++List.replicate (k+1) z).set i v=(xs++[v])++List.replicate k z:=by
 subst h;simp [List.replicate_succ]
theorem nrun_bind {σ ε β:Type} {body:σ→Option (Ctl σ ε)} {K:ε→Option β} {r:Option β} {s0:σ} (n:Nat) (g:Nat→σ) {e:ε} (h0:s0=g 0) (hn:n<4611686018427387904) (h:∀ i:Nat,i<n→body (g i)=some (.next (g (i+1)))) (he:body (g n)=some (.ret e)) (hk:K e=r):(Qt body fuel s0).bind K=r:=by
 rw [Q3m g n h0 hn h he];exact hk
theorem nloop_rel {σ ε:Type} {body:σ→Option (Ctl σ ε)} {I:Nat→σ→Prop} {J:ε→Prop} {n:Nat} (hs:∀ i s,i<n→I i s→(∃ s',body s=some (.next s')∧I (i+1) s')∨∃ e,body s=some (.ret e)∧J e) (he:∀ s,I n s→∃ e,body s=some (.ret e)∧J e) :
  ∀ (r i:Nat) (s:σ) (F:Nat),i+r=n→r<F→I i s→∃ e,Qt body F s=some e∧J e:=by
 intro r
 induction r with
 | zero =>
  intro i s F hi hF hI;obtain ⟨e,h1,h2⟩:=he s (by rw [show n=i by omega];exact hI);obtain ⟨F',rfl⟩:∃ F',F=F' + 1:=⟨F - 1,by omega⟩;simp only [Qt,h1];exact ⟨e,rfl,h2⟩
 | succ r ih =>
  intro i s F hi hF hI;obtain ⟨F',rfl⟩:∃ F',F=F' + 1:=⟨F - 1,by omega⟩;rcases hs i s (by omega) hI with ⟨s',h1,h2⟩|⟨e,h1,h2⟩
  ·simp only [Qt,h1];exact ih (i+1) s' F' (by omega) (by omega) h2
  simp only [Qt,h1];exact ⟨e,rfl,h2⟩
theorem Q1h {σ ε β:Type} {body:σ→Option (Ctl σ ε)} {K:ε→Option β} {s0:σ} {Q:Option β→Prop} (n:Nat) (I:Nat→σ→Prop) (J:ε→Prop) (hn:n<4611686018427387904) (h0:I 0 s0) (hs:∀ i s,i<n→I i s→(∃ s',body s=some (.next s')∧I (i+1) s')∨∃ e,body s=some (.ret e)∧J e)
  (he:∀ s,I n s→∃ e,body s=some (.ret e)∧J e) (hk:∀ e,J e→Q (K e)):Q ((Qt body fuel s0).bind K):=by
 obtain ⟨e,h1,h2⟩:=nloop_rel hs he n 0 s0 fuel (by omega) (by unfold fuel;omega) h0;rw [h1];exact hk e h2
end
attribute [local simp] unk unA unE unT unC flat eL eI Qs
noncomputable def Q2H (labels_:List Int):Option (List Int) :=
 ass (0≤(labels_.length:Int)∧(labels_.length:Int)≤1073741824) <|
 (Qt (σ:=(List (Int × Int)) × List Int × Int) (ε:=List Int) (fun s10 =>
  if s10.2.2<(labels_.length:Int) then
   ass (0≤s10.2.2∧s10.2.2<(labels_.length:Int)) <|
   (
    if ¬ (((QW (ix labels_ s10.2.2) s10.1).isSome)=true) then
     ass (s10.1.length<1099511627776) <|
     some (tset (ix labels_ s10.2.2) (s10.1.length:Int) s10.1,(s10.1.length:Int))
    else
     some (s10.1,(QW (ix labels_ s10.2.2) s10.1).getD 0):Option ((List (Int × Int)) × Int)).bind fun b13 =>
   ass (0≤s10.2.2∧s10.2.2<(s10.2.1.length:Int)) <|
   ass (B64 (s10.2.2+1)) <|
   some (Ctl.next (b13.1,s10.2.1.set s10.2.2.toNat b13.2,s10.2.2+1))
  else
   some (Ctl.ret s10.2.1)) fuel ([],List.replicate ((labels_.length:Int).toNat) 0,0)).bind fun b2 =>
 some b2
theorem Q8L (labels_:List Int) (r:List Int) (h:Q2H labels_=some r):Contract Try.prog 113 [lI labels_] (lI r):=by
 refine Qh (rvs:=[.tmp 2]) (rs:=[lI r]) Try.func113 rfl rfl rfl rfl (by simp [Try.f113]) fun F hN hP=>?_;unfold Q2H at h;refine Q1 (runQ hN fun K hK=>?_);simp;repeat refine sdQ ?_
 refine hK _ ?_;clear hK K;refine tn (Q4 (st':=⟨[(0,lI labels_)],[],0⟩) (wkQ8 []) (Q1 (Ql [] mo (by rw [hN];decide) fun K hK=>?_)));simp;repeat refine sdQ ?_
 refine hK _ ?_;clear hK K;refine tn (Q4 (st':=⟨[(0,lI labels_),(3,.mp 0)],[(0,.mapE (.int .i64) (Mii []))],1⟩) (wkQ8 [(0,0)]) (Q1 (runQ hN fun K hK=>?_)));replace ⟨a1,h⟩:=Q0 h;simp;repeat refine sdQ ?_
 refine hK _ ?_;clear hK K;refine tn (Q4 (st':=⟨[(0,lI labels_),(3,.mp 0),(4,.own 1 0 ((List.replicate ((labels_.length:Int).toNat) 0).length))],[(0,.mapE (.int .i64) (Mii [])),(1,rI (List.replicate ((labels_.length:Int).toNat) 0))],2⟩) (wkQ8 [(0,0),(1,1)]) (Q1 (Q1 (runQ hN fun K hK=>?_))));simp;repeat refine sdQ ?_
 refine hK _ (tn (Q4 (st':=⟨[(3,.mp 0),(4,.own 1 0 ((List.replicate ((labels_.length:Int).toNat) 0).length)),(13,lI labels_),(14,iV (labels_.length:Int)),(15,iV 0)],[(0,.mapE (.int .i64) (Mii [])),(1,rI (List.replicate ((labels_.length:Int).toNat) 0))],2⟩) (wkQ8 [(0,0),(1,1)]) ?_));clear hK K;replace ⟨e2,h,h2⟩:=bind_some h;refine Qe (fun b2:List Int=>⟨[(4,.own 0 0 b2.length)],[(0,rI b2)],1⟩) (fun b2=>b2=e2) ?_ ?_
 ·refine Q5 (Qn h (fun s10:(List (Int × Int)) × List Int × Int=>⟨[(3,.mp 0),(4,.own 1 0 s10.2.1.length),(13,lI labels_),(14,iV (labels_.length:Int)),(15,iV s10.2.2)],[(0,.mapE (.int .i64) (Mii s10.1)),(1,rI s10.2.1)],2⟩) (wkQ8 [(0,0),(1,1)]) ?_);clear h;intro k10 s10 c10 h hk10;refine Q1 (runQ hN fun K hK=>?_);simp;repeat refine sdQ ?_
  refine hK _ ?_;clear hK K;refine tn (Q1 (Q7 rfl (fun g=>?_) fun g=>?_))
  ·have g11:s10.2.2<(labels_.length:Int):=gQ;clear g;replace h:=if_l g11 h;refine Q8 (tn (Q1 (Q5 (Q1 (runQ hN fun K hK=>?_)))));replace ⟨a12,h⟩:=Q0 h;simp [at_I a12];(repeat refine sdQ ?_);refine hK _ ?_;clear hK K;refine tn (Q4 (st':=⟨[(3,.mp 0),(4,.own 1 0 s10.2.1.length),(5,iV s10.2.2),(6,iV (ix labels_ s10.2.2)),(13,lI labels_),(14,iV (labels_.length:Int)),(15,iV s10.2.2)],[(0,.mapE (.int .i64) (Mii s10.1)),(1,rI s10.2.1)],2⟩) (wkQ8 [(0,0),(1,1)]) (Q1 (Ql [] mo (by rw [hN];decide) fun K hK=>?_)));simp;(repeat refine sdQ ?_);refine hK _ ?_;clear hK K;refine tn (Q4 (st':=⟨[(3,.mp 0),(4,.own 1 0 s10.2.1.length),(5,iV s10.2.2),(6,iV (ix labels_ s10.2.2)),(7,iV ((QW (ix labels_ s10.2.2) s10.1).getD 0)),(8,.val (.bool ((QW (ix labels_ s10.2.2) s10.1).isSome))),(13,lI labels_),(14,iV (labels_.length:Int)),(15,iV s10.2.2)],[(0,.mapE (.int .i64) (Mii s10.1)),(1,rI s10.2.1)],2⟩) (wkQ8 [(0,0),(1,1)]) (Q1 (Q1 (runQ hN fun K hK=>?_))));simp;(repeat refine sdQ ?_);refine hK _ (tn ?_);clear hK K;replace ⟨e13,h,h13⟩:=bind_some h;refine Qe (fun b13:(List (Int × Int)) × Int=>⟨[(3,.mp 0),(4,.own 1 0 s10.2.1.length),(5,iV s10.2.2),(7,iV b13.2),(13,lI labels_),(14,iV (labels_.length:Int)),(15,iV s10.2.2)],[(0,.mapE (.int .i64) (Mii b13.1)),(1,rI s10.2.1)],2⟩) (fun b13=>b13=e13) ?_ ?_
   ·refine Q7 rfl (fun g=>?_) fun g=>?_
    ·have g14:¬ (((QW (ix labels_ s10.2.2) s10.1).isSome)=true):=gQ;clear g;replace h:=if_l g14 h;refine Q1 (Ql [29] mo (by rw [hN];decide) fun K hK=>?_);simp;(repeat refine sdQ ?_);refine hK _ ?_;clear hK K;refine tn (Q4 (st':=⟨[(3,.mp 0),(4,.own 1 0 s10.2.1.length),(5,iV s10.2.2),(6,iV (ix labels_ s10.2.2)),(7,iV (s10.1.length:Int)),(13,lI labels_),(14,iV (labels_.length:Int)),(15,iV s10.2.2)],[(0,.mapE (.int .i64) (Mii s10.1)),(1,rI s10.2.1)],2⟩) (wkQ8 [(0,0),(1,1)]) (Ql [] mo (by rw [hN];decide) fun K hK=>?_));replace ⟨a15,h⟩:=Q0 h;simp [a15];(repeat refine sdQ ?_);refine hK _ ?_;clear hK K;exact jn (b:=(tset (ix labels_ s10.2.2) (s10.1.length:Int) s10.1,(s10.1.length:Int))) (Option.some.inj h) (wkQ8 [(0,0),(1,1)])
    have g14:¬ (¬ (((QW (ix labels_ s10.2.2) s10.1).isSome)=true)):=by first|simpa using g|(simp at g;exact g)|(simp at g;omega)|exact fun q=>q (by simpa using g)
    clear g;replace h:=if_r g14 h;refine Q8 ?_;exact jn (b:=(s10.1,(QW (ix labels_ s10.2.2) s10.1).getD 0)) (Option.some.inj h) (wkQ8 [(0,0),(1,1)])
   intro b13 hb13;have h:=h13;(try rw [← hb13] at h);clear h13;(try dsimp only at h);refine runQ hN fun K hK=>?_;replace ⟨a16,h⟩:=Q0 h;simp [at_I a16];(repeat refine sdQ ?_);refine hK _ ?_;clear hK K;refine bn (tn (Q4 (st':=⟨[(3,.mp 0),(4,.own 1 0 ((s10.2.1.set s10.2.2.toNat b13.2).length)),(13,lI labels_),(14,iV (labels_.length:Int)),(15,iV s10.2.2)],[(0,.mapE (.int .i64) (Mii b13.1)),(1,rI (s10.2.1.set s10.2.2.toNat b13.2))],2⟩) (wkQ8 [(0,0),(1,1)]) (runQ hN fun K hK=>?_)));replace ⟨a17,h⟩:=Q0 h;simp [Qk a17];(repeat refine sdQ ?_);refine hK _ ?_;clear hK K;cases h;exact rn (s':=(b13.1,s10.2.1.set s10.2.2.toNat b13.2,s10.2.2+1)) hk10 (wkQ8 [(0,0),(1,1)])
  have g11:¬ (s10.2.2<(labels_.length:Int)):=gQ;clear g;replace h:=if_r g11 h;refine Qg (tx (lx (bh ?_)));cases h;exact jn (b:=s10.2.1) hk10 (wkQ8 [(1,0)])
 intro b2 hb2;have h:=h2;try rw [← hb2] at h
 clear h2;try dsimp only at h
 refine Q1 (runQ hN fun K hK=>?_);simp;repeat refine sdQ ?_
 refine hK _ (tn (Q4 (st':=⟨[(2,.own 0 0 b2.length)],[(0,rI b2)],1⟩) (wkQ8 [(0,0)]) (Qf ?_)));clear hK K;have hr:=Option.some.inj h;rw [← hr];refine ⟨_,(.tmp .nil),?_⟩;refine ⟨(.one rfl rfl .nil),[lI b2],[0],by simp [UA,U1,IA,I1,LA,L1,BA,B1,EA,E1,E2,eB,eI,eL],by simp,(UpL.refl _)⟩
attribute [local simp] unk unA unE unT unC flat eL eI Qs
noncomputable def Q25 (list_:List Int) (n_:Int):Option Int :=
 (Qt (σ:=Int) (ε:=Unit ⊕ Int) (fun s6 =>
  if s6<(list_.length:Int) then
   ass (0≤s6∧s6<(list_.length:Int)) <|
   if (ix list_ s6)=n_ then
    some (Ctl.ret (Sum.inr s6))
   else
    ass (B64 (s6+1)) <|
    some (Ctl.next (s6+1))
  else
   some (Ctl.ret (Sum.inl ()))) fuel 0).bind fun e1 =>
 match e1 with
 | .inl b1 =>
  some (-1)
 | .inr p1 =>
  some p1
theorem Q6E (list_:List Int) (n_:Int) (r:Int) (h:Q25 list_ n_=some r):Contract Try.prog 126 [lI list_,iV n_] (iV r):=by
 refine Qh (rvs:=[.tmp 4]) (rs:=[iV r]) Try.func126 rfl rfl rfl rfl (by simp [Try.f126]) fun F hN hP=>?_;unfold Q25 at h;refine Q1 (runQ hN fun K hK=>?_);simp;repeat refine sdQ ?_
 refine hK _ ?_;clear hK K;refine tn (Q4 (st':=⟨[(0,lI list_),(1,iV n_)],[],0⟩) (wkQ8 []) (Q1 (Q1 (runQ hN fun K hK=>?_))));simp;repeat refine sdQ ?_
 refine hK _ (tn (Q4 (st':=⟨[(0,lI list_),(1,iV n_),(5,iV 0)],[],0⟩) (wkQ8 []) ?_));clear hK K;replace ⟨e1,h,h1⟩:=bind_some h;refine Qe (fun b1:Unit=>⟨[],[],0⟩) (fun b1=>Sum.inl b1=e1) ?_ ?_
 ·refine Q5 (Qn h (fun s6:Int=>⟨[(0,lI list_),(1,iV n_),(5,iV s6)],[],0⟩) (wkQ8 []) ?_);clear h;intro k6 s6 c6 h hk6;refine Q1 (Q1 (runQ hN fun K hK=>?_));simp;repeat refine sdQ ?_
  refine hK _ ?_;clear hK K;refine tn (Q7 rfl (fun g=>?_) fun g=>?_)
  ·have g7:s6<(list_.length:Int):=gQ;clear g;replace h:=if_l g7 h;refine Q8 (tn (Q1 (Q5 (Q1 (runQ hN fun K hK=>?_)))));replace ⟨a8,h⟩:=Q0 h;simp [at_I a8];(repeat refine sdQ ?_);refine hK _ ?_;clear hK K;refine tn (Q7 rfl (fun g=>?_) fun g=>?_)
   ·have g9:(ix list_ s6)=n_:=gQ;clear g;replace h:=if_l g9 h;refine Q1 (runQ hN fun K hK=>?_);simp;(repeat refine sdQ ?_);refine hK _ (tn (Q4 (st':=⟨[(4,iV s6)],[],0⟩) (wkQ8 []) (Qf (br (tr (lr (br (tr ?_))))))));clear hK K;cases h;have q:_=e1:=hk6;have h:=h1;rw [← q] at h;clear q;(try dsimp only at h);have hr:=Option.some.inj h;rw [← hr];refine ⟨_,(.tmp .nil),?_⟩;refine ⟨(.one rfl rfl .nil),[iV s6],[],by simp [UA,U1,IA,I1,LA,L1,BA,B1,EA,E1,E2,eB,eI,eL],by simp,(UpL.refl _)⟩
   have g9:¬ ((ix list_ s6)=n_):=gQ;clear g;replace h:=if_r g9 h;refine Q8 (bn (tn (runQ hN fun K hK=>?_)));replace ⟨a10,h⟩:=Q0 h;simp [Qk a10];(repeat refine sdQ ?_);refine hK _ ?_;clear hK K;cases h;exact rn (s':=s6+1) hk6 (wkQ8 [])
  have g7:¬ (s6<(list_.length:Int)):=gQ;clear g;replace h:=if_r g7 h;refine Qg (tx (lx (bh ?_)));cases h;exact jn (b:=()) hk6 (wkQ8 [])
 intro b1 hb1;have h:=h1;try rw [← hb1] at h
 clear h1;try dsimp only at h
 refine Q1 (runQ hN fun K hK=>?_);simp;repeat refine sdQ ?_
 refine hK _ (tn (Q4 (st':=⟨[(4,iV (-1))],[],0⟩) (wkQ8 []) (Qf ?_)));clear hK K;have hr:=Option.some.inj h;rw [← hr];refine ⟨_,(.tmp .nil),?_⟩;refine ⟨(.one rfl rfl .nil),[iV (-1)],[],by simp [UA,U1,IA,I1,LA,L1,BA,B1,EA,E1,E2,eB,eI,eL],by simp,(UpL.refl _)⟩
attribute [local simp] unk unA unE unT unC flat eL eI Qs
noncomputable def Q1s (labels_:List Int):Option (List Int) :=
 (Qt (σ:=List Int × List Int × Int) (ε:=List Int) (fun s11 =>
  if s11.2.2<(labels_.length:Int) then
   ass (0≤s11.2.2∧s11.2.2<(labels_.length:Int)) <|
   (Q25 s11.2.1 (ix labels_ s11.2.2)).bind fun v14 =>
   (
    if v14<0 then
     ass (0≤s11.2.2∧s11.2.2<(labels_.length:Int)) <|
     ass ((s11.2.1++[ix labels_ s11.2.2]).length≤1073741824) <|
     some (s11.2.1++[ix labels_ s11.2.2],(s11.2.1.length:Int))
    else
     some (s11.2.1,v14):Option (List Int × Int)).bind fun b15 =>
   ass ((s11.1++[b15.2]).length≤1073741824) <|
   ass (B64 (s11.2.2+1)) <|
   some (Ctl.next (s11.1++[b15.2],b15.1,s11.2.2+1))
  else
   some (Ctl.ret s11.1)) fuel ([],[],0)).bind fun b1 =>
 some b1
theorem Q5d (labels_:List Int) (r:List Int) (h:Q1s labels_=some r):Contract Try.prog 106 [lI labels_] (lI r):=by
 refine Qh (rvs:=[.tmp 2]) (rs:=[lI r]) Try.func106 rfl rfl rfl rfl (by simp [Try.f106]) fun F hN hP=>?_;unfold Q1s at h;refine Q1 (runQ hN fun K hK=>?_);simp;repeat refine sdQ ?_
 refine hK _ ?_;clear hK K;refine tn (Q4 (st':=⟨[(0,lI labels_)],[],0⟩) (wkQ8 []) (Q1 (runQ hN fun K hK=>?_)));simp;repeat refine sdQ ?_
 refine hK _ ?_;clear hK K;refine tn (Q4 (st':=⟨[(0,lI labels_),(3,.own 0 0 0),(4,.own 1 0 0)],[(0,.mix 1 []),(1,.mix 1 [])],2⟩) (wkQ8 [(0,0),(1,1)]) (Q1 (Q1 (runQ hN fun K hK=>?_))));simp;repeat refine sdQ ?_
 refine hK _ (tn (Q4 (st':=⟨[(0,lI labels_),(3,.own 0 0 0),(4,.own 1 0 0),(5,iV 0)],[(0,.mix 1 []),(1,.mix 1 [])],2⟩) (wkQ8 [(0,0),(1,1)]) ?_));clear hK K;replace ⟨e1,h,h1⟩:=bind_some h;refine Qe (fun b1:List Int=>⟨[(3,.own 0 0 b1.length)],[(0,rI b1)],1⟩) (fun b1=>b1=e1) ?_ ?_
 ·refine Q5 (Qn h (fun s11:List Int × List Int × Int=>⟨[(0,lI labels_),(3,.own 0 0 s11.1.length),(4,.own 1 0 s11.2.1.length),(5,iV s11.2.2)],[(0,rI s11.1),(1,rI s11.2.1)],2⟩) (Q4c ⟨[(0,lI labels_),(3,.own 0 0 0),(4,.own 1 0 0),(5,iV 0)],[(0,rI []),(1,rI [])],2⟩ (Wk.nils [] (by simp) (by simp) (by simp [nlA]) (by simp [entN,nlL,nlA,UA,U1,IA,I1,LA,L1,BA,B1,EA,E1,E2,eB,eI,eL]) (by simp)) (wkQ8 [(0,0),(1,1)])) ?_);clear h;intro k11 s11 c11 h hk11;refine Q1 (Q1 (runQ hN fun K hK=>?_));simp;repeat refine sdQ ?_
  refine hK _ ?_;clear hK K;refine tn (Q7 rfl (fun g=>?_) fun g=>?_)
  ·have g12:s11.2.2<(labels_.length:Int):=gQ;clear g;replace h:=if_l g12 h;refine Q8 (tn (Q1 (Q5 (Q1 (runQ hN fun K hK=>?_)))));replace ⟨a13,h⟩:=Q0 h;simp [at_I a13];(repeat with_reducible refine sdQ ?_);replace ⟨v14,hv14,h⟩:=bind_some h;refine Q2 (Q6E _ _ v14 hv14) (.cons .w (.cons .val .nil)) ?_;simp [at_I a13];(repeat refine sdQ ?_);refine hK _ ?_;clear hK K;refine tn (Q4 (st':=⟨[(0,lI labels_),(3,.own 0 0 s11.1.length),(4,.own 1 0 s11.2.1.length),(5,iV s11.2.2),(6,iV v14)],[(0,rI s11.1),(1,rI s11.2.1)],2⟩) (wkQ8 [(0,0),(1,1)]) (Q1 (Q1 (runQ hN fun K hK=>?_))));simp;(repeat refine sdQ ?_);refine hK _ (tn ?_);clear hK K;replace ⟨e15,h,h15⟩:=bind_some h;refine Qe (fun b15:List Int × Int=>⟨[(0,lI labels_),(3,.own 0 0 s11.1.length),(4,.own 1 0 b15.1.length),(5,iV s11.2.2),(6,iV b15.2)],[(0,rI s11.1),(1,rI b15.1)],2⟩) (fun b15=>b15=e15) ?_ ?_
   ·refine Q7 rfl (fun g=>?_) fun g=>?_
    ·have g16:v14<0:=gQ;clear g;replace h:=if_l g16 h;refine Q1 (runQ hN fun K hK=>?_);simp;(repeat refine sdQ ?_);refine hK _ ?_;clear hK K;refine tn (Q4 (st':=⟨[(0,lI labels_),(3,.own 0 0 s11.1.length),(4,.own 1 0 s11.2.1.length),(5,iV s11.2.2),(6,iV (s11.2.1.length:Int))],[(0,rI s11.1),(1,rI s11.2.1)],2⟩) (wkQ8 [(0,0),(1,1)]) (runQ hN fun K hK=>?_));replace ⟨a17,h⟩:=Q0 h;replace ⟨a18,h⟩:=Q0 h;(try simp only [List.length_append,List.length_cons,List.length_nil] at a18);simp [at_I a17,a18];(repeat refine sdQ ?_);refine hK _ ?_;clear hK K;exact jn (b:=(s11.2.1++[ix labels_ s11.2.2],(s11.2.1.length:Int))) (Option.some.inj h) (wkQ8 [(0,0),(3,1)])
    have g16:¬ (v14<0):=gQ;clear g;replace h:=if_r g16 h;refine Q8 ?_;exact jn (b:=(s11.2.1,v14)) (Option.some.inj h) (wkQ8 [(0,0),(1,1)])
   intro b15 hb15;have h:=h15;(try rw [← hb15] at h);clear h15;(try dsimp only at h);refine runQ hN fun K hK=>?_;replace ⟨a19,h⟩:=Q0 h;(try simp only [List.length_append,List.length_cons,List.length_nil] at a19);simp [a19];(repeat refine sdQ ?_);refine hK _ ?_;clear hK K;refine bn (tn (Q4 (st':=⟨[(0,lI labels_),(3,.own 0 0 ((s11.1++[b15.2]).length)),(4,.own 1 0 b15.1.length),(5,iV s11.2.2)],[(0,rI (s11.1++[b15.2])),(1,rI b15.1)],2⟩) (wkQ8 [(3,0),(1,1)]) (runQ hN fun K hK=>?_)));replace ⟨a20,h⟩:=Q0 h;simp [Qk a20];(repeat refine sdQ ?_);refine hK _ ?_;clear hK K;cases h;exact rn (s':=(s11.1++[b15.2],b15.1,s11.2.2+1)) hk11 (wkQ8 [(0,0),(1,1)])
  have g12:¬ (s11.2.2<(labels_.length:Int)):=gQ;clear g;replace h:=if_r g12 h;refine Qg (tx (lx (bh ?_)));cases h;exact jn (b:=s11.1) hk11 (wkQ8 [(0,0)])
 intro b1 hb1;have h:=h1;try rw [← hb1] at h
 clear h1;try dsimp only at h
 refine Q1 (runQ hN fun K hK=>?_);simp;repeat refine sdQ ?_
 refine hK _ (tn (Q4 (st':=⟨[(2,.own 0 0 b1.length)],[(0,rI b1)],1⟩) (wkQ8 [(0,0)]) (Qf ?_)));clear hK K;have hr:=Option.some.inj h;rw [← hr];refine ⟨_,(.tmp .nil),?_⟩;refine ⟨(.one rfl rfl .nil),[lI b1],[0],by simp [UA,U1,IA,I1,LA,L1,BA,B1,EA,E1,E2,eB,eI,eL],by simp,(UpL.refl _)⟩
section
attribute [local simp] Qa Qy Qq QK Qu
theorem flt_pre {p:Nat→Prop} {y:Nat} (hp:p y):∀ i,y<i→∃ s,flt i p=flt y p++(y:Int) :: s:=by
 intro i
 induction i with
 | zero=>intro h;omega
 | succ i ih =>
  intro h
  by_cases q:y=i
  ·subst q;exact ⟨[],by rw [Q41 hp]⟩
  obtain ⟨s,e⟩:=ih (by omega)
  by_cases hi:p i
  ·exact ⟨s++[(i:Int)],by rw [Q41 hi,e];simp⟩
  exact ⟨s,by rw [Q40 hi,e]⟩
noncomputable def cn (r:Nat→Nat) (k:Nat):Nat:=(flt k fun y=>r y=y).length
theorem cn_pos {r:Nat→Nat} {k:Nat} (h:r k=k):cn r (k+1)=cn r k+1:=by unfold cn;rw [Q41 (p:=fun y=>r y=y) h];simp
theorem cn_neg {r:Nat→Nat} {k:Nat} (h:¬ r k=k):cn r (k+1)=cn r k:=by unfold cn;rw [Q40 (p:=fun y=>r y=y) h]
theorem cn_le (r:Nat→Nat) (k:Nat):cn r k≤k:=Q4H _ _
noncomputable def cls (r:Nat→Nat) (n:Nat):List Int:=tab n fun x=>(cn r (r x):Int)
noncomputable def lds (r:Nat→Nat) (n:Nat):List Int:=flt n fun y=>r y=y
noncomputable def idxL (L:List Int) (v:Int):Int:=fstN L.length fun i=>ix L i=v
theorem e_l01Idx {L:List Int} {v:Int} (hl:L.length≤1000000):Q25 L v=some (idxL L v):=by
 unfold Q25;refine fstI L.length (fun i=>ix L i=v) (fun i=>Sum.inr i) (Sum.inl ()) (by omega) (fun i hi=>?_) (by rw [if_neg (by omega)]) ?_
 ·rw [if_pos (by omega),Q3 (by omega)]
  by_cases q:ix L i=v
  ·rw [if_pos q,Qm q];rfl
  rw [if_neg q,Qj q,Q3 (by unfold B64;omega)];rfl
 unfold idxL;rcases Q3k L.length (fun i=>ix L i=v) with ⟨e,_⟩|⟨k,_,_,e⟩
 ·rw [e];simp
 rw [e,if_pos (by omega)]
theorem idx_no {L:List Int} {v:Int} (h:v ∉ L):idxL L v = -1:=fst_no fun i hi e=>h (by rw [← e,← QL _ _ hi];exact List.getElem_mem hi)
theorem lds_mem {r:Nat→Nat} {n:Nat} {z:Int}:z∈lds r n↔∃ k:Nat,k<n∧r k=k∧z=(k:Int):=mem_flt
theorem seen_idx {L:List Int} {r:Nat→Nat} {n i:Nat} (hr:∀ x,x<n→r x≤x∧r (r x)=r x) (hq:∀ x y:Nat,x<n→y<n→(ix L x=ix L y↔r x=r y)) (hi:i<n):idxL ((lds r i).map (ix L)) (ix L i)=if r i=i then -1 else (cn r (r i):Int):=by
 have h:=hr i hi
 by_cases q:r i=i
 ·rw [if_pos q];refine idx_no fun z=>?_;obtain ⟨w,hw,e⟩:=List.mem_map.1 z;obtain ⟨k,hk,pk,rfl⟩:=lds_mem.1 hw;have:=(hq k i (by omega) hi).1 e;omega
 rw [if_neg q];obtain ⟨s,e⟩:=flt_pre (p:=fun y=>r y=y) h.2 i (by omega);have e':lds r i=lds r (r i)++(r i:Int) :: s:=e;have l1:(lds r (r i)).length=cn r (r i):=rfl;unfold idxL;refine fst_eq (by rw [e'];simp [l1]) ?_ fun k hk z=>?_
 ·have:ix ((lds r i).map (ix L)) (cn r (r i):Nat)=ix L (r i:Nat):=by
   rw [e',← l1];simp [ix,List.getD_eq_getElem?_getD]
  rw [this];exact (hq (r i) i (by omega) hi).2 h.2
 have hk':k<(lds r (r i)).length:=hk;have e2:ix ((lds r i).map (ix L)) k=ix L (ix (lds r (r i)) k):=by
  rw [e',List.map_append];simp only [ix,List.getD_eq_getElem?_getD,Int.toNat_natCast];rw [List.getElem?_append_left (by simpa using hk')];simp [hk',ix]
 obtain ⟨w,hw,pw,ew⟩:=lds_mem.1 (show ix (lds r (r i)) k∈lds r (r i) by rw [← QL _ _ hk'];exact List.getElem_mem hk');rw [e2,ew] at z;have:=(hq w i (by omega) hi).1 z;omega
theorem e_l01Cls {L:List Int} {r:Nat→Nat} {n:Nat} (hl:L.length=n) (hr:∀ x,x<n→r x≤x∧r (r x)=r x) (hq:∀ x y:Nat,x<n→y<n→(ix L x=ix L y↔r x=r y)) (hn:n≤1000):Q1s L=some (cls r n):=by
 unfold Q1s;refine nrun_bind (σ:=List Int × List Int × Int) n (fun i=>(cls r i,(lds r i).map (ix L),(i:Int))) rfl (by omega) (fun i hi=>?_) (e:=cls r n) ?_ rfl
 ·have h:=hr i hi;have l1:(lds r i).length=cn r i:=rfl;have l2:=cn_le r i;simp only;rw [if_pos (by omega),Q3 (by omega),e_l01Idx (by simp;omega),seen_idx hr hq hi];simp only [Option.bind_some]
  by_cases q:r i=i
  ·rw [if_pos q,if_pos (by omega),Q3 (by omega),Q3 (by simp;omega)];simp only [Option.bind_some];rw [Q3 (by simp [cls];omega),Q3 (by unfold B64;omega)];have e2:cls r (i+1)=cls r i++[(((lds r i).map (ix L)).length:Int)]:=(by unfold cls;rw [Q11,q,List.length_map,l1]);have e3:(lds r (i+1)).map (ix L)=(lds r i).map (ix L)++[ix L i]:=(by unfold lds;rw [Q41 (p:=fun y=>r y=y) q];simp);rw [e2,e3];rfl
  rw [if_neg q,if_neg (by omega)];simp only [Option.bind_some];rw [Q3 (by simp [cls];omega),Q3 (by unfold B64;omega)];have e2:cls r (i+1)=cls r i++[(cn r (r i):Int)]:=by unfold cls;rw [Q11]
  have e3:lds r (i+1)=lds r i:=by unfold lds;rw [Q40 (p:=fun y=>r y=y) q]
  rw [e2,e3];rfl
 simp only;rw [if_neg (by omega)]
theorem tset_new {α β:Type} [DecidableEq α] (k:α) (v:β):∀ m:List (α × β),QW k m=none→(tset k v m).length=m.length+1:=by
 intro m
 induction m with
 | nil=>intro _;rfl
 | cons p t ih =>
  intro h;obtain ⟨a,x⟩:=p;unfold QW at h;split at h
  ·cases h
  rename_i q;unfold tset;rw [if_neg q];simp [ih h]
theorem Q5r {α β:Type} [DecidableEq α] (k k':α) (v:β) (m:List (α × β)):QW k (tset k' v m)=if k'=k then some v else QW k m:=by
 induction m with
 | nil=>simp [tset,QW]
 | cons p t ih =>
  obtain ⟨a,x⟩:=p;unfold tset;split
  ·rename_i h1;subst h1
   by_cases h2:a=k<;>simp [QW,h2]
  rename_i h1;simp only [QW,ih]
  by_cases h2:a=k
  ·subst h2;rw [if_pos rfl,if_neg (fun e=>h1 e.symm),if_pos rfl]
  rw [if_neg h2,if_neg h2]
theorem e_normal {r:Nat→Nat} {n:Nat} (hr:∀ x,x<n→r x≤x∧r (r x)=r x) (hn:n≤1000):Q2H (tab n fun x=>(r x:Int))=some (cls r n):=by
 unfold Q2H;rw [Q3 (by simp;omega)];refine Q1h (σ:=(List (Int × Int)) × List Int × Int) (Q:=fun z=>z=some (cls r n)) n (fun i s=>s.2=(cls r i++List.replicate (n - i) 0,(i:Int))∧s.1.length=cn r i∧(∀ y:Nat,y<i→r y=y→QW (y:Int) s.1=some (cn r y:Int))∧∀ y:Nat,i≤y→QW (y:Int) s.1=none) (fun e=>e=cls r n) (by omega) ⟨by simp [cls,Q21],rfl,fun y hy=>by omega,fun y _=>rfl⟩ ?_ ?_ (fun e he=>by rw [he])
 ·rintro i ⟨m,L,j⟩ hi ⟨e,hm,h1,h2⟩
  simp only [Prod.mk.injEq] at e;obtain ⟨rfl,rfl⟩:=e;simp only at hm h1 h2;have h:=hr i hi;have l2:=cn_le r i;have ek:n - i=(n - (i+1))+1:=by omega
  simp only [Q1X];rw [if_pos (by omega),Q3 (by omega),Q4g _ _ hi]
  by_cases q:r i=i
  ·rw [q,if_pos (by rw [h2 i (Nat.le_refl _)];simp),Q3 (by omega)];simp only [Option.bind_some];rw [Q3 (by simp [cls];omega),Q3 (by unfold B64;omega)];refine .inl ⟨_,rfl,?_,?_,fun y hy hq=>?_,fun y hy=>?_⟩
   ·refine Prod.ext ?_ (by push_cast;rfl);simp only [Int.toNat_natCast];rw [ek,Q4P _ _ _ _ (by simp [cls])]
    congr 1
    unfold cls;rw [Q11,q,hm]
   ·simp only;rw [tset_new _ _ _ (h2 i (Nat.le_refl _)),cn_pos q,hm]
   ·simp only;rw [Q5r]
    by_cases z:i=y
    ·subst z;rw [if_pos rfl,hm]
    rw [if_neg (by omega)];exact h1 y (by omega) hq
   simp only;rw [Q5r,if_neg (by omega)];exact h2 y (by omega)
  have e:=h1 (r i) (by omega) h.2;rw [e,if_neg (by simp)];simp only [Option.bind_some,Option.getD_some];rw [Q3 (by simp [cls];omega),Q3 (by unfold B64;omega)];refine .inl ⟨_,rfl,?_,?_,fun y hy hq=>?_,fun y hy=>h2 y (by omega)⟩
  ·refine Prod.ext ?_ (by push_cast;rfl);simp only [Int.toNat_natCast];rw [ek,Q4P _ _ _ _ (by simp [cls])]
   congr 1
   unfold cls;rw [Q11]
  ·simp only;rw [cn_neg q,hm]
  have:y ≠ i:=fun z=>q (by rw [← z];exact hq);exact h1 y (by omega) hq
 rintro ⟨m,L,j⟩ ⟨e,hm,h1,h2⟩
 simp only [Prod.mk.injEq] at e;obtain ⟨rfl,rfl⟩:=e;simp only [Q1X];rw [if_neg (by omega)];exact ⟨_,rfl,by simp⟩
end
section
attribute [local simp] Qa Qy Qq QK Qu
structure UI (c:Cat) (j:List Int) (r:Nat→Nat) (i:Nat):Prop where
 u:UF j r c.id.length
 io:∀ x,x<c.id.length→Io c (r x) x
 st:∀ a:Nat,a<i→0≤inv c a→r (ix c.fr a).toNat=r (ix c.to a).toNat
theorem UF.rr {j:List Int} {r:Nat→Nat} {n x:Nat} (h:UF j r n) (hx:x<n):r (r x)=r x:=h.tip (r x) (by have:=h.le x hx;omega) (h.fix x hx)
end
attribute [local simp] unk unA unE unT unC flat eL eI Qs
noncomputable def Q2p (n_:Int) (pairs_:List (List Int)):Option (List Int) :=
 (Qt (σ:=List Int × Int) (ε:=List Int) (fun s5 =>
  if s5.2<n_ then
   ass ((s5.1++[s5.2]).length≤1073741824) <|
   ass (B64 (s5.2+1)) <|
   some (Ctl.next (s5.1++[s5.2],s5.2+1))
  else
   some (Ctl.ret s5.1)) fuel ([],0)).bind fun b1 =>
 (Qt (σ:=List Int × Int) (ε:=List Int) (fun s36 =>
  if s36.2<(pairs_.length:Int) then
   (
    ass (0≤s36.2∧s36.2<(pairs_.length:Int)) <|
    ass ((0:Int)≤0∧0<((rx pairs_ s36.2).length:Int)) <|
    ass (0≤ix (rx pairs_ s36.2) 0∧ix (rx pairs_ s36.2) 0<(s36.1.length:Int)) <|
    ass (0≤s36.2∧s36.2<(pairs_.length:Int)) <|
    ass ((0:Int)≤1∧1<((rx pairs_ s36.2).length:Int)) <|
    ass (0≤ix (rx pairs_ s36.2) 1∧ix (rx pairs_ s36.2) 1<(s36.1.length:Int)) <|
    (Qt (σ:=List Int × Int) (ε:=List Int) (fun s53 =>
     (
      if s53.2<(s53.1.length:Int) then
       some ((ix s36.1 (ix (rx pairs_ s36.2) 0)) != (ix s36.1 (ix (rx pairs_ s36.2) 1)))
      else
       some false:Option (Bool)).bind fun b54 =>
     if b54=true then
      (
       ass (0≤s53.2∧s53.2<(s53.1.length:Int)) <|
       if (ix s53.1 s53.2)=(ix s36.1 (ix (rx pairs_ s36.2) 1)) then
        ass (0≤s53.2∧s53.2<(s53.1.length:Int)) <|
        some (s53.1.set s53.2.toNat (ix s36.1 (ix (rx pairs_ s36.2) 0)))
       else
        some s53.1:Option (List Int)).bind fun b57 =>
      ass (B64 (s53.2+1)) <|
      some (Ctl.next (b57,s53.2+1))
     else
      some (Ctl.ret s53.1)) fuel (s36.1,0)).bind fun p53 =>
    some p53:Option (List Int)).bind fun b38 =>
   ass (B64 (s36.2+1)) <|
   some (Ctl.next (b38,s36.2+1))
  else
   some (Ctl.ret s36.1)) fuel (b1,0)).bind fun b9 =>
 (Q1s b9).bind fun v63 =>
 some v63
@[simp] abbrev YO (a:List Int × Int) (b:List (List Int)) (c:List (Nat × AV)):List (Nat × AV):=(7,iV a.2)::(8,iV (ix a.1 (ix (rx b a.2) 0)))::(9,iV (ix a.1 (ix (rx b a.2) 1)))::c
@[simp] abbrev Y08 (a:List (List Int)) (b:List Int × Int) (c:List (Nat × AV)):List (Nat × AV):=(1,.lst true 1 (Ls a))::(5,.own 0 0 b.1.length)::c
theorem Q7r (n_:Int) (pairs_:List (List Int)) (r:List Int) (h:Q2p n_ pairs_=some r):Contract Try.prog 73 [iV n_,.lst true 1 (Ls pairs_)] (lI r):=by
 refine Qh (rvs:=[.tmp 4]) (rs:=[lI r]) Try.func73 rfl rfl rfl rfl (by simp [Try.f73]) fun F hN hP=>?_;unfold Q2p at h;refine Q1 (runQ hN fun K hK=>?_);simp;repeat refine sdQ ?_
 refine hK _ ?_;clear hK K;refine tn (Q4 (st':=⟨[(0,iV n_),(1,.lst true 1 (Ls pairs_))],[],0⟩) (wkQ8 []) (Q1 (runQ hN fun K hK=>?_)));simp;repeat refine sdQ ?_
 refine hK _ ?_;clear hK K;refine tn (Q4 (st':=⟨[(0,iV n_),(1,.lst true 1 (Ls pairs_)),(5,.own 0 0 0)],[(0,.mix 1 [])],1⟩) (wkQ8 [(0,0)]) (Q1 (Q1 (runQ hN fun K hK=>?_))));simp;repeat refine sdQ ?_
 refine hK _ (tn (Q4 (st':=⟨[(0,iV n_),(1,.lst true 1 (Ls pairs_)),(5,.own 0 0 0),(6,iV 0)],[(0,.mix 1 [])],1⟩) (wkQ8 [(0,0)]) ?_));clear hK K;replace ⟨e1,h,h1⟩:=bind_some h;refine Qe (fun b1:List Int=>⟨[(1,.lst true 1 (Ls pairs_)),(5,.own 0 0 b1.length)],[(0,rI b1)],1⟩) (fun b1=>b1=e1) ?_ ?_
 ·refine Q5 (Qn h (fun s5:List Int × Int=>⟨(0,iV n_)::Y08 pairs_ s5 [(6,iV s5.2)],[(0,rI s5.1)],1⟩) (Q4c ⟨[(0,iV n_),(1,.lst true 1 (Ls pairs_)),(5,.own 0 0 0),(6,iV 0)],[(0,rI [])],1⟩ (Wk.nils [] (by simp) (by simp) (by simp [nlA]) (by simp [entN,nlL,nlA,UA,U1,IA,I1,LA,L1,BA,B1,EA,E1,E2,eB,eI,eL]) (by simp)) (wkQ8 [(0,0)])) ?_);clear h;intro k5 s5 c5 h hk5;refine Q1 (Q1 (runQ hN fun K hK=>?_));simp;repeat refine sdQ ?_
  refine hK _ ?_;clear hK K;refine tn (Q7 rfl (fun g=>?_) fun g=>?_)
  ·have g6:s5.2<n_:=gQ;clear g;replace h:=if_l g6 h;refine Q8 (tn (Q1 (Q5 (runQ hN fun K hK=>?_))));replace ⟨a7,h⟩:=Q0 h;(try simp only [List.length_append,List.length_cons,List.length_nil] at a7);simp [a7];(repeat refine sdQ ?_);refine hK _ ?_;clear hK K;refine bn (tn (Q4 (st':=⟨[(0,iV n_),(1,.lst true 1 (Ls pairs_)),(5,.own 0 0 ((s5.1++[s5.2]).length)),(6,iV s5.2)],[(0,rI (s5.1++[s5.2]))],1⟩) (wkQ8 [(2,0)]) (runQ hN fun K hK=>?_)));replace ⟨a8,h⟩:=Q0 h;simp [Qk a8];(repeat refine sdQ ?_);refine hK _ ?_;clear hK K;cases h;exact rn (s':=(s5.1++[s5.2],s5.2+1)) hk5 (wkQ8 [(0,0)])
  have g6:¬ (s5.2<n_):=gQ;clear g;replace h:=if_r g6 h;refine Qg (tx (lx (bh ?_)));cases h;exact jn (b:=s5.1) hk5 (wkQ8 [(0,0)])
 intro b1 hb1;have h:=h1;try rw [← hb1] at h
 clear h1;try dsimp only at h
 refine Q1 (Q1 (runQ hN fun K hK=>?_));simp;repeat refine sdQ ?_
 refine hK _ (tn (Q4 (st':=⟨[(1,.lst true 1 (Ls pairs_)),(5,.own 0 0 b1.length),(7,iV 0)],[(0,rI b1)],1⟩) (wkQ8 [(0,0)]) ?_));clear hK K;replace ⟨e9,h,h9⟩:=bind_some h;refine Qe (fun b9:List Int=>⟨[(5,.own 0 0 b9.length)],[(0,rI b9)],1⟩) (fun b9=>b9=e9) ?_ ?_
 ·refine Q5 (Qn h (fun s36:List Int × Int=>⟨Y08 pairs_ s36 [(7,iV s36.2)],[(0,rI s36.1)],1⟩) (wkQ8 [(0,0)]) ?_);clear h;intro k36 s36 c36 h hk36;refine Q1 (Q1 (runQ hN fun K hK=>?_));simp;repeat refine sdQ ?_
  refine hK _ ?_;clear hK K;refine tn (Q7 rfl (fun g=>?_) fun g=>?_)
  ·have g37:s36.2<(pairs_.length:Int):=gQ;clear g;replace h:=if_l g37 h;refine Q8 (tn (Q1 ?_));replace ⟨e38,h,h38⟩:=bind_some h;refine Qe (fun b38:List Int=>⟨[(1,.lst true 1 (Ls pairs_)),(5,.own 0 0 b38.length),(7,iV s36.2)],[(0,rI b38)],1⟩) (fun b38=>b38=e38) ?_ ?_
   ·refine Q5 (Q1 (runQ hN fun K hK=>?_));replace ⟨a39,h⟩:=Q0 h;replace ⟨a40,h⟩:=Q0 h;replace ⟨a41,h⟩:=Q0 h;replace ⟨a42,h⟩:=Q0 h;replace ⟨a43,h⟩:=Q0 h;replace ⟨a44,h⟩:=Q0 h;simp [at_L a39,(show (Is (rx pairs_ s36.2))[0]? = some [iV (ix (rx pairs_ s36.2) 0)] from at_I (j:=0) a40),at_I a41,at_L a42,(show (Is (rx pairs_ s36.2))[1]? = some [iV (ix (rx pairs_ s36.2) 1)] from at_I (j:=1) a43),at_I a44];(repeat refine sdQ ?_);refine hK _ ?_;clear hK K;refine tn (Q4 (st':=⟨Y08 pairs_ s36 (YO s36 pairs_ []),[(0,rI s36.1)],1⟩) (wkQ8 [(0,0)]) (Q1 (runQ hN fun K hK=>?_)));simp;(repeat refine sdQ ?_);refine hK _ (tn (Q4 (st':=⟨Y08 pairs_ s36 (YO s36 pairs_ [(10,iV 0)]),[(0,rI s36.1)],1⟩) (wkQ8 [(0,0)]) (Q5 ?_)));clear hK K;replace ⟨e53,he53,h53⟩:=bind_some h;refine Qn he53 (fun s53:List Int × Int=>⟨Y08 pairs_ s53 (YO s36 pairs_ [(10,iV s53.2)]),[(0,rI s53.1)],1⟩) (wkQ8 [(0,0)]) ?_;intro k53 s53 c53 h hk53;refine Q1 (Q1 ?_);replace ⟨e54,h,h54⟩:=bind_some h;refine Qe (fun b54:Bool=>⟨Y08 pairs_ s53 (YO s36 pairs_ [(10,iV s53.2),(53,.val (.bool b54))]),[(0,rI s53.1)],1⟩) (fun b54=>b54=e54) ?_ ?_
    ·refine runQ hN fun K hK=>?_;simp;(repeat with_reducible refine sdQ ?_);refine Qo (fun g=>?_) (fun g=>?_)
     ·have g55:s53.2<(s53.1.length:Int):=gQ;clear g;replace h:=if_l g55 h;simp;(repeat refine sdQ ?_);refine hK _ ?_;exact jn (b:=(ix s36.1 (ix (rx pairs_ s36.2) 0)) != (ix s36.1 (ix (rx pairs_ s36.2) 1))) (Option.some.inj h) (wkQ8 [(0,0)])
     have g55:¬ (s53.2<(s53.1.length:Int)):=gQ;clear g;replace h:=if_r g55 h;simp;(repeat refine sdQ ?_);refine hK _ ?_;exact jn (b:=false) (Option.some.inj h) (wkQ8 [(0,0)])
    intro b54 hb54;have h:=h54;(try rw [← hb54] at h);clear h54;(try dsimp only at h);refine Q7 rfl (fun g=>?_) fun g=>?_
    ·have g56:b54=true:=gQ;clear g;replace h:=if_l g56 h;refine Q8 (tn (Q1 ?_));replace ⟨e57,h,h57⟩:=bind_some h;refine Qe (fun b57:List Int=>⟨(1,.lst true 1 (Ls pairs_))::(5,.own 0 0 b57.length)::YO s36 pairs_ [(10,iV s53.2)],[(0,rI b57)],1⟩) (fun b57=>b57=e57) ?_ ?_
     ·refine Q5 (Q1 (runQ hN fun K hK=>?_));replace ⟨a58,h⟩:=Q0 h;simp [at_I a58];(repeat refine sdQ ?_);refine hK _ ?_;clear hK K;refine tn (Q7 rfl (fun g=>?_) fun g=>?_)
      ·have g59:(ix s53.1 s53.2)=(ix s36.1 (ix (rx pairs_ s36.2) 1)):=gQ;clear g;replace h:=if_l g59 h;refine runQ hN fun K hK=>?_;replace ⟨a60,h⟩:=Q0 h;simp [at_I a60];(repeat refine sdQ ?_);refine hK _ (bn ?_);clear hK K;exact jn (b:=s53.1.set s53.2.toNat (ix s36.1 (ix (rx pairs_ s36.2) 0))) (Option.some.inj h) (wkQ8 [(0,0)])
      have g59:¬ ((ix s53.1 s53.2)=(ix s36.1 (ix (rx pairs_ s36.2) 1))):=gQ;clear g;replace h:=if_r g59 h;refine Q8 (bn ?_);exact jn (b:=s53.1) (Option.some.inj h) (wkQ8 [(0,0)])
     intro b57 hb57;have h:=h57;(try rw [← hb57] at h);clear h57;(try dsimp only at h);refine runQ hN fun K hK=>?_;replace ⟨a61,h⟩:=Q0 h;simp [Qk a61];(repeat refine sdQ ?_);refine hK _ ?_;clear hK K;cases h;exact rn (s':=(b57,s53.2+1)) hk53 (wkQ8 [(0,0)])
    have g56:¬ (b54=true):=gQ;clear g;replace h:=if_r g56 h;refine Qg (tx (lx (bh (bn ?_))));cases h;have q:_=e53:=hk53;have h:=h53;rw [← q] at h;clear q;(try dsimp only at h);exact jn (b:=s53.1) (Option.some.inj h) (wkQ8 [(0,0)])
   intro b38 hb38;have h:=h38;(try rw [← hb38] at h);clear h38;(try dsimp only at h);refine runQ hN fun K hK=>?_;replace ⟨a62,h⟩:=Q0 h;simp [Qk a62];(repeat refine sdQ ?_);refine hK _ ?_;clear hK K;cases h;exact rn (s':=(b38,s36.2+1)) hk36 (wkQ8 [(0,0)])
  have g37:¬ (s36.2<(pairs_.length:Int)):=gQ;clear g;replace h:=if_r g37 h;refine Qg (tx (lx (bh ?_)));cases h;exact jn (b:=s36.1) hk36 (wkQ8 [(0,0)])
 intro b9 hb9;have h:=h9;try rw [← hb9] at h
 clear h9;try dsimp only at h
 refine Q1 (runQ hN fun K hK=>?_);simp;repeat with_reducible refine sdQ ?_
 replace ⟨v63,hv63,h⟩:=bind_some h;refine Q2 (Q5d _ v63 hv63) (.cons .w .nil) ?_;simp;repeat refine sdQ ?_
 refine hK _ (tn (Q4 (st':=⟨[(4,.own 0 0 v63.length)],[(0,rI v63)],1⟩) (wkQ8 [(1,0)]) (Qf ?_)));clear hK K;have hr:=Option.some.inj h;rw [← hr];refine ⟨_,(.tmp .nil),?_⟩;refine ⟨(.one rfl rfl .nil),[lI v63],[0],by simp [UA,U1,IA,I1,LA,L1,BA,B1,EA,E1,E2,eB,eI,eL],by simp,(UpL.refl _)⟩
section
attribute [local simp] Qa Qy Qq QK Qu
structure PP (c:Cat) (L:List (List Int)) (i k:Nat):Prop where
 a:∀ p∈L,∃ y x:Nat,p=[(y:Int),(x:Int)]∧Io c x y
 b:∀ y x:Nat,y<x→x<i→Io c x y→[(y:Int),(x:Int)]∈L
 d:∀ y:Nat,y<k→Io c i y→[(y:Int),(i:Int)]∈L
 len:L.length≤i * 8+k
def rlb (l:List Int) (a b:Int) (i:Nat):List Int:=tab l.length fun z:Nat=>if z<i∧ix l z=b then a else ix l z
theorem tab_ix (l:List Int):tab l.length (fun z:Nat=>ix l z)=l:=by
 refine List.ext_getElem (by simp) fun i h1 h2=>?_;rw [QL l i h2];simp [tab]
theorem rlb_zero (l:List Int) (a b:Int):rlb l a b 0=l:=by
 have:rlb l a b 0=tab l.length (fun z:Nat=>ix l z):=Q3S fun i _=>by simp
 rw [this,tab_ix]
theorem rlb_all (l:List Int) (a b:Int):rlb l a b l.length=tab l.length fun z:Nat=>if ix l z=b then a else ix l z:=Q3S fun i hi=>by simp [hi]
theorem rlb_hit {l:List Int} {a b:Int} {i:Nat} (h:ix l i=b):(rlb l a b i).set i a=rlb l a b (i+1):=by
 refine List.ext_getElem (by simp [rlb]) fun j h1 h2=>?_;simp only [rlb,tab,List.getElem_set,List.getElem_map,List.getElem_range]
 by_cases e:i=j
 ·subst e;simp [h]
 have:(j<i)=(j<i+1):=propext ⟨fun _=>by omega,fun _=>by omega⟩;simp [e,this]
theorem rlb_miss {l:List Int} {a b:Int} {i:Nat} (h:¬ ix l i=b):rlb l a b i=rlb l a b (i+1):=Q3S fun j _=>by
 by_cases e:i=j
 ·subst e;simp [h]
 have:(j<i)=(j<i+1):=propext ⟨fun _=>by omega,fun _=>by omega⟩;simp [this]
end
section
attribute [local simp] Qa Qy Qq QK Qu
def jnr (r:Nat→Nat) (a b:Nat):Nat→Nat:=fun z=>if r z=max (r a) (r b) then min (r a) (r b) else r z
def RR (P:List (List Int)):Nat→Nat:=P.foldl (fun r p=>jnr r (ix p 0).toNat (ix p 1).toNat) fun z=>z
theorem RR_snoc (P:List (List Int)) (p:List Int):RR (P++[p])=jnr (RR P) (ix p 0).toNat (ix p 1).toNat:=by simp [RR]
theorem UF.jn {j:List Int} {r:Nat→Nat} {n a b:Nat} (h:UF j r n) (ha:a<n) (hb:b<n):UF (j.set (max (r a) (r b)) ((min (r a) (r b):Nat):Int)) (jnr r a b) n:=by
 have la:=h.le a ha;have lb:=h.le b hb;have e1:r (min (r a) (r b))=min (r a) (r b):=by
  rcases Nat.le_total (r a) (r b) with q|q
  ·rw [Nat.min_eq_left q];exact h.rr ha
  rw [Nat.min_eq_right q];exact h.rr hb
 have e2:r (max (r a) (r b))=max (r a) (r b):=by
  rcases Nat.le_total (r a) (r b) with q|q
  ·rw [Nat.max_eq_right q];exact h.rr hb
  rw [Nat.max_eq_left q];exact h.rr ha
 exact h.join (a:=min (r a) (r b)) (b:=max (r a) (r b)) (by omega) (by omega) e1 e2 (by omega)
theorem UF_id {n:Nat}:UF (iota n) (fun z=>z) n :=
 ⟨by simp,fun x hx=>by rw [Q4L _ (by omega) (by omega)];omega,fun x _=>Nat.le_refl _,fun x hx=>Q4L _ (by omega) (by omega),fun x hx=>by rw [Q4L _ (by omega) (by omega)];simp,fun x _ _=>rfl⟩
def Prs (n:Nat) (P:List (List Int)):Prop:=∀ p∈P,∃ a b:Nat,a<n∧b<n∧p=[(a:Int),(b:Int)]
theorem Prs.at {n:Nat} {P:List (List Int)} (h:Prs n P) {i:Nat} (hi:i<P.length):∃ a b:Nat,a<n∧b<n∧P[i]=[(a:Int),(b:Int)]:=h _ (List.getElem_mem hi)
theorem Q6H {P:List (List Int)} {i:Nat} (hi:i<P.length) {a b:Nat} (e:P[i]=[(a:Int),(b:Int)]):RR (P.take (i+1))=jnr (RR (P.take i)) a b:=by
 rw [List.take_succ_eq_append_getElem hi,RR_snoc,e];rfl
theorem RR_ufk {n:Nat} {P:List (List Int)} (h:Prs n P):∀ k,k≤P.length→∃ j,UF j (RR (P.take k)) n:=by
 intro k
 induction k with
 | zero=>intro _;exact ⟨iota n,UF_id⟩
 | succ k ih =>
  intro hk;obtain ⟨j,u⟩:=ih (by omega);obtain ⟨a,b,ha,hb,e⟩:=h.at (i:=k) (by omega);rw [Q6H (by omega) e];exact ⟨_,u.jn ha hb⟩
theorem RR_uf {n:Nat} {P:List (List Int)} (h:Prs n P):∃ j,UF j (RR P) n:=by
 have:=RR_ufk h P.length (Nat.le_refl _)
 rwa [List.take_length] at this
theorem RR_ok {n:Nat} {P:List (List Int)} (h:Prs n P):∀ x,x<n→RR P x≤x∧RR P (RR P x)=RR P x:=by
 obtain ⟨j,u⟩:=RR_uf h;exact fun x hx=>⟨u.le x hx,u.rr hx⟩
theorem Q7N {l l2:List Int} {r:Nat→Nat} {n a b:Nat} (h:∀ x y:Nat,x<n→y<n→(ix l x=ix l y↔r x=r y)) (ha:a<n) (hb:b<n) (e:∀ z:Nat,z<n→ix l2 z=if ix l z=ix l b then ix l a else ix l z) :
  ∀ x y:Nat,x<n→y<n→(ix l2 x=ix l2 y↔jnr r a b x=jnr r a b y):=by
 intro x y hx hy;rw [e x hx,e y hy];have h1:=h x y hx hy;have h2:=h x a hx ha;have h3:=h x b hx hb;have h4:=h y a hy ha;have h5:=h y b hy hb;have h6:=h a b ha hb;unfold jnr;split<;>split<;>split<;>split<;>omega
theorem e_joinG {n:Nat} {P:List (List Int)} (hp:Prs n P) (hn:n≤1000) (hl:P.length≤100000000):Q2p (n:Int) P=some (cls (RR P) n):=by
 unfold Q2p;refine tabg n (fun i:Nat=>(i:Int)) (e:=iota n) (by omega) (fun i hi=>by simp only;rw [if_pos (by omega)]) (by simp only;rw [if_neg (by omega)];rfl) (Q1h (σ:=List Int × Int) (Q:=fun z=>z=some (cls (RR P) n)) P.length (fun i s=>s.2=(i:Int)∧s.1.length=n∧∀ x y:Nat,x<n→y<n→(ix s.1 x=ix s.1 y↔RR (P.take i) x=RR (P.take i) y)) (fun l=>l.length=n∧∀ x y:Nat,x<n→y<n→(ix l x=ix l y↔RR P x=RR P y)) (by omega) ⟨rfl,by simp,fun x y hx hy=>?_⟩ ?_ ?_ ?_)
 ·rw [Q4L _ (by omega) (by omega),Q4L _ (by omega) (by omega)];simp [RR];omega
 ·rintro i ⟨l,k⟩ hi ⟨hk,hll,h⟩
  simp only at hk h hll;subst hk;obtain ⟨y,x,hy,hx,ep0⟩:=hp.at hi;have ep:rx P i=[(y:Int),(x:Int)]:=by rw [← ep0];simp [rx,List.getD_eq_getElem?_getD,hi]
  have h0:ix [(y:Int),(x:Int)] 0=y:=rfl;have h1:ix [(y:Int),(x:Int)] 1=x:=rfl;simp only;rw [if_pos (by omega),Q3 (by omega),ep,h0,h1,Q3 (by simp),Q3 (by omega),Q3 (by omega),Q3 (by simp),Q3 (by omega)];rw [Q6H hi ep0]
  by_cases q:ix l y=ix l x
  ·have run:(Qt (σ:=List Int × Int) (ε:=List Int) (fun s53 =>
     (
      if s53.2<(s53.1.length:Int) then
       some ((ix l y) != (ix l x))
      else
       some false:Option (Bool)).bind fun b54 =>
     if b54=true then
      (
       ass (0≤s53.2∧s53.2<(s53.1.length:Int)) <|
       if (ix s53.1 s53.2)=(ix l x) then
        ass (0≤s53.2∧s53.2<(s53.1.length:Int)) <|
        some (s53.1.set s53.2.toNat (ix l y))
       else
        some s53.1:Option (List Int)).bind fun b57 =>
      ass (B64 (s53.2+1)) <|
      some (Ctl.next (b57,s53.2+1))
     else
      some (Ctl.ret s53.1)) fuel (l,0))=some l:=by
    refine Q5L (fun _=>l) 0 rfl (by omega) (fun z hz=>by omega) ?_;simp only [q,bne_self_eq_false];split<;>simp
   rw [run];simp only [Option.bind_some];rw [Q3 (by unfold B64;omega)];refine .inl ⟨_,rfl,by push_cast;rfl,hll,Q7N h hy hx fun z hz=>?_⟩;simp only;split
   ·rename_i f;rw [f,q]
   rfl
  have run:(Qt (σ:=List Int × Int) (ε:=List Int) (fun s53 =>
    (
     if s53.2<(s53.1.length:Int) then
      some ((ix l y) != (ix l x))
     else
      some false:Option (Bool)).bind fun b54 =>
    if b54=true then
     (
      ass (0≤s53.2∧s53.2<(s53.1.length:Int)) <|
      if (ix s53.1 s53.2)=(ix l x) then
       ass (0≤s53.2∧s53.2<(s53.1.length:Int)) <|
       some (s53.1.set s53.2.toNat (ix l y))
      else
       some s53.1:Option (List Int)).bind fun b57 =>
     ass (B64 (s53.2+1)) <|
     some (Ctl.next (b57,s53.2+1))
    else
     some (Ctl.ret s53.1)) fuel (l,0))=some (tab n fun z:Nat=>if ix l z=ix l x then ix l y else ix l z):=by
   refine Q5L (fun i=>rlb l (ix l y) (ix l x) i) n (rlb_zero _ _ _).symm (by omega) (fun z hz=>?_) ?_
   ·have gl:(rlb l (ix l y) (ix l x) z).length=l.length:=(by simp [rlb]);have gz:ix (rlb l (ix l y) (ix l x) z) z=ix l z:=by
     unfold rlb;rw [Q4g _ _ (by omega)];simp
    simp only;rw [if_pos (by omega)];simp only [Option.bind_some];rw [if_pos (by simpa using q),Q3 (by omega),gz]
    by_cases f:ix l z=ix l x
    ·rw [if_pos f,Q3 (by omega)];simp only [Option.bind_some,Int.toNat_natCast];rw [Q3 (by unfold B64;omega),rlb_hit f]
    rw [if_neg f];simp only [Option.bind_some];rw [Q3 (by unfold B64;omega),rlb_miss f]
   have gl:(rlb l (ix l y) (ix l x) n).length=l.length:=(by simp [rlb]);simp only;rw [if_neg (by omega)];simp only [Option.bind_some,Bool.false_eq_true,if_false];rw [← hll,rlb_all]
  rw [run];simp only [Option.bind_some];rw [Q3 (by unfold B64;omega)];exact .inl ⟨_,rfl,by push_cast;rfl,by simp,Q7N h hy hx fun z hz=>Q4g _ _ hz⟩
 ·rintro ⟨l,k⟩ ⟨hk,hll,h⟩
  simp only at hk h hll;subst hk;rw [List.take_length] at h;simp only;rw [if_neg (by omega)];exact ⟨_,rfl,hll,h⟩
 rintro l ⟨hll,h⟩
 rw [e_l01Cls hll (RR_ok hp) h (by omega)];rfl
end
section
attribute [local simp] Qa Qy Qq QK Qu
def img (cl:List Int) (f:Nat→Int) (z:List Int):Nat→List Int
 | 0=>z
 | i+1=>(img cl f z i).set (ix cl i).toNat (f i)
@[simp] theorem img_len (cl:List Int) (f:Nat→Int) (z:List Int):∀ n,(img cl f z n).length=z.length
 | 0=>rfl
 | n+1=>by simp [img,img_len cl f z n]
def top (cl:List Int):Nat→Int
 | 0=>0
 | i+1=>max (top cl i) (ix cl i+1)
theorem top_nn (cl:List Int):∀ n,0≤top cl n
 | 0=>Int.le_refl _
 | n+1=>by have:=top_nn cl n;simp only [top];omega
theorem top_gt (cl:List Int) {i:Nat}:∀ {n:Nat},i<n→ix cl i<top cl n
 | 0,h=>absurd h (by omega)
 | n+1,h=>by
  simp only [top];rcases Nat.lt_or_ge i n with q|q
  ·have:=top_gt cl q;omega
  have h1:i=n:=by omega
  subst h1;omega
end
attribute [local simp] unk unA unE unT unC flat eL eI Qs
noncomputable def Q3d (lists_:List (List Int)):Option ByteArray :=
 (Qt (σ:=List Int × Int) (ε:=List Int) (fun s16 =>
  if s16.2<(lists_.length:Int) then
   ass (0≤s16.2∧s16.2<(lists_.length:Int)) <|
   (Qt (σ:=List Int × Int) (ε:=List Int) (fun s24 =>
    if s24.2<((rx lists_ s16.2).length:Int) then
     ass (0≤s24.2∧s24.2<((rx lists_ s16.2).length:Int)) <|
     ass ((s24.1++[IntKind.u8.wrap (ix (rx lists_ s16.2) s24.2)]).length≤1073741824) <|
     ass (B64 (s24.2+1)) <|
     some (Ctl.next (s24.1++[IntKind.u8.wrap (ix (rx lists_ s16.2) s24.2)],s24.2+1))
    else
     some (Ctl.ret s24.1)) fuel (s16.1,0)).bind fun b19 =>
   ass ((b19++[255]).length≤1073741824) <|
   ass (B64 (s16.2+1)) <|
   some (Ctl.next (b19++[255],s16.2+1))
  else
   some (Ctl.ret s16.1)) fuel ([],0)).bind fun b1 =>
 some (Q1K b1)
@[simp] abbrev YG (a:List (List Int)) (b:List (Nat × AV)):List (Nat × AV):=(9,.lst true 1 (Ls a))::(10,iV (a.length:Int))::b
@[simp] abbrev Y0b (a:List Int × Int) (b:List (List Int)) (c:List (Nat × AV)):List (Nat × AV):=(11,iV a.2)::(15,lI (rx b a.2))::(16,iV ((rx b a.2).length:Int))::c
theorem Q5X (lists_:List (List Int)) (r:ByteArray) (h:Q3d lists_=some r):Contract Try.prog 48 [.lst true 1 (Ls lists_)] (.val (.string r)):=by
 refine Qh (rvs:=[.tmp 2]) (rs:=[.val (.string r)]) Try.func48 rfl rfl rfl rfl (by simp [Try.f48]) fun F hN hP=>?_;unfold Q3d at h;refine Q1 (runQ hN fun K hK=>?_);simp;repeat refine sdQ ?_
 refine hK _ ?_;clear hK K;refine tn (Q4 (st':=⟨[(0,.lst true 1 (Ls lists_))],[],0⟩) (wkQ8 []) (Q1 (runQ hN fun K hK=>?_)));simp;repeat refine sdQ ?_
 refine hK _ ?_;clear hK K;refine tn (Q4 (st':=⟨[(0,.lst true 1 (Ls lists_)),(3,.own 0 0 0)],[(0,.mix 1 [])],1⟩) (wkQ8 [(0,0)]) (Q1 (Q1 (runQ hN fun K hK=>?_))));simp;repeat refine sdQ ?_
 refine hK _ (tn (Q4 (st':=⟨(3,.own 0 0 0)::YG lists_ [(11,iV 0)],[(0,.mix 1 [])],1⟩) (wkQ8 [(0,0)]) ?_));clear hK K;replace ⟨e1,h,h1⟩:=bind_some h;refine Qe (fun b1:List Int=>⟨[(3,.own 0 0 b1.length)],[(0,.row 1 (Us b1))],1⟩) (fun b1=>b1=e1) ?_ ?_
 ·refine Q5 (Qn h (fun s16:List Int × Int=>⟨(3,.own 0 0 s16.1.length)::YG lists_ [(11,iV s16.2)],[(0,.row 1 (Us s16.1))],1⟩) (Q4c ⟨(3,.own 0 0 0)::YG lists_ [(11,iV 0)],[(0,.row 1 (Us []))],1⟩ (Wk.nils [] (by simp) (by simp) (by simp [nlA]) (by simp [entN,nlL,nlA,UA,U1,IA,I1,LA,L1,BA,B1,EA,E1,E2,eB,eI,eL]) (by simp)) (wkQ8 [(0,0)])) ?_);clear h;intro k16 s16 c16 h hk16;refine Q1 (runQ hN fun K hK=>?_);simp;repeat refine sdQ ?_
  refine hK _ ?_;clear hK K;refine tn (Q1 (Q7 rfl (fun g=>?_) fun g=>?_))
  ·have g17:s16.2<(lists_.length:Int):=gQ;clear g;replace h:=if_l g17 h;refine Q8 (tn (Q1 (Q5 (Q1 (runQ hN fun K hK=>?_)))));replace ⟨a18,h⟩:=Q0 h;simp [at_L a18];(repeat refine sdQ ?_);refine hK _ ?_;clear hK K;refine tn (Q4 (st':=⟨(3,.own 0 0 s16.1.length)::(5,lI (rx lists_ s16.2))::YG lists_ [(11,iV s16.2)],[(0,.row 1 (Us s16.1))],1⟩) (wkQ8 [(0,0)]) (Q1 (Q1 (runQ hN fun K hK=>?_))));simp;(repeat refine sdQ ?_);refine hK _ (tn (Q4 (st':=⟨(3,.own 0 0 s16.1.length)::YG lists_ (Y0b s16 lists_ [(17,iV 0)]),[(0,.row 1 (Us s16.1))],1⟩) (wkQ8 [(0,0)]) ?_));clear hK K;replace ⟨e19,h,h19⟩:=bind_some h;refine Qe (fun b19:List Int=>⟨(3,.own 0 0 b19.length)::YG lists_ [(11,iV s16.2)],[(0,.row 1 (Us b19))],1⟩) (fun b19=>b19=e19) ?_ ?_
   ·refine Q5 (Qn h (fun s24:List Int × Int=>⟨(3,.own 0 0 s24.1.length)::YG lists_ (Y0b s16 lists_ [(17,iV s24.2)]),[(0,.row 1 (Us s24.1))],1⟩) (wkQ8 [(0,0)]) ?_);clear h;intro k24 s24 c24 h hk24;refine Q1 (runQ hN fun K hK=>?_);simp;(repeat refine sdQ ?_);refine hK _ ?_;clear hK K;refine tn (Q1 (Q7 rfl (fun g=>?_) fun g=>?_))
    ·have g25:s24.2<((rx lists_ s16.2).length:Int):=gQ;clear g;replace h:=if_l g25 h;refine Q8 (tn (Q1 (Q5 (Q1 (runQ hN fun K hK=>?_)))));replace ⟨a26,h⟩:=Q0 h;simp [at_I a26];(repeat refine sdQ ?_);refine hK _ ?_;clear hK K;refine tn (Q4 (st':=⟨(3,.own 0 0 s24.1.length)::(7,iV (ix (rx lists_ s16.2) s24.2))::YG lists_ (Y0b s16 lists_ [(17,iV s24.2)]),[(0,.row 1 (Us s24.1))],1⟩) (wkQ8 [(0,0)]) (runQ hN fun K hK=>?_));replace ⟨a27,h⟩:=Q0 h;(try simp only [List.length_append,List.length_cons,List.length_nil] at a27);simp [a27];(repeat refine sdQ ?_);refine hK _ ?_;clear hK K;refine bn (tn (Q4 (st':=⟨(3,.own 0 0 ((s24.1++[IntKind.u8.wrap (ix (rx lists_ s16.2) s24.2)]).length))::YG lists_ (Y0b s16 lists_ [(17,iV s24.2)]),[(0,.row 1 (Us (s24.1++[IntKind.u8.wrap (ix (rx lists_ s16.2) s24.2)])))],1⟩) (wkQ8 [(2,0)]) (runQ hN fun K hK=>?_)));replace ⟨a28,h⟩:=Q0 h;simp [Qk a28];(repeat refine sdQ ?_);refine hK _ ?_;clear hK K;cases h;exact rn (s':=(s24.1++[IntKind.u8.wrap (ix (rx lists_ s16.2) s24.2)],s24.2+1)) hk24 (wkQ8 [(0,0)])
    have g25:¬ (s24.2<((rx lists_ s16.2).length:Int)):=gQ;clear g;replace h:=if_r g25 h;refine Qg (tx (lx (bh ?_)));cases h;exact jn (b:=s24.1) hk24 (wkQ8 [(0,0)])
   intro b19 hb19;have h:=h19;(try rw [← hb19] at h);clear h19;(try dsimp only at h);refine runQ hN fun K hK=>?_;replace ⟨a29,h⟩:=Q0 h;(try simp only [List.length_append,List.length_cons,List.length_nil] at a29);simp [a29];(repeat refine sdQ ?_);refine hK _ ?_;clear hK K;refine bn (tn (Q4 (st':=⟨(3,.own 0 0 ((b19++[255]).length))::YG lists_ [(11,iV s16.2)],[(0,.row 1 (Us (b19++[255])))],1⟩) (wkQ8 [(2,0)]) (runQ hN fun K hK=>?_)));replace ⟨a30,h⟩:=Q0 h;simp [Qk a30];(repeat refine sdQ ?_);refine hK _ ?_;clear hK K;cases h;exact rn (s':=(b19++[255],s16.2+1)) hk16 (wkQ8 [(0,0)])
  have g17:¬ (s16.2<(lists_.length:Int)):=gQ;clear g;replace h:=if_r g17 h;refine Qg (tx (lx (bh ?_)));cases h;exact jn (b:=s16.1) hk16 (wkQ8 [(0,0)])
 intro b1 hb1;have h:=h1;try rw [← hb1] at h
 clear h1;try dsimp only at h
 refine Q1 (Ql [32] mo (by rw [hN];decide) fun K hK=>?_);simp;repeat refine sdQ ?_
 refine hK _ (tn (Q4 (st':=⟨[(2,.val (.string (Q1K b1)))],[],0⟩) (wkQ8 []) (Qf ?_)));clear hK K;have hr:=Option.some.inj h;rw [← hr];refine ⟨_,(.tmp .nil),?_⟩;refine ⟨(.one rfl rfl .nil),[.val (.string (Q1K b1))],[],by simp [UA,U1,IA,I1,LA,L1,BA,B1,EA,E1,E2,eB,eI,eL],by simp,(UpL.refl _)⟩
attribute [local simp] unk unA unE unT unC flat eL eI Qs
noncomputable def Q2I (list_:List (List Int)):Option (List (ByteArray × Int)) :=
 (Qt (σ:=(List (ByteArray × Int)) × Int) (ε:=List (ByteArray × Int)) (fun s7 =>
  if s7.2<(list_.length:Int) then
   ass (0≤s7.2∧s7.2<(list_.length:Int)) <|
   (Q3d [rx list_ s7.2]).bind fun v10 =>
   ass (s7.1.length<1099511627776) <|
   ass (B64 (s7.2+1)) <|
   some (Ctl.next (tset v10 s7.2 s7.1,s7.2+1))
  else
   some (Ctl.ret s7.1)) fuel ([],0)).bind fun b1 =>
 some b1
theorem Q8M (list_:List (List Int)) (r:List (ByteArray × Int)) (h:Q2I list_=some r):FContract Try.prog false 86 [.lst true 1 (Ls list_)] (.cmap .str (Msi r)):=by
 refine Q4F false (ts:=[2]) (rs:=[.cmap .str (Msi r)]) Try.func86 rfl rfl rfl rfl (by simp [Try.f86]) fun F hN hP=>?_;unfold Q2I at h;refine Q1 (Ql [] mo (by rw [hN];decide) fun K hK=>?_);simp;repeat refine sdQ ?_
 refine hK _ ?_;clear hK K;refine tn (Q4 (st':=⟨[(0,.lst true 1 (Ls list_))],[],0⟩) (wkQ8 []) (Q1 (Ql [] mo (by rw [hN];decide) fun K hK=>?_)));simp;repeat refine sdQ ?_
 refine hK _ ?_;clear hK K;refine tn (Q4 (st':=⟨[(0,.lst true 1 (Ls list_)),(3,.mp 0)],[(0,.mapE .str (Msi []))],1⟩) (wkQ8 [(0,0)]) (Q1 (Q1 (Ql [] mo (by rw [hN];decide) fun K hK=>?_))));simp;repeat refine sdQ ?_
 refine hK _ (tn (Q4 (st':=⟨[(3,.mp 0),(7,.lst true 1 (Ls list_)),(8,iV (list_.length:Int)),(9,iV 0)],[(0,.mapE .str (Msi []))],1⟩) (wkQ8 [(0,0)]) ?_));clear hK K;replace ⟨e1,h,h1⟩:=bind_some h;refine Qe (fun b1:List (ByteArray × Int)=>⟨[(3,.mp 0)],[(0,.mapE .str (Msi b1))],1⟩) (fun b1=>b1=e1) ?_ ?_
 ·refine Q5 (Qn h (fun s7:(List (ByteArray × Int)) × Int=>⟨[(3,.mp 0),(7,.lst true 1 (Ls list_)),(8,iV (list_.length:Int)),(9,iV s7.2)],[(0,.mapE .str (Msi s7.1))],1⟩) (wkQ8 [(0,0)]) ?_);clear h;intro k7 s7 c7 h hk7;refine Q1 (Ql [] mo (by rw [hN];decide) fun K hK=>?_);simp;repeat refine sdQ ?_
  refine hK _ ?_;clear hK K;refine tn (Q1 (Q7 rfl (fun g=>?_) fun g=>?_))
  ·have g8:s7.2<(list_.length:Int):=gQ;clear g;replace h:=if_l g8 h;refine Q8 (tn (Q1 (Q5 (Q1 (Ql [] mo (by rw [hN];decide) fun K hK=>?_)))));replace ⟨a9,h⟩:=Q0 h;simp [at_L a9];(repeat refine sdQ ?_);refine hK _ ?_;clear hK K;refine tn (Q4 (st':=⟨[(3,.mp 0),(4,iV s7.2),(5,lI (rx list_ s7.2)),(7,.lst true 1 (Ls list_)),(8,iV (list_.length:Int)),(9,iV s7.2)],[(0,.mapE .str (Msi s7.1))],1⟩) (wkQ8 [(0,0)]) (Ql [] mo (by rw [hN];decide) fun K hK=>?_));simp;(repeat with_reducible refine sdQ ?_);replace ⟨v10,hv10,h⟩:=bind_some h;refine Q13 (fz:=[]) (Q5X _ v10 hv10) (.cons (.lits (es:=_) rfl (.cons rfl (.cons .lst .nil) .nil) rfl) .nil) ?_;replace ⟨a11,h⟩:=Q0 h;simp [a11];(repeat refine sdQ ?_);refine hK _ ?_;clear hK K;refine bn (tn (Q4 (st':=⟨[(3,.mp 0),(7,.lst true 1 (Ls list_)),(8,iV (list_.length:Int)),(9,iV s7.2)],[(0,.mapE .str (Msi (tset v10 s7.2 s7.1)))],1⟩) (wkQ8 [(0,0)]) (Ql [] mo (by rw [hN];decide) fun K hK=>?_)));replace ⟨a12,h⟩:=Q0 h;simp [Qk a12];(repeat refine sdQ ?_);refine hK _ ?_;clear hK K;cases h;exact rn (s':=(tset v10 s7.2 s7.1,s7.2+1)) hk7 (wkQ8 [(0,0)])
  have g8:¬ (s7.2<(list_.length:Int)):=gQ;clear g;replace h:=if_r g8 h;refine Qg (tx (lx (bh ?_)));cases h;exact jn (b:=s7.1) hk7 (wkQ8 [(0,0)])
 intro b1 hb1;have h:=h1;try rw [← hb1] at h
 clear h1;try dsimp only at h
 refine Q1 (Ql [] mo (by rw [hN];decide) fun K hK=>?_);simp;repeat refine sdQ ?_
 refine hK _ (tn (Q4 (st':=⟨[(2,.mp 0)],[(0,.mapE .str (Msi b1))],1⟩) (wkQ8 [(0,0)]) (Qf ?_)));clear hK K;have hr:=Option.some.inj h;rw [← hr];exact (.one (by simp [ownB]) (.mp rfl) .nil)
attribute [local simp] unk unA unE unT unC flat eL eI Qs
noncomputable def Q1C (lists_:List (List Int)) (list_:List Int):Option Int :=
 (Qt (σ:=Int) (ε:=Unit ⊕ Int) (fun s7 =>
  if s7<(lists_.length:Int) then
   ass (0≤s7∧s7<(lists_.length:Int)) <|
   (Q2V (rx lists_ s7) list_).bind fun v10 =>
   if v10=true then
    some (Ctl.ret (Sum.inr s7))
   else
    ass (B64 (s7+1)) <|
    some (Ctl.next (s7+1))
  else
   some (Ctl.ret (Sum.inl ()))) fuel 0).bind fun e1 =>
 match e1 with
 | .inl b1 =>
  some (-1)
 | .inr p1 =>
  some p1
theorem Q3z (lists_:List (List Int)) (list_:List Int) (r:Int) (h:Q1C lists_ list_=some r):Contract Try.prog 37 [.lst true 1 (Ls lists_),lI list_] (iV r):=by
 refine Qh (rvs:=[.tmp 4]) (rs:=[iV r]) Try.func37 rfl rfl rfl rfl (by simp [Try.f37]) fun F hN hP=>?_;unfold Q1C at h;refine Q1 (runQ hN fun K hK=>?_);simp;repeat refine sdQ ?_
 refine hK _ ?_;clear hK K;refine tn (Q4 (st':=⟨[(0,.lst true 1 (Ls lists_)),(1,lI list_)],[],0⟩) (wkQ8 []) (Q1 (Q1 (runQ hN fun K hK=>?_))));simp;repeat refine sdQ ?_
 refine hK _ (tn (Q4 (st':=⟨[(0,.lst true 1 (Ls lists_)),(1,lI list_),(5,iV 0)],[],0⟩) (wkQ8 []) ?_));clear hK K;replace ⟨e1,h,h1⟩:=bind_some h;refine Qe (fun b1:Unit=>⟨[],[],0⟩) (fun b1=>Sum.inl b1=e1) ?_ ?_
 ·refine Q5 (Qn h (fun s7:Int=>⟨[(0,.lst true 1 (Ls lists_)),(1,lI list_),(5,iV s7)],[],0⟩) (wkQ8 []) ?_);clear h;intro k7 s7 c7 h hk7;refine Q1 (Q1 (runQ hN fun K hK=>?_));simp;repeat refine sdQ ?_
  refine hK _ ?_;clear hK K;refine tn (Q7 rfl (fun g=>?_) fun g=>?_)
  ·have g8:s7<(lists_.length:Int):=gQ;clear g;replace h:=if_l g8 h;refine Q8 (tn (Q1 (Q5 (Q1 (runQ hN fun K hK=>?_)))));replace ⟨a9,h⟩:=Q0 h;simp [at_L a9];(repeat with_reducible refine sdQ ?_);replace ⟨v10,hv10,h⟩:=bind_some h;refine Q2 (Q7s _ _ v10 hv10) (.cons .lst (.cons .lst .nil)) ?_;simp [at_L a9];(repeat refine sdQ ?_);refine hK _ ?_;clear hK K;refine tn (Q4 (st':=⟨[(0,.lst true 1 (Ls lists_)),(1,lI list_),(5,iV s7),(17,.val (.bool v10))],[],0⟩) (wkQ8 []) (Q7 rfl (fun g=>?_) fun g=>?_))
   ·have g11:v10=true:=gQ;clear g;replace h:=if_l g11 h;refine Q1 (runQ hN fun K hK=>?_);simp;(repeat refine sdQ ?_);refine hK _ (tn (Q4 (st':=⟨[(4,iV s7)],[],0⟩) (wkQ8 []) (Qf (br (tr (lr (br (tr ?_))))))));clear hK K;cases h;have q:_=e1:=hk7;have h:=h1;rw [← q] at h;clear q;(try dsimp only at h);have hr:=Option.some.inj h;rw [← hr];refine ⟨_,(.tmp .nil),?_⟩;refine ⟨(.one rfl rfl .nil),[iV s7],[],by simp [UA,U1,IA,I1,LA,L1,BA,B1,EA,E1,E2,eB,eI,eL],by simp,(UpL.refl _)⟩
   have g11:¬ (v10=true):=gQ;clear g;replace h:=if_r g11 h;refine Q8 (bn (tn (runQ hN fun K hK=>?_)));replace ⟨a12,h⟩:=Q0 h;simp [Qk a12];(repeat refine sdQ ?_);refine hK _ ?_;clear hK K;cases h;exact rn (s':=s7+1) hk7 (wkQ8 [])
  have g8:¬ (s7<(lists_.length:Int)):=gQ;clear g;replace h:=if_r g8 h;refine Qg (tx (lx (bh ?_)));cases h;exact jn (b:=()) hk7 (wkQ8 [])
 intro b1 hb1;have h:=h1;try rw [← hb1] at h
 clear h1;try dsimp only at h
 refine Q1 (runQ hN fun K hK=>?_);simp;repeat refine sdQ ?_
 refine hK _ (tn (Q4 (st':=⟨[(4,iV (-1))],[],0⟩) (wkQ8 []) (Qf ?_)));clear hK K;have hr:=Option.some.inj h;rw [← hr];refine ⟨_,(.tmp .nil),?_⟩;refine ⟨(.one rfl rfl .nil),[iV (-1)],[],by simp [UA,U1,IA,I1,LA,L1,BA,B1,EA,E1,E2,eB,eI,eL],by simp,(UpL.refl _)⟩
section
attribute [local simp] Qa Qy Qq QK Qu
theorem Q8K {α β:Type} [DecidableEq α] (k k':α) (v:β) (m:List (α × β)):QW k (tset k' v m)=if k'=k then some v else QW k m:=by
 induction m with
 | nil=>simp [tset,QW]
 | cons p r ih =>
  obtain ⟨a,x⟩:=p;unfold tset
  by_cases h:a=k'
  ·subst h;rw [if_pos rfl]
   by_cases h2:a=k<;>simp [QW,h2]
  rw [if_neg h];simp only [QW,ih]
  by_cases h2:a=k
  ·subst h2;rw [if_pos rfl,if_pos rfl,if_neg (fun e=>h e.symm)]
  rw [if_neg h2,if_neg h2]
theorem tset_len {α β:Type} [DecidableEq α] (k:α) (v:β) (m:List (α × β)):(tset k v m).length≤m.length+1:=by
 induction m with
 | nil=>simp [tset]
 | cons p r ih =>
  obtain ⟨a,x⟩:=p;unfold tset;split<;>simp;exact ih
def plM {α:Type} [DecidableEq α] (k:Nat→α):Nat→List (α × Int)
 | 0=>[]
 | n+1=>tset (k n) (n:Int) (plM k n)
theorem plM_len {α:Type} [DecidableEq α] (k:Nat→α) (n:Nat):(plM k n).length≤n:=by
 induction n with
 | zero=>simp [plM]
 | succ n ih=>exact Nat.le_trans (tset_len _ _ _) (by omega)
theorem plM_find {α:Type} [DecidableEq α] {k:Nat→α} {n:Nat} (h:∀ a b,a<n→b<n→k a=k b→a=b) {j:Nat} (hj:j<n):QW (k j) (plM k n)=some (j:Int):=by
 induction n with
 | zero=>omega
 | succ n ih =>
  rw [plM,Q8K]
  by_cases e:k n=k j
  ·rw [if_pos e,h n j (by omega) hj e]
  rw [if_neg e];have:j ≠ n:=fun q=>e (by rw [q]);exact ih (fun a b ha hb=>h a b (by omega) (by omega)) (by omega)
theorem Q6J (ns:List Int):(Q1K ns).data.toList=ns.map fun n=>UInt8.ofNat n.toNat:=by
 have:∀ (ns:List Int) (s:ByteArray),(ns.foldl (fun r n=>r.push (UInt8.ofNat n.toNat)) s).data.toList=s.data.toList++ns.map fun n=>UInt8.ofNat n.toNat:=by
  intro ns
  induction ns with
  | nil=>intro s;simp
  | cons n ns ih=>intro s;simp only [List.foldl_cons,ih,List.map_cons];simp [ByteArray.push]
 simpa [Q1K] using this ns ByteArray.empty
theorem Q6s {α β:Type} {f:α→β}:∀ {a b:List α},(∀ x∈a,∀ y∈b,f x=f y→x=y)→a.map f=b.map f→a=b:=by
 intro a
 induction a with
 | nil=>intro b _ h;cases b with|nil=>rfl|cons=>simp at h
 | cons x a ih =>
  intro b hi h;cases b with
  | nil=>simp at h
  | cons y b =>
   simp only [List.map_cons,List.cons.injEq] at h;rw [hi x (by simp) y (by simp) h.1,ih (fun u hu v hv=>hi u (by simp [hu]) v (by simp [hv])) h.2]
theorem Q8d {a b:List Int} (ha:∀ x∈a,0≤x∧x<256) (hb:∀ x∈b,0≤x∧x<256) (h:Q1K a=Q1K b):a=b:=by
 have h1:=congrArg (fun s=>s.data.toList) h;simp only [Q6J] at h1;refine Q6s (fun x hx y hy e=>?_) h1;have e2:=congrArg UInt8.toNat e;have p1:=ha x hx;have p2:=hb y hy;simp only [UInt8.toNat_ofNat'] at e2;omega
theorem wrap8 {n:Int} (h0:0≤n) (h1:n<256):IntKind.u8.wrap n=n:=by
 simp [IntKind.wrap,IntKind.signed,IntKind.bits];omega
theorem wrap8_b (n:Int):0≤IntKind.u8.wrap n∧IntKind.u8.wrap n<256:=by
 simp [IntKind.wrap,IntKind.signed,IntKind.bits];omega
def keyB (x:List Int):ByteArray:=Q1K (x.map IntKind.u8.wrap++[255])
theorem keyB_inj {x y:List Int} (hx:∀ a∈x,0≤a∧a<256) (hy:∀ a∈y,0≤a∧a<256) (h:keyB x=keyB y):x=y:=by
 have hw:∀ x:List Int,∀ a∈x.map IntKind.u8.wrap++[255],0≤a∧a<256:=by
  intro x a ha;rcases List.mem_append.1 ha with ha|ha
  ·obtain ⟨b,_,rfl⟩:=List.mem_map.1 ha;exact wrap8_b b
  rw [List.mem_singleton.1 ha];omega
 have h1:=Q8d (hw x) (hw y) h;have h2:=(List.append_inj' h1 rfl).1;refine Q6s (fun a ha b hb e=>?_) h2
 rwa [wrap8 (hx a ha).1 (hx a ha).2,wrap8 (hy b hb).1 (hy b hb).2] at e
structure Keyed (L:List (List Int)):Prop where
 nd:L.Nodup
 sm:∀ x∈L,∀ a∈x,0≤a∧a<256
noncomputable def posL (L:List (List Int)) (x:List Int):Int:=fstN L.length fun i=>rx L i=x
theorem Q7x {L:List (List Int)} {i:Nat} (h:i<L.length):rx L i∈L:=by
 rw [← Q17 _ _ h];exact List.getElem_mem h
theorem Keyed.inj {L:List (List Int)} (h:Keyed L) {i j:Nat} (hi:i<L.length) (hj:j<L.length) (e:rx L i=rx L j):i=j:=by
 rw [← Q17 _ _ hi,← Q17 _ _ hj] at e;rcases Nat.lt_trichotomy i j with q|q|q
 ·exact absurd e (List.pairwise_iff_getElem.1 h.nd i j hi hj q)
 ·exact q
 exact absurd e.symm (List.pairwise_iff_getElem.1 h.nd j i hj hi q)
theorem Keyed.at {L:List (List Int)} (h:Keyed L) {x:List Int} (hx:x∈L):∃ j:Nat,j<L.length∧rx L j=x∧posL L x=j∧QW (keyB x) (plM (fun i=>keyB (rx L i)) L.length)=some (j:Int):=by
 obtain ⟨j,hj,rfl⟩:=List.getElem_of_mem hx;refine ⟨j,hj,(Q17 _ _ hj).symm,?_,?_⟩
 ·unfold posL;rcases Q3k L.length (fun i=>rx L i=L[j]) with ⟨_,h2⟩|⟨k,hk,h2,h3⟩
  ·exact absurd (Q17 _ _ hj).symm (h2 j hj)
  rw [h3,h.inj hk hj (by rw [h2,Q17 _ _ hj])]
 have:=plM_find (k:=fun i=>keyB (rx L i)) (n:=L.length) (fun a b ha hb e=>h.inj ha hb (keyB_inj (h.sm _ (Q7x ha)) (h.sm _ (Q7x hb)) e)) hj;rw [Q17 _ _ hj];exact this
theorem flt_nodup (n:Nat) (p:Nat→Prop):(flt n p).Nodup:=by
 unfold flt;refine List.Pairwise.map (R:=fun a b=>a ≠ b) Int.ofNat (fun a b h e=>h (Int.ofNat.inj e)) ?_;exact List.nodup_range.filter _
theorem Q77 {α β:Type} {xs:List α} {f:α→List β} (h1:∀ x∈xs,(f x).Nodup) (h2:xs.Nodup) (h3:∀ x y,x ≠ y→∀ a∈f x,∀ b∈f y,a ≠ b):(xs.flatMap f).Nodup:=by
 refine List.pairwise_flatMap.2 ⟨h1,?_⟩;exact List.Pairwise.imp (fun {a b} hne=>h3 a b hne) h2
theorem fstN_at {n:Nat} {p:Nat→Prop} {m:Nat} (hm:m<n) (hp:p m) (hlt:∀ k,k<m→¬ p k):fstN n p=(m:Int):=by
 unfold fstN;rw [show ((List.range n).find? fun i=>bo (p i))=some m from List.find?_eq_some_iff_getElem.2 ⟨by rw [bo_tt];exact hp,m,by simpa using hm,by simp,fun j hj=>by simp [Qj (hlt j hj)]⟩];rfl
theorem fstN_no {n:Nat} {p:Nat→Prop} (h:∀ i,i<n→¬ p i):fstN n p = -1:=by
 rcases Q3k n p with ⟨h1,_⟩|⟨k,h1,h2,_⟩
 ·exact h1
 exact absurd h2 (h k h1)
theorem fst_bind {ε β:Type} {body:Int→Option (Ctl Int ε)} {K:ε→Option β} {r:Option β} (n:Nat) (p:Nat→Prop) {eb:Nat→ε} {eg:ε} (hn:n<4611686018427387904) (h1:∀ i:Nat,i<n→¬ p i→body (i:Int)=some (.next ((i:Int)+1))) (h2:∀ i:Nat,i<n→p i→body (i:Int)=some (.ret (eb i))) (h3:body (n:Int)=some (.ret eg))
  (hb:∀ m,m<n→p m→(∀ k,k<m→¬ p k)→K (eb m)=r) (hg:(∀ i,i<n→¬ p i)→K eg=r):(Qt body fuel 0).bind K=r:=by
 rcases Q7R n (fun i=>¬ p i) hn h1 (fun i hi h=>h2 i hi (Classical.byContradiction h)) h3 with ⟨h,e⟩|⟨m,hm,hq,hlt,e⟩
 ·rw [e];exact hg h
 rw [e];exact hb m hm (Classical.byContradiction hq) hlt
theorem e_find {L:List (List Int)} (hn:L.length<1000000) (x:List Int):Q1C L x=some (posL L x):=by
 unfold Q1C Q2V posL;refine fst_bind L.length (fun i=>rx L i=x) (eb:=fun i=>Sum.inr (i:Int)) (eg:=Sum.inl ()) (by omega) (fun i hi h=>?_) (fun i hi h=>?_) (by simp) (fun m hm hp hlt=>?_) fun h=>?_
 ·rw [if_pos (by omega),Q3 (by omega)];simp only [Option.bind_some,decide_eq_true_eq,if_neg h];rw [Q3 (by unfold B64;omega)]
 ·rw [if_pos (by omega),Q3 (by omega)];simp only [Option.bind_some,decide_eq_true_eq,if_pos h]
 ·simp only;rw [fstN_at hm hp hlt]
 simp only;rw [fstN_no h]
theorem e_key {x:List Int} (h:x.length≤1000):Q3d [x]=some (keyB x):=by
 unfold Q3d keyB;refine QC 1 (fun i=>if i=0 then [] else x.map IntKind.u8.wrap++[255]) (e:=x.map IntKind.u8.wrap++[255]) (by simp) (by omega) (fun i hi=>?_) (by simp) rfl;have:i=0:=by omega
 subst this;have hx:rx [x] ((0:Nat):Int)=x:=by simp [rx]
 simp only [hx];rw [if_pos (by simp),Q3 (by simp)];refine QC x.length (fun k=>(x.take k).map IntKind.u8.wrap) (e:=x.map IntKind.u8.wrap) (by simp) (by omega) (fun k hk=>?_) (by simp) ?_
 ·have hs:x.take (k+1)=x.take k++[ix x k]:=by rw [List.take_succ_eq_append_getElem hk,QL _ _ hk]
  simp (disch:=omega) [Q3,B64,hs];try omega
 simp (disch:=omega) [Q3,B64];try omega
noncomputable def plL (L:List (List Int)):List (ByteArray × Int):=plM (fun i=>keyB (rx L i)) L.length
theorem e_places {L:List (List Int)} (hn:L.length<1000000) (hx:∀ x∈L,x.length≤1000):Q2I L=some (plL L):=by
 unfold Q2I plL;refine QC L.length (fun i=>plM (fun i=>keyB (rx L i)) i) (e:=plM (fun i=>keyB (rx L i)) L.length) rfl (by omega) (fun i hi=>?_) (by simp) rfl;have h1:=plM_len (fun i:Nat=>keyB (rx L i)) i;simp only;rw [if_pos (by omega),Q3 (by omega),e_key (hx _ (Q7x hi))];simp only [Option.bind_some];rw [Q3 (by omega),Q3 (by unfold B64;omega)];rfl
end
section
attribute [local simp] Qa Qy Qq QK Qu
theorem homL_in {c:Cat} {f x y:Int} (h:Ar c f x y):f∈homL c x y:=by
 unfold homL;rw [mem_flt];refine ⟨f.toNat,by omega,?_,by omega⟩;rw [Int.toNat_of_nonneg h.1.1];exact h.2
end
section
attribute [local simp] Qa Qy Qq QK Qu
structure NT (f g:Fn):Prop where
 hf:f.Is
 hg:g.Is
 e:f.t=g.t
theorem Fn.Is.arr {f:Fn} (h:f.Is) {a:Nat} (ha:a<f.ar.length):Ar f.t (ix f.ar a) (ix f.ob (ix f.s.fr a)) (ix f.ob (ix f.s.to a)) :=
 ⟨h.ar a ha,h.ends a (by have:=h.la;omega)⟩
theorem rx_tab {n:Nat} (v:Nat→List Int) {i:Nat} (hi:i<n):rx (tab n v) i=v i:=by simp [rx,tab,List.getD_eq_getElem?_getD,hi]
theorem Q7M {α:Type} [Inhabited α] {n:Nat} (v:Nat→α) {i:Nat} (hi:i<n):gx (tab n v) i=v i:=by simp [gx,tab,List.getD_eq_getElem?_getD,hi]
end
section
attribute [local simp] Qa Qy Qq QK Qu
noncomputable def frN (c:Cat) (b:Nat):Nat:=(ix c.fr b).toNat
noncomputable def toN (c:Cat) (b:Nat):Nat:=(ix c.to b).toNat
theorem Q1F {c:Cat} (hc:c.Is) {b:Nat} (hb:b<c.fr.length):ix c.fr b=(frN c b:Int)∧frN c b<c.id.length∧ix c.to b=(toN c b:Int)∧toN c b<c.id.length:=by
 have e:=hc.ends (a:=b) (by omega);have n:=hc.nums;unfold frN toN;omega
end
section
attribute [local simp] Qa Qy Qq QK Qu
noncomputable def joinE (j:List Int) (a b:Int):Option (List Int × Bool) :=
 ((Qt (σ:=List Int × Int) (ε:=List Int × Int) (fun s64 =>
        ass (0≤s64.2∧s64.2<(s64.1.length:Int)) <|
        if ¬ ((ix s64.1 s64.2)=s64.2) then
         ass (0≤s64.2∧s64.2<(s64.1.length:Int)) <|
         ass (0≤ix s64.1 s64.2∧ix s64.1 s64.2<(s64.1.length:Int)) <|
         ass (0≤s64.2∧s64.2<(s64.1.length:Int)) <|
         ass (0≤s64.2∧s64.2<((s64.1.set s64.2.toNat (ix s64.1 (ix s64.1 s64.2))).length:Int)) <|
         some (Ctl.next (s64.1.set s64.2.toNat (ix s64.1 (ix s64.1 s64.2)),ix (s64.1.set s64.2.toNat (ix s64.1 (ix s64.1 s64.2))) s64.2))
        else
         some (Ctl.ret (s64.1,s64.2))) fuel (j,a)).bind fun b388 =>
           some (b388.1,b388.2):Option (List Int × Int)).bind fun v403 =>
 ass (v403.1.length=j.length) <|
 ((Qt (σ:=List Int × Int) (ε:=List Int × Int) (fun s64 =>
        ass (0≤s64.2∧s64.2<(s64.1.length:Int)) <|
        if ¬ ((ix s64.1 s64.2)=s64.2) then
         ass (0≤s64.2∧s64.2<(s64.1.length:Int)) <|
         ass (0≤ix s64.1 s64.2∧ix s64.1 s64.2<(s64.1.length:Int)) <|
         ass (0≤s64.2∧s64.2<(s64.1.length:Int)) <|
         ass (0≤s64.2∧s64.2<((s64.1.set s64.2.toNat (ix s64.1 (ix s64.1 s64.2))).length:Int)) <|
         some (Ctl.next (s64.1.set s64.2.toNat (ix s64.1 (ix s64.1 s64.2)),ix (s64.1.set s64.2.toNat (ix s64.1 (ix s64.1 s64.2))) s64.2))
        else
         some (Ctl.ret (s64.1,s64.2))) fuel (v403.1,b)).bind fun b406 =>
           some (b406.1,b406.2):Option (List Int × Int)).bind fun v421 =>
 ass (v421.1.length=v403.1.length) <|
 ass (0≤(if v421.2 > v403.2 then v421.2 else v403.2)∧(if v421.2 > v403.2 then v421.2 else v403.2)<(v421.1.length:Int)) <|
 some (v421.1.set ((if v421.2 > v403.2 then v421.2 else v403.2).toNat) (if v421.2<v403.2 then v421.2 else v403.2),v403.2 != v421.2)
theorem join_go {j:List Int} {r:Nat→Nat} {n a b:Nat} (h:UF j r n) (ha:a<n) (hb:b<n) (hn:n≤1000000):∃ j' d,joinE j a b=some (j',d)∧UF j' (jnr r a b) n:=by
 obtain ⟨j1,e1,w1⟩:=Q7a a j fuel h ha (by unfold fuel;omega);obtain ⟨j2,e2,w2⟩:=Q7a b j1 fuel w1 hb (by unfold fuel;omega);have l0:=h.len;have l1:=w1.len;have l2:=w2.len;have ra:=h.le a ha;have rb:=h.le b hb;have u:=w2.jn ha hb;refine ⟨_,(r a:Int) != (r b:Int),?_,u⟩;unfold joinE;rw [e1];simp only [Option.bind_some];rw [Q3 (by omega),e2];simp only [Option.bind_some];have m1:(if (r b:Int) > (r a:Int) then (r b:Int) else (r a:Int))=((max (r a) (r b):Nat):Int):=by split<;>omega
 have m2:(if (r b:Int)<(r a:Int) then (r b:Int) else (r a:Int))=((min (r a) (r b):Nat):Int):=by split<;>omega
 rw [Q3 (by omega),m1,m2,Q3 (by omega)];rfl
theorem RR_add {P:List (List Int)} {p:List Int} {a b:Nat} (e:p=[(a:Int),(b:Int)]):RR (P++[p])=jnr (RR P) a b:=by
 rw [RR_snoc,e];rfl
end
section
attribute [local simp] Qa Qy Qq QK Qu
inductive Con (P:List (List Int)):Nat→Nat→Prop
 | pr {a b:Nat}:[(a:Int),(b:Int)]∈P→Con P a b
 | refl (a:Nat):Con P a a
 | symm {a b:Nat}:Con P a b→Con P b a
 | trans {a b c:Nat}:Con P a b→Con P b c→Con P a c
theorem Con.mono {P Q:List (List Int)} (h:∀ a b:Nat,[(a:Int),(b:Int)]∈P→Con Q a b) {a b:Nat} (c:Con P a b):Con Q a b:=by
 induction c with
 | pr hm=>exact h _ _ hm
 | refl a=>exact .refl a
 | symm _ ih=>exact .symm ih
 | trans _ _ i1 i2=>exact .trans i1 i2
theorem jnr_ker {r:Nat→Nat} {a b x y:Nat}:jnr r a b x=jnr r a b y↔(r x=r y∨(r x=r a∧r y=r b)∨(r x=r b∧r y=r a)):=by
 unfold jnr;split<;>split<;>omega
theorem RR_con {n:Nat} {P:List (List Int)} (h:Prs n P):∀ k,k≤P.length→∀ x y:Nat,(RR (P.take k) x=RR (P.take k) y↔Con (P.take k) x y):=by
 intro k
 induction k with
 | zero =>
  intro _ x y;have e:∀ x y:Nat,Con (P.take 0) x y→x=y:=by
   intro x y c
   induction c with
   | pr hm=>simp at hm
   | refl a=>rfl
   | symm _ ih=>exact ih.symm
   | trans _ _ i1 i2=>exact i1.trans i2
  simp only [List.take_zero] at e ⊢;exact ⟨fun q=>by
   have q':x=y:=q;rw [q'];exact .refl _,fun c=>by rw [e x y c]⟩
 | succ k ih =>
  intro hk x y;obtain ⟨a,b,ha,hb,e⟩:=h.at (i:=k) (by omega);have i:=ih (by omega);have m:P.take (k+1)=P.take k++[[(a:Int),(b:Int)]]:=by rw [List.take_succ_eq_append_getElem (by omega),e]
  have up:∀ {u v:Nat},Con (P.take k) u v→Con (P.take (k+1)) u v:=fun c=>c.mono fun u v hm=>.pr (by rw [m];exact List.mem_append_left _ hm);have ab:Con (P.take (k+1)) a b:=.pr (by rw [m];simp);rw [Q6H (by omega) e,jnr_ker];constructor
  ·rintro (q|⟨q1,q2⟩|⟨q1,q2⟩)
   ·exact up ((i x y).1 q)
   ·exact .trans (up ((i _ _).1 q1)) (.trans ab (.symm (up ((i _ _).1 q2))))
   exact .trans (up ((i _ _).1 q1)) (.trans (.symm ab) (.symm (up ((i _ _).1 q2))))
  intro c;rw [← jnr_ker]
  induction c with
  | @pr u v hm =>
   rw [m] at hm;rcases List.mem_append.1 hm with q|q
   ·exact jnr_ker.2 (.inl ((i _ _).2 (.pr q)))
   simp only [List.mem_singleton,List.cons.injEq,and_true] at q;have q1:u=a:=(by omega);have q2:v=b:=(by omega);subst q1;subst q2;exact jnr_ker.2 (.inr (.inl ⟨rfl,rfl⟩))
  | refl a=>rfl
  | symm _ ih=>exact ih.symm
  | trans _ _ i1 i2=>exact i1.trans i2
theorem Q7v {n:Nat} {P:List (List Int)} (h:Prs n P) (x y:Nat):RR P x=RR P y↔Con P x y:=by
 have:=RR_con h P.length (Nat.le_refl _) x y
 rwa [List.take_length] at this
theorem RR_same {n:Nat} {P Q:List (List Int)} (hP:Prs n P) (hQ:Prs n Q) (pq:∀ a b:Nat,[(a:Int),(b:Int)]∈P→Con Q a b) (qp:∀ a b:Nat,[(a:Int),(b:Int)]∈Q→Con P a b) {x:Nat} (hx:x<n):RR P x=RR Q x:=by
 have h1:=RR_ok hP;have h2:=RR_ok hQ;have c1:Con Q (RR P x) x:=((Q7v hP _ _).1 (h1 x hx).2).mono pq;have c2:Con P (RR Q x) x:=((Q7v hQ _ _).1 (h2 x hx).2).mono qp;have e1:=(Q7v hQ _ _).2 c1;have e2:=(Q7v hP _ _).2 c2;have l1:=(h2 (RR P x) (by have:=(h1 x hx).1;omega)).1;have l2:=(h1 (RR Q x) (by have:=(h2 x hx).1;omega)).1;omega
theorem cn_congr {r r':Nat→Nat} {k:Nat} (h:∀ y,y<k→r y=r' y):cn r k=cn r' k:=by
 induction k with
 | zero=>rfl
 | succ k ih =>
  have e:=h k (by omega);have i:=ih fun y hy=>h y (by omega)
  by_cases q:r k=k
  ·rw [cn_pos q,cn_pos (by rw [← e];exact q),i]
  rw [cn_neg q,cn_neg (by rw [← e];exact q),i]
theorem cls_congr {r r':Nat→Nat} {n:Nat} (h:∀ x,x<n→r x=r' x) (hl:∀ x,x<n→r x≤x):cls r n=cls r' n:=by
 unfold cls;refine Q3S fun x hx=>?_;rw [← h x hx,cn_congr (r:=r) (r':=r') fun y hy=>h y (by have:=hl x hx;omega)]
end
attribute [local simp] unk unA unE unT unC flat eL eI Qs
noncomputable def QV (table_:List (List Int)) (unit_:Int):Option Bool :=
 (Qt (σ:=Int) (ε:=Unit ⊕ Bool) (fun s65 =>
  if s65<(table_.length:Int) then
   (
    (
     ass (0≤s65∧s65<(table_.length:Int)) <|
     ass (0≤unit_∧unit_<((rx table_ s65).length:Int)) <|
     if ¬ ((ix (rx table_ s65) unit_)=s65) then
      some true
     else
      ass (0≤unit_∧unit_<(table_.length:Int)) <|
      ass (0≤s65∧s65<((rx table_ unit_).length:Int)) <|
      some ((ix (rx table_ unit_) s65) != s65):Option (Bool)).bind fun b68 =>
    if b68=true then
     some (Sum.inr false)
    else
     (Qt (σ:=Int) (ε:=Bool ⊕ Unit) (fun s101 =>
      if s101<(table_.length:Int) then
       (
        (Qt (σ:=Int) (ε:=Bool ⊕ Unit) (fun s115 =>
         if s115<(table_.length:Int) then
          ass (0≤s65∧s65<(table_.length:Int)) <|
          ass (0≤s101∧s101<((rx table_ s65).length:Int)) <|
          ass (0≤ix (rx table_ s65) s101∧ix (rx table_ s65) s101<(table_.length:Int)) <|
          ass (0≤s115∧s115<((rx table_ (ix (rx table_ s65) s101)).length:Int)) <|
          ass (0≤s65∧s65<(table_.length:Int)) <|
          ass (0≤s101∧s101<(table_.length:Int)) <|
          ass (0≤s115∧s115<((rx table_ s101).length:Int)) <|
          ass (0≤ix (rx table_ s101) s115∧ix (rx table_ s101) s115<((rx table_ s65).length:Int)) <|
          if ¬ ((ix (rx table_ (ix (rx table_ s65) s101)) s115)=(ix (rx table_ s65) (ix (rx table_ s101) s115))) then
           some (Ctl.ret (Sum.inl false))
          else
           ass (B64 (s115+1)) <|
           some (Ctl.next (s115+1))
         else
          some (Ctl.ret (Sum.inr ()))) fuel 0).bind fun e115 =>
        match e115 with
        | .inl p115 =>
         some (Sum.inr p115)
        | .inr p115 =>
         some (Sum.inl p115):Option (Unit ⊕ Bool)).bind fun e103 =>
       match e103 with
       | .inl b103 =>
        ass (B64 (s101+1)) <|
        some (Ctl.next (s101+1))
       | .inr p103 =>
        some (Ctl.ret (Sum.inl p103))
      else
       some (Ctl.ret (Sum.inr ()))) fuel 0).bind fun e101 =>
     match e101 with
     | .inl p101 =>
      some (Sum.inr p101)
     | .inr p101 =>
      some (Sum.inl p101):Option (Unit ⊕ Bool)).bind fun e67 =>
   match e67 with
   | .inl b67 =>
    ass (B64 (s65+1)) <|
    some (Ctl.next (s65+1))
   | .inr p67 =>
    some (Ctl.ret (Sum.inr p67))
  else
   some (Ctl.ret (Sum.inl ()))) fuel 0).bind fun e1 =>
 match e1 with
 | .inl b1 =>
  some true
 | .inr p1 =>
  some p1
@[simp] abbrev YE (a:List (List Int)) (b:Int) (c:List (Nat × AV)):List (Nat × AV):=(0,.lst true 1 (Ls a))::(1,iV b)::c
@[simp] abbrev YP (a:List (List Int)) (b:Int) (c:List (Nat × AV)):List (Nat × AV):=(9,iV (a.length:Int))::(10,iV b)::(34,iV (a.length:Int))::c
theorem Q2J (table_:List (List Int)) (unit_:Int) (r:Bool) (h:QV table_ unit_=some r):Contract Try.prog 79 [.lst true 1 (Ls table_),iV unit_] (.val (.bool r)):=by
 refine Qh (rvs:=[.tmp 4]) (rs:=[.val (.bool r)]) Try.func79 rfl rfl rfl rfl (by simp [Try.f79]) fun F hN hP=>?_;unfold QV at h;refine Q1 (runQ hN fun K hK=>?_);simp;repeat refine sdQ ?_
 refine hK _ ?_;clear hK K;refine tn (Q4 (st':=⟨YE table_ unit_ [],[],0⟩) (wkQ8 []) (Q1 (Q1 (runQ hN fun K hK=>?_))));simp;repeat refine sdQ ?_
 refine hK _ (tn (Q4 (st':=⟨YE table_ unit_ [(9,iV (table_.length:Int)),(10,iV 0)],[],0⟩) (wkQ8 []) ?_));clear hK K;replace ⟨e1,h,h1⟩:=bind_some h;refine Qe (fun b1:Unit=>⟨[],[],0⟩) (fun b1=>Sum.inl b1=e1) ?_ ?_
 ·refine Q5 (Qn h (fun s65:Int=>⟨YE table_ unit_ [(9,iV (table_.length:Int)),(10,iV s65)],[],0⟩) (wkQ8 []) ?_);clear h;intro k65 s65 c65 h hk65;refine Q1 (runQ hN fun K hK=>?_);simp;repeat refine sdQ ?_
  refine hK _ ?_;clear hK K;refine tn (Q1 (Q7 rfl (fun g=>?_) fun g=>?_))
  ·have g66:s65<(table_.length:Int):=gQ;clear g;replace h:=if_l g66 h;refine Q8 (tn (Q1 ?_));replace ⟨e67,h,h67⟩:=bind_some h;refine Qe (fun b67:Unit=>⟨YE table_ unit_ [(9,iV (table_.length:Int)),(10,iV s65)],[],0⟩) (fun b67=>Sum.inl b67=e67) ?_ ?_
   ·refine Q5 (Q1 (runQ hN fun K hK=>?_));simp;(repeat refine sdQ ?_);refine hK _ (tn (Q4 (st':=⟨YE table_ unit_ [(5,iV s65),(9,iV (table_.length:Int)),(10,iV s65)],[],0⟩) (wkQ8 []) (Q1 (Q1 ?_))));clear hK K;replace ⟨e68,h,h68⟩:=bind_some h;refine Qe (fun b68:Bool=>⟨YE table_ unit_ [(5,iV s65),(9,iV (table_.length:Int)),(10,iV s65),(32,.val (.bool b68))],[],0⟩) (fun b68=>b68=e68) ?_ ?_
    ·refine runQ hN fun K hK=>?_;replace ⟨a69,h⟩:=Q0 h;replace ⟨a70,h⟩:=Q0 h;simp [at_L a69,at_I a70];(repeat with_reducible refine sdQ ?_);refine Qo (fun g=>?_) (fun g=>?_)
     ·have g71:¬ (¬ ((ix (rx table_ s65) unit_)=s65)):=gQ;clear g;replace h:=if_r g71 h;replace ⟨a72,h⟩:=Q0 h;replace ⟨a73,h⟩:=Q0 h;simp [at_L a69,at_I a70,at_L a72,at_I a73];(repeat refine sdQ ?_);refine hK _ ?_;exact jn (b:=(ix (rx table_ unit_) s65) != s65) (Option.some.inj h) (wkQ8 [])
     have g71:¬ ((ix (rx table_ s65) unit_)=s65):=gQ;clear g;replace h:=if_l g71 h;simp [at_L a69,at_I a70];(repeat refine sdQ ?_);refine hK _ ?_;exact jn (b:=true) (Option.some.inj h) (wkQ8 [])
    intro b68 hb68;have h:=h68;(try rw [← hb68] at h);clear h68;(try dsimp only at h);refine Q7 rfl (fun g=>?_) fun g=>?_
    ·have g74:b68=true:=gQ;clear g;replace h:=if_l g74 h;refine Q1 (runQ hN fun K hK=>?_);simp;(repeat refine sdQ ?_);refine hK _ (tn (Q4 (st':=⟨[(4,.val (.bool false))],[],0⟩) (wkQ8 []) (Qf (tr (br (tr (lr (br (tr ?_)))))))));clear hK K;cases h;have h:=h67;(try dsimp only at h);cases h;have q:_=e1:=hk65;have h:=h1;rw [← q] at h;clear q;(try dsimp only at h);have hr:=Option.some.inj h;rw [← hr];refine ⟨_,(.tmp .nil),?_⟩;refine ⟨(.one rfl rfl .nil),[.val (.bool false)],[],by simp [UA,U1,IA,I1,LA,L1,BA,B1,EA,E1,E2,eB,eI,eL],by simp,(UpL.refl _)⟩
    have g74:¬ (b68=true):=gQ;clear g;replace h:=if_r g74 h;refine Q8 (tn (Q1 (runQ hN fun K hK=>?_)));simp;(repeat refine sdQ ?_);refine hK _ (tn (Q4 (st':=⟨YE table_ unit_ ((5,iV s65)::YP table_ s65 [(35,iV 0)]),[],0⟩) (wkQ8 []) (Q5 ?_)));clear hK K;replace ⟨e101,he101,h101⟩:=bind_some h;refine Qn he101 (fun s101:Int=>⟨YE table_ unit_ ((5,iV s65)::YP table_ s65 [(35,iV s101)]),[],0⟩) (wkQ8 []) ?_;intro k101 s101 c101 h hk101;refine Q1 (runQ hN fun K hK=>?_);simp;(repeat refine sdQ ?_);refine hK _ ?_;clear hK K;refine tn (Q1 (Q7 rfl (fun g=>?_) fun g=>?_))
    ·have g102:s101<(table_.length:Int):=gQ;clear g;replace h:=if_l g102 h;refine Q8 (tn (Q1 ?_));replace ⟨e103,h,h103⟩:=bind_some h;refine Qe (fun b103:Unit=>⟨YE table_ unit_ ((5,iV s65)::YP table_ s65 [(35,iV s101)]),[],0⟩) (fun b103=>Sum.inl b103=e103) ?_ ?_
     ·refine Q5 (Q1 (runQ hN fun K hK=>?_));simp;(repeat refine sdQ ?_);refine hK _ ?_;clear hK K;refine tn (Q4 (st':=⟨YE table_ unit_ ((5,iV s65)::(6,iV s101)::YP table_ s65 [(35,iV s101)]),[],0⟩) (wkQ8 []) (Q1 (runQ hN fun K hK=>?_)));simp;(repeat refine sdQ ?_);refine hK _ (tn (Q4 (st':=⟨YE table_ unit_ ((5,iV s65)::(6,iV s101)::YP table_ s65 [(35,iV s101),(39,iV (table_.length:Int)),(40,iV 0)]),[],0⟩) (wkQ8 []) (Q5 ?_)));clear hK K;replace ⟨e115,he115,h115⟩:=bind_some h;refine Qn he115 (fun s115:Int=>⟨YE table_ unit_ ((5,iV s65)::(6,iV s101)::YP table_ s65 [(35,iV s101),(39,iV (table_.length:Int)),(40,iV s115)]),[],0⟩) (wkQ8 []) ?_;intro k115 s115 c115 h hk115;refine Q1 (runQ hN fun K hK=>?_);simp;(repeat refine sdQ ?_);refine hK _ ?_;clear hK K;refine tn (Q1 (Q7 rfl (fun g=>?_) fun g=>?_))
      ·have g116:s115<(table_.length:Int):=gQ;clear g;replace h:=if_l g116 h;refine Q8 (tn (Q1 (Q5 (Q1 (runQ hN fun K hK=>?_)))));simp;(repeat refine sdQ ?_);refine hK _ ?_;clear hK K;refine tn (Q4 (st':=⟨YE table_ unit_ ((5,iV s65)::(6,iV s101)::(7,iV s115)::YP table_ s65 [(35,iV s101),(39,iV (table_.length:Int)),(40,iV s115)]),[],0⟩) (wkQ8 []) (Q1 (runQ hN fun K hK=>?_)));replace ⟨a117,h⟩:=Q0 h;replace ⟨a118,h⟩:=Q0 h;replace ⟨a119,h⟩:=Q0 h;replace ⟨a120,h⟩:=Q0 h;replace ⟨a121,h⟩:=Q0 h;replace ⟨a122,h⟩:=Q0 h;replace ⟨a123,h⟩:=Q0 h;replace ⟨a124,h⟩:=Q0 h;simp [at_L a117,at_I a118,at_L a119,at_I a120,at_L a121,at_L a122,at_I a123,at_I a124];(repeat refine sdQ ?_);refine hK _ ?_;clear hK K;refine tn (Q7 rfl (fun g=>?_) fun g=>?_)
       ·have g125:¬ ((ix (rx table_ (ix (rx table_ s65) s101)) s115)=(ix (rx table_ s65) (ix (rx table_ s101) s115))):=gQ;clear g;replace h:=if_l g125 h;refine Q1 (runQ hN fun K hK=>?_);simp;(repeat refine sdQ ?_);refine hK _ (tn (Q4 (st':=⟨[(4,.val (.bool false))],[],0⟩) (wkQ8 []) (Qf (br (tr (lr (br (br (tr (lr (br (br (tr (lr (br (tr ?_))))))))))))))));clear hK K;cases h;have q:_=e115:=hk115;have h:=h115;rw [← q] at h;clear q;(try dsimp only at h);cases h;have h:=h103;(try dsimp only at h);cases h;have q:_=e101:=hk101;have h:=h101;rw [← q] at h;clear q;(try dsimp only at h);cases h;have h:=h67;(try dsimp only at h);cases h;have q:_=e1:=hk65;have h:=h1;rw [← q] at h;clear q;(try dsimp only at h);have hr:=Option.some.inj h;rw [← hr];refine ⟨_,(.tmp .nil),?_⟩;refine ⟨(.one rfl rfl .nil),[.val (.bool false)],[],by simp [UA,U1,IA,I1,LA,L1,BA,B1,EA,E1,E2,eB,eI,eL],by simp,(UpL.refl _)⟩
       have g125:¬ (¬ ((ix (rx table_ (ix (rx table_ s65) s101)) s115)=(ix (rx table_ s65) (ix (rx table_ s101) s115)))):=gQ;clear g;replace h:=if_r g125 h;refine Q8 (bn (tn (runQ hN fun K hK=>?_)));replace ⟨a126,h⟩:=Q0 h;simp [Qk a126];(repeat refine sdQ ?_);refine hK _ ?_;clear hK K;cases h;exact rn (s':=s115+1) hk115 (wkQ8 [])
      have g116:¬ (s115<(table_.length:Int)):=gQ;clear g;replace h:=if_r g116 h;refine Qg (tx (lx (bh (bn ?_))));cases h;have q:_=e115:=hk115;have h:=h115;rw [← q] at h;clear q;(try dsimp only at h);exact jn (b:=()) (Option.some.inj h) (wkQ8 [])
     intro b103 hb103;have h:=h103;(try rw [← hb103] at h);clear h103;(try dsimp only at h);refine runQ hN fun K hK=>?_;replace ⟨a127,h⟩:=Q0 h;simp [Qk a127];(repeat refine sdQ ?_);refine hK _ ?_;clear hK K;cases h;exact rn (s':=s101+1) hk101 (wkQ8 [])
    have g102:¬ (s101<(table_.length:Int)):=gQ;clear g;replace h:=if_r g102 h;refine Qg (tx (lx (bh (bn ?_))));cases h;have q:_=e101:=hk101;have h:=h101;rw [← q] at h;clear q;(try dsimp only at h);exact jn (b:=()) (Option.some.inj h) (wkQ8 [])
   intro b67 hb67;have h:=h67;(try rw [← hb67] at h);clear h67;(try dsimp only at h);refine runQ hN fun K hK=>?_;replace ⟨a128,h⟩:=Q0 h;simp [Qk a128];(repeat refine sdQ ?_);refine hK _ ?_;clear hK K;cases h;exact rn (s':=s65+1) hk65 (wkQ8 [])
  have g66:¬ (s65<(table_.length:Int)):=gQ;clear g;replace h:=if_r g66 h;refine Qg (tx (lx (bh ?_)));cases h;exact jn (b:=()) hk65 (wkQ8 [])
 intro b1 hb1;have h:=h1;try rw [← hb1] at h
 clear h1;try dsimp only at h
 refine Q1 (runQ hN fun K hK=>?_);simp;repeat refine sdQ ?_
 refine hK _ (tn (Q4 (st':=⟨[(4,.val (.bool true))],[],0⟩) (wkQ8 []) (Qf ?_)));clear hK K;have hr:=Option.some.inj h;rw [← hr];refine ⟨_,(.tmp .nil),?_⟩;refine ⟨(.one rfl rfl .nil),[.val (.bool true)],[],by simp [UA,U1,IA,I1,LA,L1,BA,B1,EA,E1,E2,eB,eI,eL],by simp,(UpL.refl _)⟩
attribute [local simp] unk unA unE unT unC flat eL eI Qs
noncomputable def Q1U (list_:List (List Int)) (n_:Int):Option Bool :=
 if ¬ ((list_.length:Int)=n_) then
  some false
 else
  (Qt (σ:=Int) (ε:=Unit ⊕ Bool) (fun s10 =>
   if s10<(list_.length:Int) then
    ass (0≤s10∧s10<(list_.length:Int)) <|
    (
     if ¬ (((rx list_ s10).length:Int)=n_) then
      some true
     else
      (Q2j (rx list_ s10) n_).bind fun v15 =>
      some (!v15):Option (Bool)).bind fun b13 =>
    if b13=true then
     some (Ctl.ret (Sum.inr false))
    else
     ass (B64 (s10+1)) <|
     some (Ctl.next (s10+1))
   else
    some (Ctl.ret (Sum.inl ()))) fuel 0).bind fun e2 =>
  match e2 with
  | .inl b2 =>
   some true
  | .inr p2 =>
   some p2
theorem Q4W (list_:List (List Int)) (n_:Int) (r:Bool) (h:Q1U list_ n_=some r):Contract Try.prog 75 [.lst true 1 (Ls list_),iV n_] (.val (.bool r)):=by
 refine Qh (rvs:=[.tmp 4]) (rs:=[.val (.bool r)]) Try.func75 rfl rfl rfl rfl (by simp [Try.f75]) fun F hN hP=>?_;unfold Q1U at h;refine Q1 (runQ hN fun K hK=>?_);simp;repeat refine sdQ ?_
 refine hK _ ?_;clear hK K;refine tn (Q4 (st':=⟨YE list_ n_ [],[],0⟩) (wkQ8 []) (Q1 (Q1 (runQ hN fun K hK=>?_))));simp;repeat refine sdQ ?_
 refine hK _ ?_;clear hK K;refine tn (Q7 rfl (fun g=>?_) fun g=>?_)
 ·have g1:¬ ((list_.length:Int)=n_):=gQ;clear g;replace h:=if_l g1 h;refine Q1 (runQ hN fun K hK=>?_);simp;repeat refine sdQ ?_
  refine hK _ (tn (Q4 (st':=⟨[(4,.val (.bool false))],[],0⟩) (wkQ8 []) (Qf (tr ?_))));clear hK K;have hr:=Option.some.inj h;rw [← hr];refine ⟨_,(.tmp .nil),?_⟩;refine ⟨(.one rfl rfl .nil),[.val (.bool false)],[],by simp [UA,U1,IA,I1,LA,L1,BA,B1,EA,E1,E2,eB,eI,eL],by simp,(UpL.refl _)⟩
 have g1:¬ (¬ ((list_.length:Int)=n_)):=gQ;clear g;replace h:=if_r g1 h;refine Q8 (tn (Q1 (Q1 (runQ hN fun K hK=>?_))));simp;repeat refine sdQ ?_
 refine hK _ (tn (Q4 (st':=⟨[(1,iV n_),(11,.lst true 1 (Ls list_)),(12,iV (list_.length:Int)),(13,iV 0)],[],0⟩) (wkQ8 []) ?_));clear hK K;replace ⟨e2,h,h2⟩:=bind_some h;refine Qe (fun b2:Unit=>⟨[],[],0⟩) (fun b2=>Sum.inl b2=e2) ?_ ?_
 ·refine Q5 (Qn h (fun s10:Int=>⟨[(1,iV n_),(11,.lst true 1 (Ls list_)),(12,iV (list_.length:Int)),(13,iV s10)],[],0⟩) (wkQ8 []) ?_);clear h;intro k10 s10 c10 h hk10;refine Q1 (runQ hN fun K hK=>?_);simp;repeat refine sdQ ?_
  refine hK _ ?_;clear hK K;refine tn (Q1 (Q7 rfl (fun g=>?_) fun g=>?_))
  ·have g11:s10<(list_.length:Int):=gQ;clear g;replace h:=if_l g11 h;refine Q8 (tn (Q1 (Q5 (Q1 (runQ hN fun K hK=>?_)))));replace ⟨a12,h⟩:=Q0 h;simp [at_L a12];(repeat refine sdQ ?_);refine hK _ (tn (Q4 (st':=⟨[(1,iV n_),(6,lI (rx list_ s10)),(11,.lst true 1 (Ls list_)),(12,iV (list_.length:Int)),(13,iV s10)],[],0⟩) (wkQ8 []) (Q1 ?_)));clear hK K;replace ⟨e13,h,h13⟩:=bind_some h;refine Qe (fun b13:Bool=>⟨[(1,iV n_),(11,.lst true 1 (Ls list_)),(12,iV (list_.length:Int)),(13,iV s10),(26,.val (.bool b13))],[],0⟩) (fun b13=>b13=e13) ?_ ?_
   ·refine runQ hN fun K hK=>?_;simp;(repeat with_reducible refine sdQ ?_);refine Qo (fun g=>?_) (fun g=>?_)
    ·have g14:¬ (¬ (((rx list_ s10).length:Int)=n_)):=gQ;clear g;replace h:=if_r g14 h;simp;(repeat with_reducible refine sdQ ?_);replace ⟨v15,hv15,h⟩:=bind_some h;refine Q2 (Q5z _ _ v15 hv15) (.cons .lst (.cons .val .nil)) ?_;simp;(repeat refine sdQ ?_);refine hK _ ?_;exact jn (b:=!v15) (Option.some.inj h) (wkQ8 [])
    have g14:¬ (((rx list_ s10).length:Int)=n_):=gQ;clear g;replace h:=if_l g14 h;simp;(repeat refine sdQ ?_);refine hK _ ?_;exact jn (b:=true) (Option.some.inj h) (wkQ8 [])
   intro b13 hb13;have h:=h13;(try rw [← hb13] at h);clear h13;(try dsimp only at h);refine Q7 rfl (fun g=>?_) fun g=>?_
   ·have g16:b13=true:=gQ;clear g;replace h:=if_l g16 h;refine Q1 (runQ hN fun K hK=>?_);simp;(repeat refine sdQ ?_);refine hK _ (tn (Q4 (st':=⟨[(4,.val (.bool false))],[],0⟩) (wkQ8 []) (Qf (br (tr (lr (br (tr ?_))))))));clear hK K;cases h;have q:_=e2:=hk10;have h:=h2;rw [← q] at h;clear q;(try dsimp only at h);have hr:=Option.some.inj h;rw [← hr];refine ⟨_,(.tmp .nil),?_⟩;refine ⟨(.one rfl rfl .nil),[.val (.bool false)],[],by simp [UA,U1,IA,I1,LA,L1,BA,B1,EA,E1,E2,eB,eI,eL],by simp,(UpL.refl _)⟩
   have g16:¬ (b13=true):=gQ;clear g;replace h:=if_r g16 h;refine Q8 (bn (tn (runQ hN fun K hK=>?_)));replace ⟨a17,h⟩:=Q0 h;simp [Qk a17];(repeat refine sdQ ?_);refine hK _ ?_;clear hK K;cases h;exact rn (s':=s10+1) hk10 (wkQ8 [])
  have g11:¬ (s10<(list_.length:Int)):=gQ;clear g;replace h:=if_r g11 h;refine Qg (tx (lx (bh ?_)));cases h;exact jn (b:=()) hk10 (wkQ8 [])
 intro b2 hb2;have h:=h2;try rw [← hb2] at h
 clear h2;try dsimp only at h
 refine Q1 (runQ hN fun K hK=>?_);simp;repeat refine sdQ ?_
 refine hK _ (tn (Q4 (st':=⟨[(4,.val (.bool true))],[],0⟩) (wkQ8 []) (Qf ?_)));clear hK K;have hr:=Option.some.inj h;rw [← hr];refine ⟨_,(.tmp .nil),?_⟩;refine ⟨(.one rfl rfl .nil),[.val (.bool true)],[],by simp [UA,U1,IA,I1,LA,L1,BA,B1,EA,E1,E2,eB,eI,eL],by simp,(UpL.refl _)⟩
attribute [local simp] unk unA unE unT unC flat eL eI Qs
noncomputable def Q2h (table_:List (List Int)) (bound_:Int):Option Bool :=
 (Qt (σ:=Int) (ε:=Unit ⊕ Bool) (fun s10 =>
  if s10<(table_.length:Int) then
   (
    ass (0≤s10∧s10<(table_.length:Int)) <|
    if ¬ (((rx table_ s10).length:Int)=(table_.length:Int)) then
     some true
    else
     ass (0≤s10∧s10<(table_.length:Int)) <|
     (Q3p bound_ (rx table_ s10)).bind fun v16 =>
     some (!v16):Option (Bool)).bind fun b12 =>
   if b12=true then
    some (Ctl.ret (Sum.inr false))
   else
    ass (B64 (s10+1)) <|
    some (Ctl.next (s10+1))
  else
   some (Ctl.ret (Sum.inl ()))) fuel 0).bind fun e1 =>
 match e1 with
 | .inl b1 =>
  some true
 | .inr p1 =>
  some p1
theorem Q60 (table_:List (List Int)) (bound_:Int) (r:Bool) (h:Q2h table_ bound_=some r):Contract Try.prog 103 [.lst true 1 (Ls table_),iV bound_] (.val (.bool r)):=by
 refine Qh (rvs:=[.tmp 4]) (rs:=[.val (.bool r)]) Try.func103 rfl rfl rfl rfl (by simp [Try.f103]) fun F hN hP=>?_;unfold Q2h at h;refine Q1 (runQ hN fun K hK=>?_);simp;repeat refine sdQ ?_
 refine hK _ ?_;clear hK K;refine tn (Q4 (st':=⟨YE table_ bound_ [],[],0⟩) (wkQ8 []) (Q1 (Q1 (runQ hN fun K hK=>?_))));simp;repeat refine sdQ ?_
 refine hK _ (tn (Q4 (st':=⟨YE table_ bound_ [(5,iV 0)],[],0⟩) (wkQ8 []) ?_));clear hK K;replace ⟨e1,h,h1⟩:=bind_some h;refine Qe (fun b1:Unit=>⟨[],[],0⟩) (fun b1=>Sum.inl b1=e1) ?_ ?_
 ·refine Q5 (Qn h (fun s10:Int=>⟨YE table_ bound_ [(5,iV s10)],[],0⟩) (wkQ8 []) ?_);clear h;intro k10 s10 c10 h hk10;refine Q1 (Q1 (runQ hN fun K hK=>?_));simp;repeat refine sdQ ?_
  refine hK _ ?_;clear hK K;refine tn (Q7 rfl (fun g=>?_) fun g=>?_)
  ·have g11:s10<(table_.length:Int):=gQ;clear g;replace h:=if_l g11 h;refine Q8 (tn (Q1 (Q5 (Q1 ?_))));replace ⟨e12,h,h12⟩:=bind_some h;refine Qe (fun b12:Bool=>⟨YE table_ bound_ [(5,iV s10),(28,.val (.bool b12))],[],0⟩) (fun b12=>b12=e12) ?_ ?_
   ·refine runQ hN fun K hK=>?_;replace ⟨a13,h⟩:=Q0 h;simp [at_L a13];(repeat with_reducible refine sdQ ?_);refine Qo (fun g=>?_) (fun g=>?_)
    ·have g14:¬ (¬ (((rx table_ s10).length:Int)=(table_.length:Int))):=gQ;clear g;replace h:=if_r g14 h;replace ⟨a15,h⟩:=Q0 h;simp [at_L a13,at_L a15];(repeat with_reducible refine sdQ ?_);replace ⟨v16,hv16,h⟩:=bind_some h;refine Q2 (Q8N _ _ v16 hv16) (.cons .val (.cons .lst .nil)) ?_;simp [at_L a13,at_L a15];(repeat refine sdQ ?_);refine hK _ ?_;exact jn (b:=!v16) (Option.some.inj h) (wkQ8 [])
    have g14:¬ (((rx table_ s10).length:Int)=(table_.length:Int)):=gQ;clear g;replace h:=if_l g14 h;simp [at_L a13];(repeat refine sdQ ?_);refine hK _ ?_;exact jn (b:=true) (Option.some.inj h) (wkQ8 [])
   intro b12 hb12;have h:=h12;(try rw [← hb12] at h);clear h12;(try dsimp only at h);refine Q7 rfl (fun g=>?_) fun g=>?_
   ·have g17:b12=true:=gQ;clear g;replace h:=if_l g17 h;refine Q1 (runQ hN fun K hK=>?_);simp;(repeat refine sdQ ?_);refine hK _ (tn (Q4 (st':=⟨[(4,.val (.bool false))],[],0⟩) (wkQ8 []) (Qf (br (tr (lr (br (tr ?_))))))));clear hK K;cases h;have q:_=e1:=hk10;have h:=h1;rw [← q] at h;clear q;(try dsimp only at h);have hr:=Option.some.inj h;rw [← hr];refine ⟨_,(.tmp .nil),?_⟩;refine ⟨(.one rfl rfl .nil),[.val (.bool false)],[],by simp [UA,U1,IA,I1,LA,L1,BA,B1,EA,E1,E2,eB,eI,eL],by simp,(UpL.refl _)⟩
   have g17:¬ (b12=true):=gQ;clear g;replace h:=if_r g17 h;refine Q8 (bn (tn (runQ hN fun K hK=>?_)));replace ⟨a18,h⟩:=Q0 h;simp [Qk a18];(repeat refine sdQ ?_);refine hK _ ?_;clear hK K;cases h;exact rn (s':=s10+1) hk10 (wkQ8 [])
  have g11:¬ (s10<(table_.length:Int)):=gQ;clear g;replace h:=if_r g11 h;refine Qg (tx (lx (bh ?_)));cases h;exact jn (b:=()) hk10 (wkQ8 [])
 intro b1 hb1;have h:=h1;try rw [← hb1] at h
 clear h1;try dsimp only at h
 refine Q1 (runQ hN fun K hK=>?_);simp;repeat refine sdQ ?_
 refine hK _ (tn (Q4 (st':=⟨[(4,.val (.bool true))],[],0⟩) (wkQ8 []) (Qf ?_)));clear hK K;have hr:=Option.some.inj h;rw [← hr];refine ⟨_,(.tmp .nil),?_⟩;refine ⟨(.one rfl rfl .nil),[.val (.bool true)],[],by simp [UA,U1,IA,I1,LA,L1,BA,B1,EA,E1,E2,eB,eI,eL],by simp,(UpL.refl _)⟩
attribute [local simp] unk unA unE unT unC flat eL eI Qs
noncomputable def Q1G (table_:List (List Int)) (n_:Int) (bound_:Int):Option Bool :=
 (
  if (table_.length:Int)=n_ then
   (Q2h table_ bound_).bind fun v3 =>
   some v3
  else
   some false:Option (Bool)).bind fun b1 =>
 some b1
theorem Q4m (table_:List (List Int)) (n_:Int) (bound_:Int) (r:Bool) (h:Q1G table_ n_ bound_=some r):Contract Try.prog 62 [.lst true 1 (Ls table_),iV n_,iV bound_] (.val (.bool r)):=by
 refine Qh (rvs:=[.tmp 6]) (rs:=[.val (.bool r)]) Try.func62 rfl rfl rfl rfl (by simp [Try.f62]) fun F hN hP=>?_;unfold Q1G at h;refine Q1 (runQ hN fun K hK=>?_);simp;repeat refine sdQ ?_
 refine hK _ (tn (Q4 (st':=⟨YE table_ n_ [(2,iV bound_)],[],0⟩) (wkQ8 []) (Q1 ?_)));clear hK K;replace ⟨e1,h,h1⟩:=bind_some h;refine Qe (fun b1:Bool=>⟨[(6,.val (.bool b1))],[],0⟩) (fun b1=>b1=e1) ?_ ?_
 ·refine runQ hN fun K hK=>?_;simp;repeat with_reducible refine sdQ ?_
  refine Qo (fun g=>?_) (fun g=>?_)
  ·have g2:(table_.length:Int)=n_:=gQ;clear g;replace h:=if_l g2 h;simp;(repeat with_reducible refine sdQ ?_);replace ⟨v3,hv3,h⟩:=bind_some h;refine Q2 (Q60 _ _ v3 hv3) (.cons .lst (.cons .val .nil)) ?_;simp;(repeat refine sdQ ?_);refine hK _ ?_;exact jn (b:=v3) (Option.some.inj h) (wkQ8 [])
  have g2:¬ ((table_.length:Int)=n_):=gQ;clear g;replace h:=if_r g2 h;simp;repeat refine sdQ ?_
  refine hK _ ?_;exact jn (b:=false) (Option.some.inj h) (wkQ8 [])
 intro b1 hb1;have h:=h1;try rw [← hb1] at h
 clear h1;try dsimp only at h
 refine Qf ?_;have hr:=Option.some.inj h;rw [← hr];refine ⟨_,(.tmp .nil),?_⟩;refine ⟨(.one rfl rfl .nil),[.val (.bool b1)],[],by simp [UA,U1,IA,I1,LA,L1,BA,B1,EA,E1,E2,eB,eI,eL],by simp,(UpL.refl _)⟩
attribute [local simp] unk unA unE unT unC flat eL eI Qs
noncomputable def Q1H (table_:List (List Int)) (unit_:Int):Option Bool :=
 (Qt (σ:=Int) (ε:=Unit ⊕ Bool) (fun s65 =>
  if s65<(table_.length:Int) then
   (
    (
     ass (0≤unit_∧unit_<(table_.length:Int)) <|
     ass (0≤s65∧s65<((rx table_ unit_).length:Int)) <|
     if ¬ ((ix (rx table_ unit_) s65)=s65) then
      some true
     else
      ass (0≤s65∧s65<(table_.length:Int)) <|
      ass (0≤unit_∧unit_<((rx table_ s65).length:Int)) <|
      some ((ix (rx table_ s65) unit_) != s65):Option (Bool)).bind fun b68 =>
    if b68=true then
     some (Sum.inr false)
    else
     (Qt (σ:=Int) (ε:=Bool ⊕ Unit) (fun s101 =>
      if s101<(table_.length:Int) then
       (
        (Qt (σ:=Int) (ε:=Bool ⊕ Unit) (fun s115 =>
         if s115<(table_.length:Int) then
          ass (0≤s65∧s65<(table_.length:Int)) <|
          ass (0≤s101∧s101<((rx table_ s65).length:Int)) <|
          ass (0≤ix (rx table_ s65) s101∧ix (rx table_ s65) s101<(table_.length:Int)) <|
          ass (0≤s115∧s115<((rx table_ (ix (rx table_ s65) s101)).length:Int)) <|
          ass (0≤s65∧s65<(table_.length:Int)) <|
          ass (0≤s101∧s101<(table_.length:Int)) <|
          ass (0≤s115∧s115<((rx table_ s101).length:Int)) <|
          ass (0≤ix (rx table_ s101) s115∧ix (rx table_ s101) s115<((rx table_ s65).length:Int)) <|
          if ¬ ((ix (rx table_ (ix (rx table_ s65) s101)) s115)=(ix (rx table_ s65) (ix (rx table_ s101) s115))) then
           some (Ctl.ret (Sum.inl false))
          else
           ass (B64 (s115+1)) <|
           some (Ctl.next (s115+1))
         else
          some (Ctl.ret (Sum.inr ()))) fuel 0).bind fun e115 =>
        match e115 with
        | .inl p115 =>
         some (Sum.inr p115)
        | .inr p115 =>
         some (Sum.inl p115):Option (Unit ⊕ Bool)).bind fun e103 =>
       match e103 with
       | .inl b103 =>
        ass (B64 (s101+1)) <|
        some (Ctl.next (s101+1))
       | .inr p103 =>
        some (Ctl.ret (Sum.inl p103))
      else
       some (Ctl.ret (Sum.inr ()))) fuel 0).bind fun e101 =>
     match e101 with
     | .inl p101 =>
      some (Sum.inr p101)
     | .inr p101 =>
      some (Sum.inl p101):Option (Unit ⊕ Bool)).bind fun e67 =>
   match e67 with
   | .inl b67 =>
    ass (B64 (s65+1)) <|
    some (Ctl.next (s65+1))
   | .inr p67 =>
    some (Ctl.ret (Sum.inr p67))
  else
   some (Ctl.ret (Sum.inl ()))) fuel 0).bind fun e1 =>
 match e1 with
 | .inl b1 =>
  some true
 | .inr p1 =>
  some p1
theorem Q4n (table_:List (List Int)) (unit_:Int) (r:Bool) (h:Q1H table_ unit_=some r):Contract Try.prog 64 [.lst true 1 (Ls table_),iV unit_] (.val (.bool r)):=by
 refine Qh (rvs:=[.tmp 4]) (rs:=[.val (.bool r)]) Try.func64 rfl rfl rfl rfl (by simp [Try.f64]) fun F hN hP=>?_;unfold Q1H at h;refine Q1 (runQ hN fun K hK=>?_);simp;repeat refine sdQ ?_
 refine hK _ ?_;clear hK K;refine tn (Q4 (st':=⟨YE table_ unit_ [],[],0⟩) (wkQ8 []) (Q1 (Q1 (runQ hN fun K hK=>?_))));simp;repeat refine sdQ ?_
 refine hK _ (tn (Q4 (st':=⟨YE table_ unit_ [(5,iV 0)],[],0⟩) (wkQ8 []) ?_));clear hK K;replace ⟨e1,h,h1⟩:=bind_some h;refine Qe (fun b1:Unit=>⟨[],[],0⟩) (fun b1=>Sum.inl b1=e1) ?_ ?_
 ·refine Q5 (Qn h (fun s65:Int=>⟨YE table_ unit_ [(5,iV s65)],[],0⟩) (wkQ8 []) ?_);clear h;intro k65 s65 c65 h hk65;refine Q1 (Q1 (runQ hN fun K hK=>?_));simp;repeat refine sdQ ?_
  refine hK _ ?_;clear hK K;refine tn (Q7 rfl (fun g=>?_) fun g=>?_)
  ·have g66:s65<(table_.length:Int):=gQ;clear g;replace h:=if_l g66 h;refine Q8 (tn (Q1 ?_));replace ⟨e67,h,h67⟩:=bind_some h;refine Qe (fun b67:Unit=>⟨YE table_ unit_ [(5,iV s65)],[],0⟩) (fun b67=>Sum.inl b67=e67) ?_ ?_
   ·refine Q5 (Q1 (Q1 ?_));replace ⟨e68,h,h68⟩:=bind_some h;refine Qe (fun b68:Bool=>⟨YE table_ unit_ [(5,iV s65),(33,.val (.bool b68))],[],0⟩) (fun b68=>b68=e68) ?_ ?_
    ·refine runQ hN fun K hK=>?_;replace ⟨a69,h⟩:=Q0 h;replace ⟨a70,h⟩:=Q0 h;simp [at_L a69,at_I a70];(repeat with_reducible refine sdQ ?_);refine Qo (fun g=>?_) (fun g=>?_)
     ·have g71:¬ (¬ ((ix (rx table_ unit_) s65)=s65)):=gQ;clear g;replace h:=if_r g71 h;replace ⟨a72,h⟩:=Q0 h;replace ⟨a73,h⟩:=Q0 h;simp [at_L a69,at_I a70,at_L a72,at_I a73];(repeat refine sdQ ?_);refine hK _ ?_;exact jn (b:=(ix (rx table_ s65) unit_) != s65) (Option.some.inj h) (wkQ8 [])
     have g71:¬ ((ix (rx table_ unit_) s65)=s65):=gQ;clear g;replace h:=if_l g71 h;simp [at_L a69,at_I a70];(repeat refine sdQ ?_);refine hK _ ?_;exact jn (b:=true) (Option.some.inj h) (wkQ8 [])
    intro b68 hb68;have h:=h68;(try rw [← hb68] at h);clear h68;(try dsimp only at h);refine Q7 rfl (fun g=>?_) fun g=>?_
    ·have g74:b68=true:=gQ;clear g;replace h:=if_l g74 h;refine Q1 (runQ hN fun K hK=>?_);simp;(repeat refine sdQ ?_);refine hK _ (tn (Q4 (st':=⟨[(4,.val (.bool false))],[],0⟩) (wkQ8 []) (Qf (tr (br (tr (lr (br (tr ?_)))))))));clear hK K;cases h;have h:=h67;(try dsimp only at h);cases h;have q:_=e1:=hk65;have h:=h1;rw [← q] at h;clear q;(try dsimp only at h);have hr:=Option.some.inj h;rw [← hr];refine ⟨_,(.tmp .nil),?_⟩;refine ⟨(.one rfl rfl .nil),[.val (.bool false)],[],by simp [UA,U1,IA,I1,LA,L1,BA,B1,EA,E1,E2,eB,eI,eL],by simp,(UpL.refl _)⟩
    have g74:¬ (b68=true):=gQ;clear g;replace h:=if_r g74 h;refine Q8 (tn (Q1 (runQ hN fun K hK=>?_)));simp;(repeat refine sdQ ?_);refine hK _ (tn (Q4 (st':=⟨YE table_ unit_ [(5,iV s65),(6,iV 0)],[],0⟩) (wkQ8 []) (Q5 ?_)));clear hK K;replace ⟨e101,he101,h101⟩:=bind_some h;refine Qn he101 (fun s101:Int=>⟨YE table_ unit_ [(5,iV s65),(6,iV s101)],[],0⟩) (wkQ8 []) ?_;intro k101 s101 c101 h hk101;refine Q1 (Q1 (runQ hN fun K hK=>?_));simp;(repeat refine sdQ ?_);refine hK _ ?_;clear hK K;refine tn (Q7 rfl (fun g=>?_) fun g=>?_)
    ·have g102:s101<(table_.length:Int):=gQ;clear g;replace h:=if_l g102 h;refine Q8 (tn (Q1 ?_));replace ⟨e103,h,h103⟩:=bind_some h;refine Qe (fun b103:Unit=>⟨YE table_ unit_ [(5,iV s65),(6,iV s101)],[],0⟩) (fun b103=>Sum.inl b103=e103) ?_ ?_
     ·refine Q5 (Q1 (runQ hN fun K hK=>?_));simp;(repeat refine sdQ ?_);refine hK _ (tn (Q4 (st':=⟨YE table_ unit_ [(5,iV s65),(6,iV s101),(7,iV 0)],[],0⟩) (wkQ8 []) (Q5 ?_)));clear hK K;replace ⟨e115,he115,h115⟩:=bind_some h;refine Qn he115 (fun s115:Int=>⟨YE table_ unit_ [(5,iV s65),(6,iV s101),(7,iV s115)],[],0⟩) (wkQ8 []) ?_;intro k115 s115 c115 h hk115;refine Q1 (Q1 (runQ hN fun K hK=>?_));simp;(repeat refine sdQ ?_);refine hK _ ?_;clear hK K;refine tn (Q7 rfl (fun g=>?_) fun g=>?_)
      ·have g116:s115<(table_.length:Int):=gQ;clear g;replace h:=if_l g116 h;refine Q8 (tn (Q1 (Q5 (Q1 (runQ hN fun K hK=>?_)))));replace ⟨a117,h⟩:=Q0 h;replace ⟨a118,h⟩:=Q0 h;replace ⟨a119,h⟩:=Q0 h;replace ⟨a120,h⟩:=Q0 h;replace ⟨a121,h⟩:=Q0 h;replace ⟨a122,h⟩:=Q0 h;replace ⟨a123,h⟩:=Q0 h;replace ⟨a124,h⟩:=Q0 h;simp [at_L a117,at_I a118,at_L a119,at_I a120,at_L a121,at_L a122,at_I a123,at_I a124];(repeat refine sdQ ?_);refine hK _ ?_;clear hK K;refine tn (Q7 rfl (fun g=>?_) fun g=>?_)
       ·have g125:¬ ((ix (rx table_ (ix (rx table_ s65) s101)) s115)=(ix (rx table_ s65) (ix (rx table_ s101) s115))):=gQ;clear g;replace h:=if_l g125 h;refine Q1 (runQ hN fun K hK=>?_);simp;(repeat refine sdQ ?_);refine hK _ (tn (Q4 (st':=⟨[(4,.val (.bool false))],[],0⟩) (wkQ8 []) (Qf (br (tr (lr (br (br (tr (lr (br (br (tr (lr (br (tr ?_))))))))))))))));clear hK K;cases h;have q:_=e115:=hk115;have h:=h115;rw [← q] at h;clear q;(try dsimp only at h);cases h;have h:=h103;(try dsimp only at h);cases h;have q:_=e101:=hk101;have h:=h101;rw [← q] at h;clear q;(try dsimp only at h);cases h;have h:=h67;(try dsimp only at h);cases h;have q:_=e1:=hk65;have h:=h1;rw [← q] at h;clear q;(try dsimp only at h);have hr:=Option.some.inj h;rw [← hr];refine ⟨_,(.tmp .nil),?_⟩;refine ⟨(.one rfl rfl .nil),[.val (.bool false)],[],by simp [UA,U1,IA,I1,LA,L1,BA,B1,EA,E1,E2,eB,eI,eL],by simp,(UpL.refl _)⟩
       have g125:¬ (¬ ((ix (rx table_ (ix (rx table_ s65) s101)) s115)=(ix (rx table_ s65) (ix (rx table_ s101) s115)))):=gQ;clear g;replace h:=if_r g125 h;refine Q8 (bn (tn (runQ hN fun K hK=>?_)));replace ⟨a126,h⟩:=Q0 h;simp [Qk a126];(repeat refine sdQ ?_);refine hK _ ?_;clear hK K;cases h;exact rn (s':=s115+1) hk115 (wkQ8 [])
      have g116:¬ (s115<(table_.length:Int)):=gQ;clear g;replace h:=if_r g116 h;refine Qg (tx (lx (bh (bn ?_))));cases h;have q:_=e115:=hk115;have h:=h115;rw [← q] at h;clear q;(try dsimp only at h);exact jn (b:=()) (Option.some.inj h) (wkQ8 [])
     intro b103 hb103;have h:=h103;(try rw [← hb103] at h);clear h103;(try dsimp only at h);refine runQ hN fun K hK=>?_;replace ⟨a127,h⟩:=Q0 h;simp [Qk a127];(repeat refine sdQ ?_);refine hK _ ?_;clear hK K;cases h;exact rn (s':=s101+1) hk101 (wkQ8 [])
    have g102:¬ (s101<(table_.length:Int)):=gQ;clear g;replace h:=if_r g102 h;refine Qg (tx (lx (bh (bn ?_))));cases h;have q:_=e101:=hk101;have h:=h101;rw [← q] at h;clear q;(try dsimp only at h);exact jn (b:=()) (Option.some.inj h) (wkQ8 [])
   intro b67 hb67;have h:=h67;(try rw [← hb67] at h);clear h67;(try dsimp only at h);refine runQ hN fun K hK=>?_;replace ⟨a128,h⟩:=Q0 h;simp [Qk a128];(repeat refine sdQ ?_);refine hK _ ?_;clear hK K;cases h;exact rn (s':=s65+1) hk65 (wkQ8 [])
  have g66:¬ (s65<(table_.length:Int)):=gQ;clear g;replace h:=if_r g66 h;refine Qg (tx (lx (bh ?_)));cases h;exact jn (b:=()) hk65 (wkQ8 [])
 intro b1 hb1;have h:=h1;try rw [← hb1] at h
 clear h1;try dsimp only at h
 refine Q1 (runQ hN fun K hK=>?_);simp;repeat refine sdQ ?_
 refine hK _ (tn (Q4 (st':=⟨[(4,.val (.bool true))],[],0⟩) (wkQ8 []) (Qf ?_)));clear hK K;have hr:=Option.some.inj h;rw [← hr];refine ⟨_,(.tmp .nil),?_⟩;refine ⟨(.one rfl rfl .nil),[.val (.bool true)],[],by simp [UA,U1,IA,I1,LA,L1,BA,B1,EA,E1,E2,eB,eI,eL],by simp,(UpL.refl _)⟩
end Go.Vc.T
