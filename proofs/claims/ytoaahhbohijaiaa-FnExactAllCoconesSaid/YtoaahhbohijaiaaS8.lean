/- A part of the proof: a verified generator of conditions, and what each function of the program does. -/
import Derived.Test.YtoaahhbohijaiaaS7
set_option maxRecDepth 100000
set_option maxHeartbeats 4000000
set_option linter.unusedSimpArgs false
set_option linter.unusedVariables false

namespace Go.Vc.T
open Go Go.Vc Go.Proofs
def Es {α:Type} (c:α→List AV) (xs:List α):List (List AV):=xs.map c
def gx {α:Type} [Inhabited α] (xs:List α) (j:Int):α:=xs.getD j.toNat default
def eB (b:Bool):List AV:=[.val (.bool b)]
def eI (b:Int):List AV:=[iV b]
def eL (x:List (List Int)):List AV:=[.lst true 1 (Ls x)]
section
variable {α:Type} {c:α→List AV}
@[simp] theorem Es_length (xs:List α):(Es c xs).length=xs.length:=by simp [Es]
@[simp] theorem Es_nil:Es c []=[]:=rfl
theorem Es_append (xs ys:List α):Es c (xs++ys)=Es c xs++Es c ys:=by simp [Es]
theorem Es_set' (xs:List α) (i:Nat) (x:α):Es c (xs.set i x)=(Es c xs).set i (c x):=by simp [Es,List.map_set]
theorem at_E [Inhabited α] {xs:List α} {j:Int} (h:0≤j∧j<(xs.length:Int)):(Es c xs)[j.toNat]? = some (c (gx xs j)):=by
 have h2:j.toNat<xs.length:=by omega
 simp [Es,gx,List.getD_eq_getElem?_getD,h2]
end
@[simp] theorem Ls_nil':Ls []=[]:=rfl
theorem Ls_append (xs ys:List (List Int)):Ls (xs++ys)=Ls xs++Ls ys:=by simp [Ls]
@[simp] theorem Ls_rep0 (n:Nat):Ls (List.replicate n [])=List.replicate n [AV.lst true 1 []]:=by simp [Ls]
theorem at_I {xs:List Int} {j:Int} (h:0≤j∧j<(xs.length:Int)):(Is xs)[j.toNat]? = some [iV (ix xs j)]:=by
 have h2:j.toNat<xs.length:=by omega
 simp [Is,ix,List.getD_eq_getElem?_getD,h2]
theorem at_L {xs:List (List Int)} {j:Int} (h:0≤j∧j<(xs.length:Int)):(Ls xs)[j.toNat]? = some [lI (rx xs j)]:=by
 have h2:j.toNat<xs.length:=by omega
 simp [Ls,rx,List.getD_eq_getElem?_getD,h2]
@[simp] theorem Is_takeA (xs:List Int):List.take xs.length (Is xs)=Is xs:=List.take_of_length_le (by simp)
@[simp] theorem Ls_takeA (xs:List (List Int)):List.take xs.length (Ls xs)=Ls xs:=List.take_of_length_le (by simp)
@[simp] theorem u8_min:IntKind.u8.min=0:=rfl
@[simp] theorem u8_max:IntKind.u8.max=255:=rfl
@[simp] theorem Es_takeA {α:Type} {c:α→List AV} (xs:List α):List.take xs.length (Es c xs)=Es c xs:=List.take_of_length_le (by simp)
@[simp] theorem Bs_nil':Bs []=[]:=rfl
theorem Bs_append (xs ys:List Bool):Bs (xs++ys)=Bs xs++Bs ys:=by simp [Bs]
theorem IA (xs ys:List Int):Is (xs++ys)=Is xs++Is ys:=Is_append xs ys
theorem I1 (x:Int) (xs:List Int):Is (x :: xs)=[iV x] :: Is xs:=rfl
theorem LA (xs ys:List (List Int)):Ls (xs++ys)=Ls xs++Ls ys:=Ls_append xs ys
theorem L1 (x:List Int) (xs:List (List Int)):Ls (x :: xs)=[lI x] :: Ls xs:=rfl
theorem BA (xs ys:List Bool):Bs (xs++ys)=Bs xs++Bs ys:=Bs_append xs ys
theorem B1 (x:Bool) (xs:List Bool):Bs (x :: xs)=[.val (.bool x)] :: Bs xs:=rfl
theorem EA {α:Type} {c:α→List AV} (xs ys:List α):Es c (xs++ys)=Es c xs++Es c ys:=Es_append xs ys
theorem E1 {α:Type} {c:α→List AV} (x:α) (xs:List α):Es c (x :: xs)=c x :: Es c xs:=rfl
theorem E2 {α:Type} {c:α→List AV} (xs:List α) (i:Nat) (x:α):Es c (xs.set i x)=(Es c xs).set i (c x):=Es_set' xs i x
theorem rlLL_c {α:Type} {m:List (Nat × Nat)} {c:α→List AV} (h:∀ x,rlL m (c x)=c x):∀ xs:List α,rlLL m (xs.map c)=xs.map c:=by
 intro xs
 induction xs with
 | nil=>rfl
 | cons a r ih=>simp only [List.map_cons,rlLL,h,ih]
@[simp] theorem Qg {α:Type} (m:List (Nat × Nat)) (c:α→List AV) (xs:List α) (h:∀ x,rlL m (c x)=c x):rlLL m (Es c xs)=Es c xs:=rlLL_c h xs
@[simp] theorem rlLL_append (m:List (Nat × Nat)) (xs ys:List (List AV)):rlLL m (xs++ys)=rlLL m xs++rlLL m ys:=by
 induction xs with
 | nil=>rfl
 | cons a r ih=>simp only [List.cons_append,rlLL,ih]
theorem Ls_st {xss:List (List Int)} {i:Nat} {x:List Int}:(Ls xss).set i (((Ls xss).getD i []).set 0 (lI x))=Ls (xss.set i x):=by
 by_cases h:i<xss.length
 ·rw [← Ls_set];congr 1;simp [Ls,List.getD_eq_getElem?_getD,h]
 rw [List.set_eq_of_length_le (by simp;omega),List.set_eq_of_length_le (by omega)]
def QM (x:Cat):List AV:=[.rptr (x.cells true)]
def Q28 (x:Fn):List AV:=[.rptr (x.cells true)]
instance:Inhabited Cat:=⟨⟨0,[],[],[],[]⟩⟩
instance:Inhabited Fn:=⟨⟨default,default,[],[]⟩⟩
structure Cone where
 a:Int
 l:List Int
def Cone.cells (u:Bool) (f:Cone):List AV:=[iV f.a,.lst u 1 (Is f.l)]
instance:Inhabited Cone:=⟨⟨default,default⟩⟩
def Q3W (x:Cone):List AV:=[.rptr (x.cells true)]
structure Ends where
 a:Int
 b:Int
def Ends.cells (u:Bool) (f:Ends):List AV:=[iV f.a,iV f.b]
structure XCocones where
 opposite_:Fn
def XCocones.cells (u:Bool) (f:XCocones):List AV:=[.rptr (Fn.cells true f.opposite_)]
instance:Inhabited XCocones:=⟨⟨default⟩⟩
def QP (x:XCocones):List AV:=[.rptr (x.cells true)]
structure XGrothendieck where
 category_:Cat
 objects_:List (List Int)
 arrows_:List (List Int)
 objectAt_:List (ByteArray × Int)
 arrowAt_:List (ByteArray × Int)
def XGrothendieck.cells (u:Bool) (f:XGrothendieck):List AV:=[iV f.category_.n,.lst u 1 (Is f.category_.fr),.lst u 1 (Is f.category_.to),.lst u 1 (Is f.category_.id),.lst u 1 (Ls f.category_.cs),.lst u 1 (Ls f.objects_),.lst u 1 (Ls f.arrows_),.cmap .str (Msi f.objectAt_),.cmap .str (Msi f.arrowAt_)]
structure XL07State where
 f_:Fn
 g_:Fn
 iso_:Bool
 most_:Int
 found_:List (List Int)
def XL07State.cells (u:Bool) (f:XL07State):List AV:=[iV f.f_.s.n,.lst u 1 (Is f.f_.s.fr),.lst u 1 (Is f.f_.s.to),.lst u 1 (Is f.f_.s.id),.lst u 1 (Ls f.f_.s.cs),iV f.f_.t.n,.lst u 1 (Is f.f_.t.fr),.lst u 1 (Is f.f_.t.to),.lst u 1 (Is f.f_.t.id),.lst u 1 (Ls f.f_.t.cs),.lst u 1 (Is f.f_.ob),.lst u 1 (Is f.f_.ar),iV f.g_.s.n,.lst u 1 (Is f.g_.s.fr),.lst u 1 (Is f.g_.s.to),.lst u 1 (Is f.g_.s.id),.lst u 1 (Ls f.g_.s.cs),iV f.g_.t.n,.lst u 1 (Is f.g_.t.fr),.lst u 1 (Is f.g_.t.to),.lst u 1 (Is f.g_.t.id),.lst u 1 (Ls f.g_.t.cs),.lst u 1 (Is f.g_.ob),.lst u 1 (Is f.g_.ar),.val (.bool f.iso_),iV f.most_,.lst u 1 (Ls f.found_)]
instance:Inhabited XL07State:=⟨⟨default,default,default,default,default⟩⟩
def Qj (x:XL07State):List AV:=[.rptr (x.cells true)]
structure XL20Space where
 c_:Cat
 objects_:List (List Int)
 arrows_:List (List Int)
def XL20Space.cells (u:Bool) (f:XL20Space):List AV:=[iV f.c_.n,.lst u 1 (Is f.c_.fr),.lst u 1 (Is f.c_.to),.lst u 1 (Is f.c_.id),.lst u 1 (Ls f.c_.cs),.lst u 1 (Ls f.objects_),.lst u 1 (Ls f.arrows_)]
structure XMoved where
 d_:Fn
 image_:Fn
 f_:Fn
 all_:List Cone
 more_:List Cone
def XMoved.cells (u:Bool) (f:XMoved):List AV:=[iV f.d_.s.n,.lst u 1 (Is f.d_.s.fr),.lst u 1 (Is f.d_.s.to),.lst u 1 (Is f.d_.s.id),.lst u 1 (Ls f.d_.s.cs),iV f.d_.t.n,.lst u 1 (Is f.d_.t.fr),.lst u 1 (Is f.d_.t.to),.lst u 1 (Is f.d_.t.id),.lst u 1 (Ls f.d_.t.cs),.lst u 1 (Is f.d_.ob),.lst u 1 (Is f.d_.ar),iV f.image_.s.n,.lst u 1 (Is f.image_.s.fr),.lst u 1 (Is f.image_.s.to),.lst u 1 (Is f.image_.s.id),.lst u 1 (Ls f.image_.s.cs),iV f.image_.t.n,.lst u 1 (Is f.image_.t.fr),.lst u 1 (Is f.image_.t.to),.lst u 1 (Is f.image_.t.id),.lst u 1 (Ls f.image_.t.cs),.lst u 1 (Is f.image_.ob),.lst u 1 (Is f.image_.ar),.rptr (Fn.cells true f.f_),.lst u 2 (Es (Cone.cells true) f.all_),.lst u 2 (Es (Cone.cells true) f.more_)]
def eP_XMoved (x:XMoved):List AV:=[.rptr (x.cells true)]
@[simp] theorem ef_68:elm Try.prog 68=some 57:=by kernel_rfl
@[simp] theorem ef_178:elm Try.prog 178=some 93:=by kernel_rfl
@[simp] theorem ff_33_0:fld Try.prog 33 0=some (0,5,true):=by kernel_rfl
@[simp] theorem ff_33_1:fld Try.prog 33 1=some (5,5,true):=by kernel_rfl
@[simp] theorem ff_33_2:fld Try.prog 33 2=some (10,1,false):=by kernel_rfl
@[simp] theorem ff_33_3:fld Try.prog 33 3=some (11,1,false):=by kernel_rfl
@[simp] theorem ff_47_0:fld Try.prog 47 0=some (0,5,true):=by kernel_rfl
@[simp] theorem ff_47_1:fld Try.prog 47 1=some (5,5,true):=by kernel_rfl
@[simp] theorem ff_47_2:fld Try.prog 47 2=some (10,1,false):=by kernel_rfl
@[simp] theorem ff_47_3:fld Try.prog 47 3=some (11,1,false):=by kernel_rfl
@[simp] theorem ff_57_0:fld Try.prog 57 0=some (0,1,false):=by kernel_rfl
@[simp] theorem ff_57_1:fld Try.prog 57 1=some (1,1,false):=by kernel_rfl
@[simp] theorem ff_160_0:fld Try.prog 160 0=some (0,1,false):=by kernel_rfl
@[simp] theorem ff_201_0:fld Try.prog 201 0=some (0,12,true):=by kernel_rfl
@[simp] theorem ff_201_1:fld Try.prog 201 1=some (12,12,true):=by kernel_rfl
@[simp] theorem ff_201_2:fld Try.prog 201 2=some (24,1,false):=by kernel_rfl
@[simp] theorem ff_201_3:fld Try.prog 201 3=some (25,1,false):=by kernel_rfl
@[simp] theorem ff_201_4:fld Try.prog 201 4=some (26,1,false):=by kernel_rfl
@[simp] theorem hf_160_203 : mth Try.prog 160 "loop.example/g01083/impl.diagram" = some 203 := by kernel_rfl
@[simp] theorem pf_33:Q34 Try.prog 33=some [(0,5),(5,5),(10,1),(11,1)]:=by kernel_rfl
@[simp] theorem pf_57:Q34 Try.prog 57=some [(0,1),(1,1)]:=by kernel_rfl
@[simp] theorem pf_160:Q34 Try.prog 160=some [(0,1)]:=by kernel_rfl
@[simp] theorem pf_201:Q34 Try.prog 201=some [(0,12),(12,12),(24,1),(25,1),(26,1)]:=by kernel_rfl
@[simp] theorem sf_160:sty Try.prog 160=true:=by kernel_rfl
@[simp] theorem tf_3:tyi Try.prog 3=some ⟨false,1,8,[.int .i64 0]⟩:=by kernel_rfl
@[simp] theorem tf_22:tyi Try.prog 22=some ⟨false,1,24,[.slice none 0 0]⟩:=by kernel_rfl
@[simp] theorem tf_31:tyi Try.prog 31=some ⟨true,5,104,[.int .i64 0,.slice none 0 0,.slice none 0 0,.slice none 0 0,.slice none 0 0]⟩:=by kernel_rfl
@[simp] theorem Q8n:tyi Try.prog 33=some ⟨true,12,256,[.int .i64 0,.slice none 0 0,.slice none 0 0,.slice none 0 0,.slice none 0 0,.int .i64 0,.slice none 0 0,.slice none 0 0,.slice none 0 0,.slice none 0 0,.slice none 0 0,.slice none 0 0]⟩:=by kernel_rfl
@[simp] theorem tf_57:tyi Try.prog 57=some ⟨true,2,32,[.int .i64 0,.slice none 0 0]⟩:=by kernel_rfl
@[simp] theorem tf_68:tyi Try.prog 68=some ⟨false,1,24,[.slice none 0 0]⟩:=by kernel_rfl
@[simp] theorem tf_93:tyi Try.prog 93=some ⟨false,1,8,[.pointer none]⟩:=by kernel_rfl
@[simp] theorem tf_107:tyi Try.prog 107=some ⟨false,1,8,[.pointer none]⟩:=by kernel_rfl
@[simp] theorem tf_160:tyi Try.prog 160=some ⟨true,1,8,[.pointer none]⟩:=by kernel_rfl
@[simp] theorem tf_182:tyi Try.prog 182=some ⟨false,1,8,[.nilFunc]⟩:=by kernel_rfl
@[simp] theorem tf_197:tyi Try.prog 197=some ⟨false,1,8,[.nilFunc]⟩:=by kernel_rfl
@[simp] theorem tf_201:tyi Try.prog 201=some ⟨true,27,552,[.int .i64 0,.slice none 0 0,.slice none 0 0,.slice none 0 0,.slice none 0 0,.int .i64 0,.slice none 0 0,.slice none 0 0,.slice none 0 0,.slice none 0 0,.slice none 0 0,.slice none 0 0,.int .i64 0,.slice none 0 0,.slice none 0 0,.slice none 0 0,.slice none 0 0,.int .i64 0,.slice none 0 0,.slice none 0 0,.slice none 0 0,.slice none 0 0,.slice none 0 0,.slice none 0 0,.bool false,.int .i64 0,.slice none 0 0]⟩:=by kernel_rfl
theorem toCat (u:Bool) (c:Cat) (hc:c.ok):Contract Try.prog 73 [.agg (c.cells u)] (.agg (c.cells true)):=c18 c u hc
theorem cszCat (u:Bool) (c:Cat) (l:Int) (h1:0≤l) (h2:l≤1048576):Contract Try.prog 69 [.agg (c.cells u),iV l] (iV (Q2P l c)):=c13 u c l h1 h2
theorem Q2j {l:Int} {f:Cat} (h:l≤1048576):Q2P l f≤1048576:=szCat_le h
theorem mu_len {ms:List Mu} (h:∀ u∈ms,u.fs.length=u.es.length):∀ j,j<ms.length→(ms.getD j .none).fs.length=(ms.getD j .none).es.length:=fun j hj=>by rw [List.getD_eq_getElem?_getD,List.getElem?_eq_getElem hj];exact h _ (List.getElem_mem hj)
theorem markCat (f:Cat) (k:Int) (hf:f.ok) (h2:0≤k) (h3:k+f.size≤576460752303423488):MContract Try.prog 65 [.agg [iV f.n,.own 0 0 f.fr.length,.own 1 0 f.to.length,.own 2 0 f.id.length,.own 3 0 f.cs.length],iV k] (f.mu k) (iV (k+f.size)):=by
 have q:=m31 f k hf h2 (by omega)
 rwa [show k+f.fr.length+f.to.length+f.id.length+sumL f.cs=k+f.size by simp [Cat.size,Int.add_assoc]] at q
def Fn.mu (f:Fn) (k:Int):List Mu:=[⟨1,Is f.s.fr,Is (f.mark k).s.fr⟩,⟨1,Is f.s.to,Is (f.mark k).s.to⟩,⟨1,Is f.s.id,Is (f.mark k).s.id⟩,⟨1,Ls f.s.cs,Ls (f.mark k).s.cs⟩,⟨1,Is f.t.fr,Is (f.mark k).t.fr⟩,⟨1,Is f.t.to,Is (f.mark k).t.to⟩,⟨1,Is f.t.id,Is (f.mark k).t.id⟩,⟨1,Ls f.t.cs,Ls (f.mark k).t.cs⟩,⟨1,Is f.ob,Is (f.mark k).ob⟩,⟨1,Is f.ar,Is (f.mark k).ar⟩]
theorem Fn.ok_size {f:Fn} (h:f.ok):f.size≤2199031644160:=by
 obtain ⟨hs,ht,hob,har⟩:=h;have s_s:=Cat.ok_size hs;have s_t:=Cat.ok_size ht;simp only [Fn.size];omega
theorem eqFn (u v:Bool) (f:Fn):Contract Try.prog 16 [.agg (f.cells u),.agg (f.cells v)] (.val (.bool true)):=by
 refine Qh (rs:=[.val (.bool true)]) Try.func16 rfl rfl rfl rfl (by simp [Try.f16]) fun F hN hP=>?_;refine srQ hN fun K hK=>?_;simp [Fn.cells];refine hK _ ?_;clear hK K;refine Q3 ?_;refine srQ hN fun K hK=>?_;simp;refine Q4 (c26 u v f.s) (.cons (.aggL Cat.pur) (.cons (.aggL Cat.pur) .nil)) ?_;simp [unk,unA,unE,flat];refine hK _ ?_;clear hK K;refine Qc rfl (fun h=>by simp at h) fun _=>?_;refine Qd ?_;refine Q3 ?_;refine srQ hN fun K hK=>?_;simp;refine Q4 (c26 u v f.t) (.cons (.aggL Cat.pur) (.cons (.aggL Cat.pur) .nil)) ?_;simp [unk,unA,unE,flat];refine hK _ ?_;clear hK K;refine Qc rfl (fun h=>by simp at h) fun _=>?_;refine Qd ?_;refine Q3 ?_;refine srQ hN fun K hK=>?_;simp;refine Q4 (c29 u v f.ob f.ob) (.cons .lst (.cons .lst .nil)) ?_;simp [unk,unA,unE,flat];refine hK _ ?_;clear hK K;refine Qc rfl (fun h=>by simp at h) fun _=>?_;refine Qd ?_;refine Q3 ?_;refine srQ hN fun K hK=>?_;simp;refine Q4 (c29 u v f.ar f.ar) (.cons .lst (.cons .lst .nil)) ?_;simp [unk,unA,unE,flat];refine hK _ ?_;clear hK K;refine Qc rfl (fun h=>by simp at h) fun _=>?_;refine Qd ?_;refine srQ hN fun K hK=>?_;simp;refine hK _ ?_;clear hK K;refine Qi (Qo rfl rfl)
theorem toFn (u:Bool) (f:Fn) (hf:f.ok):Contract Try.prog 23 [.agg (f.cells u)] (.agg (f.cells true)):=by
 obtain ⟨hs,ht,hob,har⟩:=hf;refine Q18 Try.func23 rfl rfl Q8n rfl rfl (by simp [Try.f23]) fun F hN hP=>?_;refine srQ hN fun K hK=>?_;simp [Fn.cells];refine hK _ ?_;clear hK K;refine srQ hN fun K hK=>?_;simp;refine hK _ ?_;clear hK K;refine srQ hN fun K hK=>?_;simp;refine Q4 (toCat u f.s hs) (.cons (.aggL Cat.pur) .nil) ?_;simp [unk,unA,unE,flat,unC,Cat.cells];refine hK _ ?_;clear hK K;refine srQ hN fun K hK=>?_;simp;refine Q4 (toCat u f.t ht) (.cons (.aggL Cat.pur) .nil) ?_;simp [unk,unA,unE,flat,unC,Cat.cells];refine hK _ ?_;clear hK K;refine srQ hN fun K hK=>?_;simp;refine Q4 (c19 u f.ob hob) (.cons .lst .nil) ?_;simp [unk,unA,unE,flat];refine hK _ ?_;clear hK K;refine srQ hN fun K hK=>?_;simp;refine Q4 (c19 u f.ar har) (.cons .lst .nil) ?_;simp [unk,unA,unE,flat];refine hK _ ?_;clear hK K;refine srQ hN fun K hK=>?_;simp;refine hK _ ?_;clear hK K;refine Qi ⟨_,_,_,_,_,rfl,rfl,by simp,by simp,?_⟩;exact ⟨.agg rfl .nil,[iV f.s.n,lI f.s.fr,lI f.s.to,lI f.s.id,.lst true 1 (Ls f.s.cs),iV f.t.n,lI f.t.fr,lI f.t.to,lI f.t.id,.lst true 1 (Ls f.t.cs),lI f.ob,lI f.ar],[4,5,6,7,9,10,11,12,13,14],by simp,by simp,UpL.refl _⟩
def szFn (l:Int) (f:Fn):Int:=nn (Q2P l f.s) fun a0=>nn (Q2P a0 f.t) fun a1=>nn (less a1 f.ob.length) fun a2=>nn (less a2 f.ar.length) fun a3=>a3
theorem szFn_ok {l:Int} {f:Fn} (hl:l≤1048576) (h:0≤szFn l f):f.ok:=by
 unfold szFn at h;obtain ⟨p0,q0,_⟩:=Q6m h;have b0:=Q2j (f:=f.s) hl;obtain ⟨p1,q1,_⟩:=Q6m q0;have b1:=Q2j (f:=f.t) b0;obtain ⟨p2,q2,_⟩:=Q6m q1;obtain ⟨e2,_⟩:=Q3Z p2;have b2:=Q2s (n:=f.ob.length) b1;obtain ⟨p3,q3,_⟩:=Q6m q2;obtain ⟨e3,_⟩:=Q3Z p3;have b3:=Q2s (n:=f.ar.length) b2;exact ⟨Q7O hl p0,Q7O b0 p1,by omega,by omega⟩
theorem cszFn (u:Bool) (f:Fn) (l:Int) (h1:0≤l) (h2:l≤1048576):Contract Try.prog 21 [.agg (f.cells u),iV l] (iV (szFn l f)):=by
 refine Qh (rs:=[iV (szFn l f)]) Try.func21 rfl rfl rfl rfl (by simp [Try.f21]) fun F hN hP=>?_;refine srQ hN fun K hK=>?_;simp [Fn.cells];refine hK _ ?_;clear hK K;refine srQ hN fun K hK=>?_;simp;refine Q4 (cszCat u f.s (l) h1 (h2)) (.cons (.aggL Cat.pur) (.cons .val .nil)) ?_;simp [unk,unA,unE,flat];refine hK _ ?_;clear hK K;refine Q3 ?_;refine srQ hN fun K hK=>?_;simp;refine hK _ ?_;clear hK K;refine Qc rfl (fun g1=>?_) fun g1=>?_
 ·simp at g1;refine srQ hN fun K hK=>?_;simp;refine hK _ ?_;clear hK K;refine Qi (Qo rfl ?_);simp only [szFn,nn];rw [if_pos g1]
 simp at g1;refine Qd ?_;refine srQ hN fun K hK=>?_;simp;refine Q4 (cszCat u f.t (Q2P (l) f.s) g1 (Q2j (h2))) (.cons (.aggL Cat.pur) (.cons .val .nil)) ?_;simp [unk,unA,unE,flat];refine hK _ ?_;clear hK K;refine Q3 ?_;refine srQ hN fun K hK=>?_;simp;refine hK _ ?_;clear hK K;refine Qc rfl (fun g2=>?_) fun g2=>?_
 ·simp at g2;refine srQ hN fun K hK=>?_;simp;refine hK _ ?_;clear hK K;refine Qi (Qo rfl ?_);simp only [szFn,nn];rw [if_neg (Int.not_lt.2 g1),if_pos g2]
 simp at g2;refine Qd ?_;refine srQ hN fun K hK=>?_;simp;refine Q4 (c14 u f.ob (Q2P (Q2P (l) f.s) f.t) g2 (Q2j (Q2j (h2)))) (.cons .lst (.cons .val .nil)) ?_;simp [unk,unA,unE,flat];refine hK _ ?_;clear hK K;refine Q3 ?_;refine srQ hN fun K hK=>?_;simp;refine hK _ ?_;clear hK K;refine Qc rfl (fun g3=>?_) fun g3=>?_
 ·simp at g3;refine srQ hN fun K hK=>?_;simp;refine hK _ ?_;clear hK K;refine Qi (Qo rfl ?_);simp only [szFn,nn];rw [if_neg (Int.not_lt.2 g1),if_neg (Int.not_lt.2 g2),if_pos g3]
 simp at g3;refine Qd ?_;refine srQ hN fun K hK=>?_;simp;refine Q4 (c14 u f.ar (less (Q2P (Q2P (l) f.s) f.t) f.ob.length) g3 (Q2s (Q2j (Q2j (h2))))) (.cons .lst (.cons .val .nil)) ?_;simp [unk,unA,unE,flat];refine hK _ ?_;clear hK K;refine Q3 ?_;refine srQ hN fun K hK=>?_;simp;refine hK _ ?_;clear hK K;refine Qc rfl (fun g4=>?_) fun g4=>?_
 ·simp at g4;refine srQ hN fun K hK=>?_;simp;refine hK _ ?_;clear hK K;refine Qi (Qo rfl ?_);simp only [szFn,nn];rw [if_neg (Int.not_lt.2 g1),if_neg (Int.not_lt.2 g2),if_neg (Int.not_lt.2 g3),if_pos g4]
 simp at g4;refine Qd ?_;refine srQ hN fun K hK=>?_;simp;refine hK _ ?_;clear hK K;refine Qi (Qo rfl ?_);simp only [szFn,nn];rw [if_neg (Int.not_lt.2 g1),if_neg (Int.not_lt.2 g2),if_neg (Int.not_lt.2 g3),if_neg (Int.not_lt.2 g4)]
theorem markFn (f:Fn) (k:Int) (hf:f.ok) (h2:0≤k) (h3:k+f.size≤576460752303423488) :
  MContract Try.prog 19 [.agg [iV f.s.n,.own 0 0 f.s.fr.length,.own 1 0 f.s.to.length,.own 2 0 f.s.id.length,.own 3 0 f.s.cs.length,iV f.t.n,.own 4 0 f.t.fr.length,.own 5 0 f.t.to.length,.own 6 0 f.t.id.length,.own 7 0 f.t.cs.length,.own 8 0 f.ob.length,.own 9 0 f.ar.length],iV k] (f.mu k) (iV (k+f.size)):=by
 obtain ⟨hs,ht,hob,har⟩:=hf;have hz:f.size=f.s.size+f.t.size+f.ob.length+f.ar.length:=rfl;refine Q1b (ts:=[4]) (rv:=.int .i64 (k+f.size)) Try.func19 rfl rfl ?_ rfl (by simp [Try.f19]) ?_ fun F hN hP=>?_
 ·have:(-9223372036854775808≤k+f.size)∧k+f.size≤9223372036854775807:=by omega
  simp [resV,this]
 ·exact mu_len (by simp [Fn.mu,Fn.mark,Cat.mark])
 refine srQ hN fun K hK=>?_;simp [Q40,Fn.mu];refine hK _ ?_;clear hK K;refine Q56 mo (by rw [hN];decide) fun K hK=>?_;simp;refine Q3t (m:=[0,1,2,3]) (markCat f.s (k) hs (by omega) (by omega)) (by decide) (.cons rfl (.cons rfl (.cons rfl (.cons rfl .nil)))) (.cons (.aggL (.cons .val (.cons (.own (j:=0) (by decide)) (.cons (.own (j:=1) (by decide)) (.cons (.own (j:=2) (by decide)) (.cons (.own (j:=3) (by decide)) .nil)))))) (.cons .val .nil)) rfl (by simp) ?_;simp [Q4o,Cat.mu];refine hK _ ?_;clear hK K;refine Q56 mo (by rw [hN];decide) fun K hK=>?_;simp;refine Q3t (m:=[4,5,6,7]) (markCat f.t (k+f.s.size) ht (by omega) (by omega)) (by decide) (.cons rfl (.cons rfl (.cons rfl (.cons rfl .nil)))) (.cons (.aggL (.cons .val (.cons (.own (j:=0) (by decide)) (.cons (.own (j:=1) (by decide)) (.cons (.own (j:=2) (by decide)) (.cons (.own (j:=3) (by decide)) .nil)))))) (.cons .val .nil)) rfl (by simp) ?_;simp [Q4o,Cat.mu];refine hK _ ?_;clear hK K;refine Q56 mo (by rw [hN];decide) fun K hK=>?_;simp;refine Q1B (m32 f.ob (k+f.s.size+f.t.size) hob (by omega) (by omega)) rfl (by simp) ?_;simp;refine hK _ ?_;clear hK K;refine Q56 mo (by rw [hN];decide) fun K hK=>?_;simp;refine Q1B (m32 f.ar (k+f.s.size+f.t.size+f.ob.length) har (by omega) (by omega)) rfl (by simp) ?_;simp;refine hK _ ?_;clear hK K;refine srQ hN fun K hK=>?_;simp;refine hK _ ?_;clear hK K;refine Qi (mret ?_ ?_)
 ·simp [hz,Int.add_assoc]
 exact (.cons rfl (.cons rfl (.cons rfl (.cons rfl (.cons rfl (.cons rfl (.cons rfl (.cons rfl (.cons rfl (.cons rfl .nil))))))))))
noncomputable def Q2p (xs:List Int) (ys:List Int):Option (Bool) :=
 some ((decide (xs=ys)))
theorem Q6A (xs:List Int) (ys:List Int) (r:Bool) (h:Q2p xs ys=some r):Contract Try.prog 60 [lI xs,lI ys] (.val (.bool r)):=by
 unfold Q2p at h;cases h;exact c29 true true xs ys
noncomputable def Q1C (xs:List Int) (n:Int):Option (Bool) :=
 ass (B64 (n - 1)) <| some ((xs.all (inR n)))
theorem Q5p (xs:List Int) (n:Int) (r:Bool) (h:Q1C xs n=some r):Contract Try.prog 152 [lI xs,iV n] (.val (.bool r)):=by
 unfold Q1C at h;replace h:=Q5 h;obtain ⟨hn,h⟩:=h;cases h;exact c22 true xs n hn
noncomputable def Q1K (xs:List Int) (k:Int):Option (Int) :=
 ass (xs.length≤1048576) <| ass (0≤k) <| ass (k≤1152921504606846976) <| some ((held k xs))
theorem Q52 (xs:List Int) (k:Int) (r:Int) (h:Q1K xs k=some r):Contract Try.prog 68 [lI xs,iV k] (iV r):=by
 unfold Q1K at h;replace h:=Q5 h;obtain ⟨h1,h⟩:=h;replace h:=Q5 h;obtain ⟨h2,h⟩:=h;replace h:=Q5 h;obtain ⟨h3,h⟩:=h;cases h;exact c53 true xs k h1 h2 h3
noncomputable def Q1D (n:Int) (xs:List Int):Option (Bool) :=
 some ((xs.all (inR n)))
theorem Q5q (n:Int) (xs:List Int) (r:Bool) (h:Q1D n xs=some r):Contract Try.prog 123 [iV n,lI xs] (.val (.bool r)):=by
 unfold Q1D at h;cases h;exact c57 true xs n
noncomputable def QE (xs:List Int):Option (List Int) :=
 ass (xs.length≤1048576) <| some (xs)
theorem Q1q (xs:List Int) (r:List Int) (h:QE xs=some r):Contract Try.prog 98 [lI xs] (lI r):=by
 unfold QE at h;replace h:=Q5 h;obtain ⟨hx,h⟩:=h;cases h;exact c58 true xs hx
noncomputable def Q1c (xs:List Int):Option (List Int) :=
 ass (xs.length≤1048576) <| some (xs)
theorem Q2D (xs:List Int) (r:List Int) (h:Q1c xs=some r):Contract Try.prog 110 [lI xs] (lI r):=by
 unfold Q1c at h;replace h:=Q5 h;obtain ⟨hx,h⟩:=h;cases h;exact c47 true xs hx
noncomputable def Qx (c:Cat):Option (Int) :=
 some (c.fr.length)
theorem Q1m (c:Cat) (r:Int) (h:Qx c=some r):Contract Try.prog 140 [.rptr (c.cells true)] (iV r):=by
 unfold Qx at h;cases h;have q:=c61 true c [];simp only [List.append_nil] at q;exact q
noncomputable def Q24 (c:Cat):Option (Cat) :=
 ass (c.ok) <| some (c)
theorem Q5r (c:Cat) (r:Cat) (h:Q24 c=some r):Contract Try.prog 97 [.agg (c.cells true)] (.agg (r.cells true)):=by
 unfold Q24 at h;replace h:=Q5 h;obtain ⟨hc,h⟩:=h;cases h;exact c41 true c hc
noncomputable def QX (c:Cat):Option (Cat) :=
 ass (c.ok) <| some (c)
theorem Q2C (c:Cat) (r:Cat) (h:QX c=some r):Contract Try.prog 109 [.rptr (c.cells true)] (.agg (r.cells true)):=by
 unfold QX at h;replace h:=Q5 h;obtain ⟨hc,h⟩:=h;cases h;have q:=c23 true c [] hc;simp only [List.append_nil] at q;exact q
noncomputable def Qv (c:Cat) (f:Int) (g:Int):Option (Int) :=
 ass (0≤f) <| ass (f<c.cs.length) <| ass (0≤g) <| ass (g<(rx c.cs f).length) <| some ((ix (rx c.cs f) g))
theorem Q1E (c:Cat) (f:Int) (g:Int) (r:Int) (h:Qv c f g=some r):Contract Try.prog 108 [.rptr (c.cells true),iV f,iV g] (iV r):=by
 unfold Qv at h;replace h:=Q5 h;obtain ⟨h1,h⟩:=h;replace h:=Q5 h;obtain ⟨h2,h⟩:=h;replace h:=Q5 h;obtain ⟨h3,h⟩:=h;replace h:=Q5 h;obtain ⟨h4,h⟩:=h;cases h;have q:=c69 true c [] f g h1 h2 h3 h4;simp only [List.append_nil] at q;exact q
noncomputable def Q1d (c:Cat):Option (Bool) :=
 some ((bo c.Is))
theorem Q6C (c:Cat) (r:Bool) (h:Q1d c=some r):Contract Try.prog 122 [.agg (c.cells true)] (.val (.bool r)):=by
 unfold Q1d at h;cases h;exact c55 true c
noncomputable def QD (c:Cat):Option (Bool) :=
 some ((bo c.Is))
theorem Q2Q (c:Cat) (r:Bool) (h:QD c=some r):Contract Try.prog 151 [.rptr (c.cells true)] (.val (.bool r)):=by
 unfold QD at h;cases h;have q:=c60 true c [];simp only [List.append_nil] at q;exact q
noncomputable def Q44 (xs:List Int) (n:Int):Option (Bool) :=
 some ((bo (n∈xs)))
theorem Q8p (xs:List Int) (n:Int) (r:Bool) (h:Q44 xs n=some r):Contract Try.prog 186 [lI xs,iV n] (.val (.bool r)):=by
 unfold Q44 at h;cases h;exact iq72 true xs n
@[simp] theorem ass_true {α:Type} {k:Option α}:ass True k=k:=Q9 trivial
theorem bo_tt (p:Prop):(bo p=true)=p:=by simp [bo]
theorem Q1s {p:Prop} (h:p):bo p=true:=by simp [bo,h]
theorem QO {p:Prop} (h:¬ p):bo p=false:=by simp [bo,h]
theorem bo_iff2 {p q:Prop} (h:p↔q):bo p=bo q:=by simp [bo,h]
theorem loop_go {σ ε:Type} {body:σ→Option (Ctl σ ε)} (g:Nat→σ) (m:Nat):∀ (k:Nat),m≤k→(∀ i,i<m→body (g i)=some (.next (g (i+1))))→QA body k (g 0)=QA body (k - m) (g m):=by
 induction m with
 | zero=>intro k _ _;rfl
 | succ m ih =>
  intro k hk h;rw [ih k (by omega) fun i hi=>h i (by omega)];obtain ⟨j,hj⟩:∃ j,k - m=j+1:=⟨k - m - 1,by omega⟩;rw [hj,show k - (m+1)=j by omega];simp only [QA,h m (by omega)]
theorem Q4v {σ ε:Type} {body:σ→Option (Ctl σ ε)} (g:Nat→σ) (n:Nat) {e:ε} {s0:σ} (h0:s0=g 0) (hn:n<4611686018427387904) (h:∀ i,i<n→body (g i)=some (.next (g (i+1)))) (he:body (g n)=some (.ret e)):QA body fuel s0=some e:=by
 subst h0;rw [loop_go g n fuel (by unfold fuel;omega) h];obtain ⟨j,hj⟩:∃ j,fuel - n=j+1:=⟨fuel - n - 1,by unfold fuel;omega⟩;rw [hj];simp only [QA,he]
theorem loop_chk {ε:Type} {body:Int→Option (Ctl Int ε)} (n:Nat) (p:Nat→Prop) {eb eg:ε} (hn:n<4611686018427387904) (h1:∀ i:Nat,i<n→p i→body (i:Int)=some (.next ((i:Int)+1))) (h2:∀ i:Nat,i<n→¬ p i→body (i:Int)=some (.ret eb)) (h3:body (n:Int)=some (.ret eg)) :
  QA body fuel 0=some (@ite _ (∀ i:Nat,i<n→p i) (Classical.propDecidable _) eg eb):=by
 by_cases hall:∀ i:Nat,i<n→p i
 ·rw [if_pos hall];exact Q4v (fun i:Nat=>(i:Int)) n rfl hn (fun i hi=>h1 i hi (hall i hi)) h3
 rw [if_neg hall];have hex:∃ i,i<n∧¬ p i:=Classical.byContradiction fun hx=>hall fun i hi=>Classical.byContradiction fun hp=>hx ⟨i,hi,hp⟩;obtain ⟨m,⟨hm,hp⟩,hmin⟩:∃ m,(m<n∧¬ p m)∧∀ k,k<m→¬ (k<n∧¬ p k):=by
  obtain ⟨i,hi⟩:=hex
  induction i using Nat.strongRecOn with
  | _ i ih =>
   by_cases h:∃ k,k<i∧k<n∧¬ p k
   ·obtain ⟨k,h1,h2⟩:=h;exact ih k h1 h2
   exact ⟨i,hi,fun k hk hh=>h ⟨k,hk,hh⟩⟩
 exact Q4v (fun i:Nat=>(i:Int)) m rfl (by omega) (fun i hi=>h1 i (by omega) (Classical.byContradiction fun hh=>hmin i hi ⟨by omega,hh⟩)) (h2 m hm hp)
theorem loop_acc {α ε:Type} {body:α × Int→Option (Ctl (α × Int) ε)} (g:Nat→α) (n:Nat) {e:ε} {a0:α} (h0:a0=g 0) (hn:n<4611686018427387904) (h:∀ i:Nat,i<n→body (g i,(i:Int))=some (.next (g (i+1),(i:Int)+1))) (he:body (g n,(n:Int))=some (.ret e)):QA body fuel (a0,0)=some e:=by
 subst h0;exact Q4v (fun i:Nat=>(g i,(i:Int))) n rfl hn h he
theorem all_inR {xs:List Int} {n:Int}:xs.all (inR n)=true↔∀ j:Nat,j<xs.length→0≤ix xs j∧ix xs j<n:=by
 rw [List.all_eq_true];constructor
 ·intro h j hj;have:=h _ (List.getElem_mem hj);rw [Q1k _ _ hj] at this;simp only [inR,Bool.and_eq_true,decide_eq_true_eq] at this;omega
 intro h x hx;obtain ⟨i,hi,rfl⟩:=List.getElem_of_mem hx;rw [Q1k _ _ hi];have:=h i hi;simp only [inR,Bool.and_eq_true,decide_eq_true_eq];omega
theorem Q1t {ε β:Type} {body:Int→Option (Ctl Int ε)} {K:ε→Option β} {r:β} (n:Nat) (p:Nat→Prop) {eb eg:ε} (hn:n<4611686018427387904) (h1:∀ i:Nat,i<n→p i→body (i:Int)=some (.next ((i:Int)+1))) (h2:∀ i:Nat,i<n→¬ p i→body (i:Int)=some (.ret eb)) (h3:body (n:Int)=some (.ret eg))
  (hb:(¬ ∀ i:Nat,i<n→p i)→K eb=some r) (hg:(∀ i:Nat,i<n→p i)→K eg=some r):(QA body fuel 0).bind K=some r:=by
 rw [loop_chk n p hn h1 h2 h3]
 by_cases h:∀ i:Nat,i<n→p i
 ·rw [if_pos h];exact hg h
 rw [if_neg h];exact hb h
theorem Q1F {α ε β:Type} {body:α × Int→Option (Ctl (α × Int) ε)} {K:ε→Option β} {r:Option β} {a0:α} (n:Nat) (g:Nat→α) {e:ε} (h0:a0=g 0) (hn:n<4611686018427387904) (h:∀ i:Nat,i<n→body (g i,(i:Int))=some (.next (g (i+1),(i:Int)+1))) (he:body (g n,(n:Int))=some (.ret e)) (hk:K e=r):(QA body fuel (a0,0)).bind K=r:=by
 rw [loop_acc g n h0 hn h he];exact hk
attribute [local simp] eL eI Qu QM Q28 Cat.cells Fn.cells
noncomputable def Q36 (f_:Fn):Option Bool :=
 (
  (Q1d f_.s).bind fun v2 =>
  if ¬ (v2=true) then
   some true
  else
   (Q1d f_.t).bind fun v4 =>
   if ¬ (v4=true) then
    some true
   else
    if ¬ ((f_.ob.length:Int)=f_.s.n) then
     some true
    else
     some ((f_.ar.length:Int) != (f_.s.fr.length:Int)):Option (Bool)).bind fun b1 =>
 if b1=true then
  some false
 else
  (
   (Q1D f_.t.n f_.ob).bind fun v9 =>
   if ¬ (v9=true) then
    some true
   else
    (Q1D (f_.t.fr.length:Int) f_.ar).bind fun v11 =>
    some (!v11):Option (Bool)).bind fun b8 =>
  if b8=true then
   some false
  else
   (QA (σ:=Int) (ε:=Unit ⊕ Bool) (fun s27 =>
    if s27<(f_.s.fr.length:Int) then
     (
      ass (0≤s27∧s27<(f_.ar.length:Int)) <|
      ass (0≤ix f_.ar s27∧ix f_.ar s27<(f_.t.fr.length:Int)) <|
      ass (0≤s27∧s27<(f_.s.fr.length:Int)) <|
      ass (0≤ix f_.s.fr s27∧ix f_.s.fr s27<(f_.ob.length:Int)) <|
      if ¬ ((ix f_.t.fr (ix f_.ar s27))=(ix f_.ob (ix f_.s.fr s27))) then
       some true
      else
       ass (0≤s27∧s27<(f_.ar.length:Int)) <|
       ass (0≤ix f_.ar s27∧ix f_.ar s27<(f_.t.to.length:Int)) <|
       ass (0≤s27∧s27<(f_.s.to.length:Int)) <|
       ass (0≤ix f_.s.to s27∧ix f_.s.to s27<(f_.ob.length:Int)) <|
       some ((ix f_.t.to (ix f_.ar s27)) != (ix f_.ob (ix f_.s.to s27))):Option (Bool)).bind fun b29 =>
     if b29=true then
      some (Ctl.ret (Sum.inr false))
     else
      ass (B64 (s27+1)) <|
      some (Ctl.next (s27+1))
    else
     some (Ctl.ret (Sum.inl ()))) fuel 0).bind fun e13 =>
   match e13 with
   | .inl b13 =>
    (QA (σ:=Int) (ε:=Unit ⊕ Bool) (fun s49 =>
     if s49<f_.s.n then
      ass (0≤s49∧s49<(f_.s.id.length:Int)) <|
      ass (0≤ix f_.s.id s49∧ix f_.s.id s49<(f_.ar.length:Int)) <|
      ass (0≤s49∧s49<(f_.ob.length:Int)) <|
      ass (0≤ix f_.ob s49∧ix f_.ob s49<(f_.t.id.length:Int)) <|
      if ¬ ((ix f_.ar (ix f_.s.id s49))=(ix f_.t.id (ix f_.ob s49))) then
       some (Ctl.ret (Sum.inr false))
      else
       ass (B64 (s49+1)) <|
       some (Ctl.next (s49+1))
     else
      some (Ctl.ret (Sum.inl ()))) fuel 0).bind fun e41 =>
    match e41 with
    | .inl b41 =>
     (QA (σ:=Int) (ε:=Unit ⊕ Bool) (fun s90 =>
      if s90<(f_.s.fr.length:Int) then
       (
        (QA (σ:=Int) (ε:=Bool ⊕ Unit) (fun s107 =>
         if s107<(f_.s.fr.length:Int) then
          (
           ass (0≤s90∧s90<(f_.s.to.length:Int)) <|
           ass (0≤s107∧s107<(f_.s.fr.length:Int)) <|
           if (ix f_.s.to s90)=(ix f_.s.fr s107) then
            ass (0≤s90∧s90<(f_.s.cs.length:Int)) <|
            ass (0≤s107∧s107<((rx f_.s.cs s90).length:Int)) <|
            ass (0≤ix (rx f_.s.cs s90) s107∧ix (rx f_.s.cs s90) s107<(f_.ar.length:Int)) <|
            ass (0≤s90∧s90<(f_.ar.length:Int)) <|
            ass (0≤ix f_.ar s90∧ix f_.ar s90<(f_.t.cs.length:Int)) <|
            ass (0≤s107∧s107<(f_.ar.length:Int)) <|
            ass (0≤ix f_.ar s107∧ix f_.ar s107<((rx f_.t.cs (ix f_.ar s90)).length:Int)) <|
            some ((ix f_.ar (ix (rx f_.s.cs s90) s107)) != (ix (rx f_.t.cs (ix f_.ar s90)) (ix f_.ar s107)))
           else
            some false:Option (Bool)).bind fun b109 =>
          if b109=true then
           some (Ctl.ret (Sum.inl false))
          else
           ass (B64 (s107+1)) <|
           some (Ctl.next (s107+1))
         else
          some (Ctl.ret (Sum.inr ()))) fuel 0).bind fun e107 =>
        match e107 with
        | .inl p107 =>
         some (Sum.inr p107)
        | .inr p107 =>
         some (Sum.inl p107):Option (Unit ⊕ Bool)).bind fun e92 =>
       match e92 with
       | .inl b92 =>
        ass (B64 (s90+1)) <|
        some (Ctl.next (s90+1))
       | .inr p92 =>
        some (Ctl.ret (Sum.inr p92))
      else
       some (Ctl.ret (Sum.inl ()))) fuel 0).bind fun e57 =>
     match e57 with
     | .inl b57 =>
      some true
     | .inr p57 =>
      some p57
    | .inr p41 =>
     some p41
   | .inr p13 =>
    some p13
theorem wkQ8 {F : Fx} {st st' : St} (m : List (Nat × Nat)) (h : (m.map Prod.fst).Nodup ∧ (m.map Prod.snd).Nodup ∧ (∀ id, id < F.pins → look id m = some id) ∧ (∀ p ∈ m, p.2 < st'.n) ∧ (∀ p ∈ st'.h, p.1 < st'.n) ∧ (∀ p ∈ st'.s, p.2 = rl m (st.get p.1) ∨ p.2 = .bot) ∧ ∀ p ∈ st'.h, hhOk m st.h p.1 p.2 := by simp [hP, hhOk, back, Cat.cells, Fn.cells, UA, U1, IA, I1, LA, L1, BA, B1, EA, E1, E2, eB, eI, eL, Cone.cells, Qg _ (Cone.cells true) _ (fun _=>rfl)]) : Wk F st st' := Wk.r1 m h
theorem w_s_l06Is (f_:Fn) (r:Bool) (h:Q36 f_=some r):Contract Try.prog 80 [.agg (f_.cells true)] (.val (.bool r)):=by
 refine Qe (rvs:=[.tmp 2]) (rs:=[.val (.bool r)]) Try.func80 rfl rfl rfl rfl (by simp [Try.f80]) fun F hN hP=>?_;unfold Q36 at h;refine Q3 ?_;refine runQ hN fun K hK=>?_;simp [-Q0,-Q6,-Q1,-Q7,-Q2];repeat refine sdQ ?_
 refine hK _ ?_;clear hK K;refine tn ?_;refine Q8 (st':=⟨[(1,.adr 0 0 0)],[(0,.mix 12 [(Fn.cells true f_)])],1⟩) (wkQ8 [(0,0)]) ?_;refine Q3 ?_;refine w_runS mo (by rw [hN];decide) fun K hK=>?_;simp [-Q0,-Q6,-Q1,-Q7,-Q2];repeat refine sdQ ?_
 refine hK _ ?_;clear hK K;refine tn ?_;refine Q8 (st':=⟨[(1,.adr 0 0 0),(3,.adr 1 0 0),(4,.adr 2 0 0)],[(0,.mix 12 [(Fn.cells true f_)]),(1,.mix 5 [(Cat.cells true f_.s)]),(2,.mix 5 [(Cat.cells true f_.t)])],3⟩) (wkQ8 [(0,0),(1,1),(2,2)]) ?_;refine Q3 ?_;refine Q3 ?_;replace h:=bind_some h;obtain ⟨e1,h,h1⟩:=h;refine Qk (fun b1:Bool=>⟨[(1,.adr 0 0 0),(3,.adr 1 0 0),(4,.adr 2 0 0),(37,.val (.bool b1))],[(0,.mix 12 [(Fn.cells true f_)]),(1,.mix 5 [(Cat.cells true f_.s)]),(2,.mix 5 [(Cat.cells true f_.t)])],3⟩) (fun b1=>b1=e1) ?_ ?_
 ·refine runQ hN fun K hK=>?_;simp [-Q0,-Q6,-Q1,-Q7,-Q2];repeat with_reducible refine sdQ ?_
  replace h:=bind_some h;obtain ⟨v2,hv2,h⟩:=h;refine Q4 (Q6C _ v2 hv2) (.cons (.aggL (.cons .val (.cons .lst (.cons .lst (.cons .lst (.cons .lst .nil)))))) .nil) ?_;simp [-Q0,-Q6,-Q1,-Q7,-Q2,unk,unA,unE,unT,unC,flat];repeat with_reducible refine sdQ ?_
  refine Qq (fun g=>?_) (fun g=>?_)
  ·have g3:¬ (¬ (v2=true)):=gQ;clear g;replace h:=if_r g3 h;simp [-Q0,-Q6,-Q1,-Q7,-Q2];(repeat with_reducible refine sdQ ?_);replace h:=bind_some h;obtain ⟨v4,hv4,h⟩:=h;refine Q4 (Q6C _ v4 hv4) (.cons (.aggL (.cons .val (.cons .lst (.cons .lst (.cons .lst (.cons .lst .nil)))))) .nil) ?_;simp [-Q0,-Q6,-Q1,-Q7,-Q2,unk,unA,unE,unT,unC,flat];(repeat with_reducible refine sdQ ?_);refine Qq (fun g=>?_) (fun g=>?_)
   ·have g5:¬ (¬ (v4=true)):=gQ;clear g;replace h:=if_r g5 h;simp [-Q0,-Q6,-Q1,-Q7,-Q2];(repeat with_reducible refine sdQ ?_);refine Qq (fun g=>?_) (fun g=>?_)
    ·have g6:¬ (¬ ((f_.ob.length:Int)=f_.s.n)):=gQ;clear g;replace h:=if_r g6 h;simp [-Q0,-Q6,-Q1,-Q7,-Q2];(repeat refine sdQ ?_);refine hK _ ?_;exact jn (b:=(f_.ar.length:Int) != (f_.s.fr.length:Int)) (Option.some.inj h) (wkQ8 [(0,0),(1,1),(2,2)])
    have g6:¬ ((f_.ob.length:Int)=f_.s.n):=gQ;clear g;replace h:=if_l g6 h;simp [-Q0,-Q6,-Q1,-Q7,-Q2];(repeat refine sdQ ?_);refine hK _ ?_;exact jn (b:=true) (Option.some.inj h) (wkQ8 [(0,0),(1,1),(2,2)])
   have g5:¬ (v4=true):=gQ;clear g;replace h:=if_l g5 h;simp [-Q0,-Q6,-Q1,-Q7,-Q2];(repeat refine sdQ ?_);refine hK _ ?_;exact jn (b:=true) (Option.some.inj h) (wkQ8 [(0,0),(1,1),(2,2)])
  have g3:¬ (v2=true):=gQ;clear g;replace h:=if_l g3 h;simp [-Q0,-Q6,-Q1,-Q7,-Q2];repeat refine sdQ ?_
  refine hK _ ?_;exact jn (b:=true) (Option.some.inj h) (wkQ8 [(0,0),(1,1),(2,2)])
 intro b1 hb1;have h:=h1;try rw [← hb1] at h
 clear h1;try dsimp only at h
 refine Qc rfl (fun g=>?_) fun g=>?_
 ·have g7:b1=true:=gQ;clear g;replace h:=if_l g7 h;refine Q3 ?_;refine runQ hN fun K hK=>?_;simp [-Q0,-Q6,-Q1,-Q7,-Q2];repeat refine sdQ ?_
  refine hK _ ?_;clear hK K;refine tn ?_;refine Q8 (st':=⟨[(2,.val (.bool false))],[],0⟩) (wkQ8 []) ?_;refine Qi ?_;refine tr ?_;have hr:=Option.some.inj h;rw [← hr];refine ⟨_,(.tmp .nil),?_⟩;refine ⟨(.one rfl rfl .nil),[.val (.bool false)],[],by simp [Cat.cells,Fn.cells,UA,U1,IA,I1,LA,L1,BA,B1,EA,E1,E2,eB,eI,eL],by simp,(UpL.refl _)⟩
 have g7:¬ (b1=true):=gQ;clear g;replace h:=if_r g7 h;refine Qd ?_;refine tn ?_;refine Q3 ?_;refine Q3 ?_;replace h:=bind_some h;obtain ⟨e8,h,h8⟩:=h;refine Qk (fun b8:Bool=>⟨[(1,.adr 0 0 0),(3,.adr 1 0 0),(4,.adr 2 0 0),(52,.val (.bool b8))],[(0,.mix 12 [(Fn.cells true f_)]),(1,.mix 5 [(Cat.cells true f_.s)]),(2,.mix 5 [(Cat.cells true f_.t)])],3⟩) (fun b8=>b8=e8) ?_ ?_
 ·refine runQ hN fun K hK=>?_;simp [-Q0,-Q6,-Q1,-Q7,-Q2];repeat with_reducible refine sdQ ?_
  replace h:=bind_some h;obtain ⟨v9,hv9,h⟩:=h;refine Q4 (Q5q _ _ v9 hv9) (.cons .val (.cons .lst .nil)) ?_;simp [-Q0,-Q6,-Q1,-Q7,-Q2,unk,unA,unE,unT,unC,flat];repeat with_reducible refine sdQ ?_
  refine Qq (fun g=>?_) (fun g=>?_)
  ·have g10:¬ (¬ (v9=true)):=gQ;clear g;replace h:=if_r g10 h;simp [-Q0,-Q6,-Q1,-Q7,-Q2];(repeat with_reducible refine sdQ ?_);replace h:=bind_some h;obtain ⟨v11,hv11,h⟩:=h;refine Q4 (Q5q _ _ v11 hv11) (.cons .val (.cons .lst .nil)) ?_;simp [-Q0,-Q6,-Q1,-Q7,-Q2,unk,unA,unE,unT,unC,flat];(repeat refine sdQ ?_);refine hK _ ?_;exact jn (b:=!v11) (Option.some.inj h) (wkQ8 [(0,0),(1,1),(2,2)])
  have g10:¬ (v9=true):=gQ;clear g;replace h:=if_l g10 h;simp [-Q0,-Q6,-Q1,-Q7,-Q2];repeat refine sdQ ?_
  refine hK _ ?_;exact jn (b:=true) (Option.some.inj h) (wkQ8 [(0,0),(1,1),(2,2)])
 intro b8 hb8;have h:=h8;try rw [← hb8] at h
 clear h8;try dsimp only at h
 refine Qc rfl (fun g=>?_) fun g=>?_
 ·have g12:b8=true:=gQ;clear g;replace h:=if_l g12 h;refine Q3 ?_;refine runQ hN fun K hK=>?_;simp [-Q0,-Q6,-Q1,-Q7,-Q2];repeat refine sdQ ?_
  refine hK _ ?_;clear hK K;refine tn ?_;refine Q8 (st':=⟨[(2,.val (.bool false))],[],0⟩) (wkQ8 []) ?_;refine Qi ?_;refine tr ?_;have hr:=Option.some.inj h;rw [← hr];refine ⟨_,(.tmp .nil),?_⟩;refine ⟨(.one rfl rfl .nil),[.val (.bool false)],[],by simp [Cat.cells,Fn.cells,UA,U1,IA,I1,LA,L1,BA,B1,EA,E1,E2,eB,eI,eL],by simp,(UpL.refl _)⟩
 have g12:¬ (b8=true):=gQ;clear g;replace h:=if_r g12 h;refine Qd ?_;refine tn ?_;refine Q3 ?_;refine Q3 ?_;refine runQ hN fun K hK=>?_;simp [-Q0,-Q6,-Q1,-Q7,-Q2];repeat refine sdQ ?_
 refine hK _ ?_;clear hK K;refine tn ?_;refine Q8 (st':=⟨[(1,.adr 0 0 0),(3,.adr 1 0 0),(4,.adr 2 0 0),(5,iV 0)],[(0,.mix 12 [(Fn.cells true f_)]),(1,.mix 5 [(Cat.cells true f_.s)]),(2,.mix 5 [(Cat.cells true f_.t)])],3⟩) (wkQ8 [(0,0),(1,1),(2,2)]) ?_;replace h:=bind_some h;obtain ⟨e13,h,h13⟩:=h;refine Qk (fun b13:Unit=>⟨[(1,.adr 0 0 0),(3,.adr 1 0 0),(4,.adr 2 0 0)],[(0,.mix 12 [(Fn.cells true f_)]),(1,.mix 5 [(Cat.cells true f_.s)]),(2,.mix 5 [(Cat.cells true f_.t)])],3⟩) (fun b13=>Sum.inl b13=e13) ?_ ?_
 ·refine Qa ?_;refine Qy h (fun s27:Int=>⟨[(1,.adr 0 0 0),(3,.adr 1 0 0),(4,.adr 2 0 0),(5,iV s27)],[(0,.mix 12 [(Fn.cells true f_)]),(1,.mix 5 [(Cat.cells true f_.s)]),(2,.mix 5 [(Cat.cells true f_.t)])],3⟩) (wkQ8 [(0,0),(1,1),(2,2)]) ?_;clear h;intro k27 s27 c27 h hk27;refine Q3 ?_;refine Q3 ?_;refine runQ hN fun K hK=>?_;simp [-Q0,-Q6,-Q1,-Q7,-Q2];repeat refine sdQ ?_
  refine hK _ ?_;clear hK K;refine tn ?_;refine Q8 (st':=⟨[(1,.adr 0 0 0),(3,.adr 1 0 0),(4,.adr 2 0 0),(5,iV s27),(57,.val (.bool (decide (s27<(f_.s.fr.length:Int)))))],[(0,.mix 12 [(Fn.cells true f_)]),(1,.mix 5 [(Cat.cells true f_.s)]),(2,.mix 5 [(Cat.cells true f_.t)])],3⟩) (wkQ8 [(0,0),(1,1),(2,2)]) ?_;refine Qc rfl (fun g=>?_) fun g=>?_
  ·have g28:s27<(f_.s.fr.length:Int):=gQ;clear g;replace h:=if_l g28 h;refine Qd ?_;refine tn ?_;refine Q3 ?_;refine Qa ?_;refine Q3 ?_;replace h:=bind_some h;obtain ⟨e29,h,h29⟩:=h;refine Qk (fun b29:Bool=>⟨[(1,.adr 0 0 0),(3,.adr 1 0 0),(4,.adr 2 0 0),(5,iV s27),(99,.val (.bool b29))],[(0,.mix 12 [(Fn.cells true f_)]),(1,.mix 5 [(Cat.cells true f_.s)]),(2,.mix 5 [(Cat.cells true f_.t)])],3⟩) (fun b29=>b29=e29) ?_ ?_
   ·refine runQ hN fun K hK=>?_;replace h:=Q5 h;obtain ⟨a30,h⟩:=h;replace h:=Q5 h;obtain ⟨a31,h⟩:=h;replace h:=Q5 h;obtain ⟨a32,h⟩:=h;replace h:=Q5 h;obtain ⟨a33,h⟩:=h;simp [-Q0,-Q6,-Q1,-Q7,-Q2,at_I a30,at_I a31,at_I a32,at_I a33];(repeat with_reducible refine sdQ ?_);refine Qq (fun g=>?_) (fun g=>?_)
    ·have g34:¬ (¬ ((ix f_.t.fr (ix f_.ar s27))=(ix f_.ob (ix f_.s.fr s27)))):=gQ;clear g;replace h:=if_r g34 h;replace h:=Q5 h;obtain ⟨a35,h⟩:=h;replace h:=Q5 h;obtain ⟨a36,h⟩:=h;replace h:=Q5 h;obtain ⟨a37,h⟩:=h;replace h:=Q5 h;obtain ⟨a38,h⟩:=h;simp [-Q0,-Q6,-Q1,-Q7,-Q2,at_I a30,at_I a31,at_I a32,at_I a33,at_I a35,at_I a36,at_I a37,at_I a38];(repeat refine sdQ ?_);refine hK _ ?_;exact jn (b:=(ix f_.t.to (ix f_.ar s27)) != (ix f_.ob (ix f_.s.to s27))) (Option.some.inj h) (wkQ8 [(0,0),(1,1),(2,2)])
    have g34:¬ ((ix f_.t.fr (ix f_.ar s27))=(ix f_.ob (ix f_.s.fr s27))):=gQ;clear g;replace h:=if_l g34 h;simp [-Q0,-Q6,-Q1,-Q7,-Q2,at_I a30,at_I a31,at_I a32,at_I a33];(repeat refine sdQ ?_);refine hK _ ?_;exact jn (b:=true) (Option.some.inj h) (wkQ8 [(0,0),(1,1),(2,2)])
   intro b29 hb29;have h:=h29;(try rw [← hb29] at h);clear h29;(try dsimp only at h);refine Qc rfl (fun g=>?_) fun g=>?_
   ·have g39:b29=true:=gQ;clear g;replace h:=if_l g39 h;refine Q3 ?_;refine runQ hN fun K hK=>?_;simp [-Q0,-Q6,-Q1,-Q7,-Q2];(repeat refine sdQ ?_);refine hK _ ?_;clear hK K;refine tn ?_;refine Q8 (st':=⟨[(2,.val (.bool false))],[],0⟩) (wkQ8 []) ?_;refine Qi ?_;refine br ?_;refine tr ?_;refine lr ?_;refine br ?_;refine tr ?_;cases h;have q:_=e13:=hk27;have h:=h13;rw [← q] at h;clear q;(try dsimp only at h);have hr:=Option.some.inj h;rw [← hr];refine ⟨_,(.tmp .nil),?_⟩;refine ⟨(.one rfl rfl .nil),[.val (.bool false)],[],by simp [Cat.cells,Fn.cells,UA,U1,IA,I1,LA,L1,BA,B1,EA,E1,E2,eB,eI,eL],by simp,(UpL.refl _)⟩
   have g39:¬ (b29=true):=gQ;clear g;replace h:=if_r g39 h;refine Qd ?_;refine bn ?_;refine tn ?_;refine runQ hN fun K hK=>?_;replace h:=Q5 h;obtain ⟨a40,h⟩:=h;simp [-Q0,-Q6,-Q1,-Q7,-Q2,Qs a40];(repeat refine sdQ ?_);refine hK _ ?_;clear hK K;cases h;exact rn (s':=s27+1) hk27 (wkQ8 [(0,0),(1,1),(2,2)])
  have g28:¬ (s27<(f_.s.fr.length:Int)):=gQ;clear g;replace h:=if_r g28 h;refine Qr ?_;refine tx ?_;refine lx ?_;refine bh ?_;cases h;exact jn (b:=()) hk27 (wkQ8 [(0,0),(1,1),(2,2)])
 intro b13 hb13;have h:=h13;try rw [← hb13] at h
 clear h13;try dsimp only at h
 refine Q3 ?_;refine Q3 ?_;refine runQ hN fun K hK=>?_;simp [-Q0,-Q6,-Q1,-Q7,-Q2];repeat refine sdQ ?_
 refine hK _ ?_;clear hK K;refine tn ?_;refine Q8 (st':=⟨[(1,.adr 0 0 0),(3,.adr 1 0 0),(4,.adr 2 0 0),(6,iV 0)],[(0,.mix 12 [(Fn.cells true f_)]),(1,.mix 5 [(Cat.cells true f_.s)]),(2,.mix 5 [(Cat.cells true f_.t)])],3⟩) (wkQ8 [(0,0),(1,1),(2,2)]) ?_;replace h:=bind_some h;obtain ⟨e41,h,h41⟩:=h;refine Qk (fun b41:Unit=>⟨[(1,.adr 0 0 0),(3,.adr 1 0 0),(4,.adr 2 0 0)],[(0,.mix 12 [(Fn.cells true f_)]),(1,.mix 5 [(Cat.cells true f_.s)]),(2,.mix 5 [(Cat.cells true f_.t)])],3⟩) (fun b41=>Sum.inl b41=e41) ?_ ?_
 ·refine Qa ?_;refine Qy h (fun s49:Int=>⟨[(1,.adr 0 0 0),(3,.adr 1 0 0),(4,.adr 2 0 0),(6,iV s49)],[(0,.mix 12 [(Fn.cells true f_)]),(1,.mix 5 [(Cat.cells true f_.s)]),(2,.mix 5 [(Cat.cells true f_.t)])],3⟩) (wkQ8 [(0,0),(1,1),(2,2)]) ?_;clear h;intro k49 s49 c49 h hk49;refine Q3 ?_;refine Q3 ?_;refine runQ hN fun K hK=>?_;simp [-Q0,-Q6,-Q1,-Q7,-Q2];repeat refine sdQ ?_
  refine hK _ ?_;clear hK K;refine tn ?_;refine Q8 (st':=⟨[(1,.adr 0 0 0),(3,.adr 1 0 0),(4,.adr 2 0 0),(6,iV s49),(103,.val (.bool (decide (s49<f_.s.n))))],[(0,.mix 12 [(Fn.cells true f_)]),(1,.mix 5 [(Cat.cells true f_.s)]),(2,.mix 5 [(Cat.cells true f_.t)])],3⟩) (wkQ8 [(0,0),(1,1),(2,2)]) ?_;refine Qc rfl (fun g=>?_) fun g=>?_
  ·have g50:s49<f_.s.n:=gQ;clear g;replace h:=if_l g50 h;refine Qd ?_;refine tn ?_;refine Q3 ?_;refine Qa ?_;refine Q3 ?_;refine runQ hN fun K hK=>?_;replace h:=Q5 h;obtain ⟨a51,h⟩:=h;replace h:=Q5 h;obtain ⟨a52,h⟩:=h;replace h:=Q5 h;obtain ⟨a53,h⟩:=h;replace h:=Q5 h;obtain ⟨a54,h⟩:=h;simp [-Q0,-Q6,-Q1,-Q7,-Q2,at_I a51,at_I a52,at_I a53,at_I a54];(repeat refine sdQ ?_);refine hK _ ?_;clear hK K;refine tn ?_;refine Q8 (st':=⟨[(1,.adr 0 0 0),(3,.adr 1 0 0),(4,.adr 2 0 0),(6,iV s49),(124,.val (.bool ((ix f_.ar (ix f_.s.id s49)) != (ix f_.t.id (ix f_.ob s49)))))],[(0,.mix 12 [(Fn.cells true f_)]),(1,.mix 5 [(Cat.cells true f_.s)]),(2,.mix 5 [(Cat.cells true f_.t)])],3⟩) (wkQ8 [(0,0),(1,1),(2,2)]) ?_;refine Qc rfl (fun g=>?_) fun g=>?_
   ·have g55:¬ ((ix f_.ar (ix f_.s.id s49))=(ix f_.t.id (ix f_.ob s49))):=gQ;clear g;replace h:=if_l g55 h;refine Q3 ?_;refine runQ hN fun K hK=>?_;simp [-Q0,-Q6,-Q1,-Q7,-Q2];(repeat refine sdQ ?_);refine hK _ ?_;clear hK K;refine tn ?_;refine Q8 (st':=⟨[(2,.val (.bool false))],[],0⟩) (wkQ8 []) ?_;refine Qi ?_;refine br ?_;refine tr ?_;refine lr ?_;refine br ?_;refine tr ?_;cases h;have q:_=e41:=hk49;have h:=h41;rw [← q] at h;clear q;(try dsimp only at h);have hr:=Option.some.inj h;rw [← hr];refine ⟨_,(.tmp .nil),?_⟩;refine ⟨(.one rfl rfl .nil),[.val (.bool false)],[],by simp [Cat.cells,Fn.cells,UA,U1,IA,I1,LA,L1,BA,B1,EA,E1,E2,eB,eI,eL],by simp,(UpL.refl _)⟩
   have g55:¬ (¬ ((ix f_.ar (ix f_.s.id s49))=(ix f_.t.id (ix f_.ob s49)))):=gQ;clear g;replace h:=if_r g55 h;refine Qd ?_;refine bn ?_;refine tn ?_;refine runQ hN fun K hK=>?_;replace h:=Q5 h;obtain ⟨a56,h⟩:=h;simp [-Q0,-Q6,-Q1,-Q7,-Q2,Qs a56];(repeat refine sdQ ?_);refine hK _ ?_;clear hK K;cases h;exact rn (s':=s49+1) hk49 (wkQ8 [(0,0),(1,1),(2,2)])
  have g50:¬ (s49<f_.s.n):=gQ;clear g;replace h:=if_r g50 h;refine Qr ?_;refine tx ?_;refine lx ?_;refine bh ?_;cases h;exact jn (b:=()) hk49 (wkQ8 [(0,0),(1,1),(2,2)])
 intro b41 hb41;have h:=h41;try rw [← hb41] at h
 clear h41;try dsimp only at h
 refine Q3 ?_;refine Q3 ?_;refine runQ hN fun K hK=>?_;simp [-Q0,-Q6,-Q1,-Q7,-Q2];repeat refine sdQ ?_
 refine hK _ ?_;clear hK K;refine tn ?_;refine Q8 (st':=⟨[(1,.adr 0 0 0),(3,.adr 1 0 0),(4,.adr 2 0 0),(7,iV 0)],[(0,.mix 12 [(Fn.cells true f_)]),(1,.mix 5 [(Cat.cells true f_.s)]),(2,.mix 5 [(Cat.cells true f_.t)])],3⟩) (wkQ8 [(0,0),(1,1),(2,2)]) ?_;replace h:=bind_some h;obtain ⟨e57,h,h57⟩:=h;refine Qk (fun b57:Unit=>⟨[],[],0⟩) (fun b57=>Sum.inl b57=e57) ?_ ?_
 ·refine Qa ?_;refine Qy h (fun s90:Int=>⟨[(1,.adr 0 0 0),(3,.adr 1 0 0),(4,.adr 2 0 0),(7,iV s90)],[(0,.mix 12 [(Fn.cells true f_)]),(1,.mix 5 [(Cat.cells true f_.s)]),(2,.mix 5 [(Cat.cells true f_.t)])],3⟩) (wkQ8 [(0,0),(1,1),(2,2)]) ?_;clear h;intro k90 s90 c90 h hk90;refine Q3 ?_;refine Q3 ?_;refine runQ hN fun K hK=>?_;simp [-Q0,-Q6,-Q1,-Q7,-Q2];repeat refine sdQ ?_
  refine hK _ ?_;clear hK K;refine tn ?_;refine Q8 (st':=⟨[(1,.adr 0 0 0),(3,.adr 1 0 0),(4,.adr 2 0 0),(7,iV s90),(129,.val (.bool (decide (s90<(f_.s.fr.length:Int)))))],[(0,.mix 12 [(Fn.cells true f_)]),(1,.mix 5 [(Cat.cells true f_.s)]),(2,.mix 5 [(Cat.cells true f_.t)])],3⟩) (wkQ8 [(0,0),(1,1),(2,2)]) ?_;refine Qc rfl (fun g=>?_) fun g=>?_
  ·have g91:s90<(f_.s.fr.length:Int):=gQ;clear g;replace h:=if_l g91 h;refine Qd ?_;refine tn ?_;refine Q3 ?_;replace h:=bind_some h;obtain ⟨e92,h,h92⟩:=h;refine Qk (fun b92:Unit=>⟨[(1,.adr 0 0 0),(3,.adr 1 0 0),(4,.adr 2 0 0),(7,iV s90)],[(0,.mix 12 [(Fn.cells true f_)]),(1,.mix 5 [(Cat.cells true f_.s)]),(2,.mix 5 [(Cat.cells true f_.t)])],3⟩) (fun b92=>Sum.inl b92=e92) ?_ ?_
   ·refine Qa ?_;refine Q3 ?_;refine runQ hN fun K hK=>?_;simp [-Q0,-Q6,-Q1,-Q7,-Q2];(repeat refine sdQ ?_);refine hK _ ?_;clear hK K;refine tn ?_;refine Q8 (st':=⟨[(1,.adr 0 0 0),(3,.adr 1 0 0),(4,.adr 2 0 0),(7,iV s90),(8,iV 0)],[(0,.mix 12 [(Fn.cells true f_)]),(1,.mix 5 [(Cat.cells true f_.s)]),(2,.mix 5 [(Cat.cells true f_.t)])],3⟩) (wkQ8 [(0,0),(1,1),(2,2)]) ?_;refine Qa ?_;replace h:=bind_some h;obtain ⟨e107,he107,h107⟩:=h;refine Qy he107 (fun s107:Int=>⟨[(1,.adr 0 0 0),(3,.adr 1 0 0),(4,.adr 2 0 0),(7,iV s90),(8,iV s107)],[(0,.mix 12 [(Fn.cells true f_)]),(1,.mix 5 [(Cat.cells true f_.s)]),(2,.mix 5 [(Cat.cells true f_.t)])],3⟩) (wkQ8 [(0,0),(1,1),(2,2)]) ?_;intro k107 s107 c107 h hk107;refine Q3 ?_;refine Q3 ?_;refine runQ hN fun K hK=>?_;simp [-Q0,-Q6,-Q1,-Q7,-Q2];(repeat refine sdQ ?_);refine hK _ ?_;clear hK K;refine tn ?_;refine Q8 (st':=⟨[(1,.adr 0 0 0),(3,.adr 1 0 0),(4,.adr 2 0 0),(7,iV s90),(8,iV s107),(136,.val (.bool (decide (s107<(f_.s.fr.length:Int)))))],[(0,.mix 12 [(Fn.cells true f_)]),(1,.mix 5 [(Cat.cells true f_.s)]),(2,.mix 5 [(Cat.cells true f_.t)])],3⟩) (wkQ8 [(0,0),(1,1),(2,2)]) ?_;refine Qc rfl (fun g=>?_) fun g=>?_
    ·have g108:s107<(f_.s.fr.length:Int):=gQ;clear g;replace h:=if_l g108 h;refine Qd ?_;refine tn ?_;refine Q3 ?_;refine Qa ?_;refine Q3 ?_;replace h:=bind_some h;obtain ⟨e109,h,h109⟩:=h;refine Qk (fun b109:Bool=>⟨[(1,.adr 0 0 0),(3,.adr 1 0 0),(4,.adr 2 0 0),(7,iV s90),(8,iV s107),(180,.val (.bool b109))],[(0,.mix 12 [(Fn.cells true f_)]),(1,.mix 5 [(Cat.cells true f_.s)]),(2,.mix 5 [(Cat.cells true f_.t)])],3⟩) (fun b109=>b109=e109) ?_ ?_
     ·refine runQ hN fun K hK=>?_;replace h:=Q5 h;obtain ⟨a110,h⟩:=h;replace h:=Q5 h;obtain ⟨a111,h⟩:=h;simp [-Q0,-Q6,-Q1,-Q7,-Q2,at_I a110,at_I a111];(repeat with_reducible refine sdQ ?_);refine Qq (fun g=>?_) (fun g=>?_)
      ·have g112:(ix f_.s.to s90)=(ix f_.s.fr s107):=gQ;clear g;replace h:=if_l g112 h;replace h:=Q5 h;obtain ⟨a113,h⟩:=h;replace h:=Q5 h;obtain ⟨a114,h⟩:=h;replace h:=Q5 h;obtain ⟨a115,h⟩:=h;replace h:=Q5 h;obtain ⟨a116,h⟩:=h;replace h:=Q5 h;obtain ⟨a117,h⟩:=h;replace h:=Q5 h;obtain ⟨a118,h⟩:=h;replace h:=Q5 h;obtain ⟨a119,h⟩:=h;simp [-Q0,-Q6,-Q1,-Q7,-Q2,at_I a110,at_I a111,at_L a113,at_I a114,at_I a115,at_I a116,at_L a117,at_I a118,at_I a119];(repeat refine sdQ ?_);refine hK _ ?_;exact jn (b:=(ix f_.ar (ix (rx f_.s.cs s90) s107)) != (ix (rx f_.t.cs (ix f_.ar s90)) (ix f_.ar s107))) (Option.some.inj h) (wkQ8 [(0,0),(1,1),(2,2)])
      have g112:¬ ((ix f_.s.to s90)=(ix f_.s.fr s107)):=gQ;clear g;replace h:=if_r g112 h;simp [-Q0,-Q6,-Q1,-Q7,-Q2,at_I a110,at_I a111];(repeat refine sdQ ?_);refine hK _ ?_;exact jn (b:=false) (Option.some.inj h) (wkQ8 [(0,0),(1,1),(2,2)])
     intro b109 hb109;have h:=h109;(try rw [← hb109] at h);clear h109;(try dsimp only at h);refine Qc rfl (fun g=>?_) fun g=>?_
     ·have g120:b109=true:=gQ;clear g;replace h:=if_l g120 h;refine Q3 ?_;refine runQ hN fun K hK=>?_;simp [-Q0,-Q6,-Q1,-Q7,-Q2];(repeat refine sdQ ?_);refine hK _ ?_;clear hK K;refine tn ?_;refine Q8 (st':=⟨[(2,.val (.bool false))],[],0⟩) (wkQ8 []) ?_;refine Qi ?_;refine br ?_;refine tr ?_;refine lr ?_;refine br ?_;refine br ?_;refine tr ?_;refine lr ?_;refine br ?_;refine tr ?_;cases h;have q:_=e107:=hk107;have h:=h107;rw [← q] at h;clear q;(try dsimp only at h);cases h;have h:=h92;(try dsimp only at h);cases h;have q:_=e57:=hk90;have h:=h57;rw [← q] at h;clear q;(try dsimp only at h);have hr:=Option.some.inj h;rw [← hr];refine ⟨_,(.tmp .nil),?_⟩;refine ⟨(.one rfl rfl .nil),[.val (.bool false)],[],by simp [Cat.cells,Fn.cells,UA,U1,IA,I1,LA,L1,BA,B1,EA,E1,E2,eB,eI,eL],by simp,(UpL.refl _)⟩
     have g120:¬ (b109=true):=gQ;clear g;replace h:=if_r g120 h;refine Qd ?_;refine bn ?_;refine tn ?_;refine runQ hN fun K hK=>?_;replace h:=Q5 h;obtain ⟨a121,h⟩:=h;simp [-Q0,-Q6,-Q1,-Q7,-Q2,Qs a121];(repeat refine sdQ ?_);refine hK _ ?_;clear hK K;cases h;exact rn (s':=s107+1) hk107 (wkQ8 [(0,0),(1,1),(2,2)])
    have g108:¬ (s107<(f_.s.fr.length:Int)):=gQ;clear g;replace h:=if_r g108 h;refine Qr ?_;refine tx ?_;refine lx ?_;refine bh ?_;refine bn ?_;cases h;have q:_=e107:=hk107;have h:=h107;rw [← q] at h;clear q;(try dsimp only at h);exact jn (b:=()) (Option.some.inj h) (wkQ8 [(0,0),(1,1),(2,2)])
   intro b92 hb92;have h:=h92;(try rw [← hb92] at h);clear h92;(try dsimp only at h);refine runQ hN fun K hK=>?_;replace h:=Q5 h;obtain ⟨a122,h⟩:=h;simp [-Q0,-Q6,-Q1,-Q7,-Q2,Qs a122];(repeat refine sdQ ?_);refine hK _ ?_;clear hK K;cases h;exact rn (s':=s90+1) hk90 (wkQ8 [(0,0),(1,1),(2,2)])
  have g91:¬ (s90<(f_.s.fr.length:Int)):=gQ;clear g;replace h:=if_r g91 h;refine Qr ?_;refine tx ?_;refine lx ?_;refine bh ?_;cases h;exact jn (b:=()) hk90 (wkQ8 [])
 intro b57 hb57;have h:=h57;try rw [← hb57] at h
 clear h57;try dsimp only at h
 refine Q3 ?_;refine runQ hN fun K hK=>?_;simp [-Q0,-Q6,-Q1,-Q7,-Q2];repeat refine sdQ ?_
 refine hK _ ?_;clear hK K;refine tn ?_;refine Q8 (st':=⟨[(2,.val (.bool true))],[],0⟩) (wkQ8 []) ?_;refine Qi ?_;have hr:=Option.some.inj h;rw [← hr];refine ⟨_,(.tmp .nil),?_⟩;refine ⟨(.one rfl rfl .nil),[.val (.bool true)],[],by simp [Cat.cells,Fn.cells,UA,U1,IA,I1,LA,L1,BA,B1,EA,E1,E2,eB,eI,eL],by simp,(UpL.refl _)⟩
structure Fn.Is (f:Fn):Prop where
 s:f.s.Is
 t:f.t.Is
 lo:(f.ob.length:Int)=f.s.n
 la:f.ar.length=f.s.fr.length
 ob:∀ j:Nat,j<f.ob.length→0≤ix f.ob j∧ix f.ob j<f.t.n
 ar:∀ j:Nat,j<f.ar.length→0≤ix f.ar j∧ix f.ar j<f.t.fr.length
 ends:∀ a:Nat,a<f.s.fr.length→ix f.t.fr (ix f.ar a)=ix f.ob (ix f.s.fr a)∧ix f.t.to (ix f.ar a)=ix f.ob (ix f.s.to a)
 ids:∀ x:Nat,x<f.s.id.length→ix f.ar (ix f.s.id x)=ix f.t.id (ix f.ob x)
 comp:∀ a:Nat,a<f.s.fr.length→∀ b:Nat,b<f.s.fr.length→ix f.s.to a=ix f.s.fr b→ix f.ar (ix (rx f.s.cs a) b)=ix (rx f.t.cs (ix f.ar a)) (ix f.ar b)
theorem Cat.Sh.frn {c:Cat} (h:c.Sh) {a:Nat} (ha:a<c.fr.length):(0≤ix c.fr a∧ix c.fr a<c.id.length)∧(0≤ix c.to a∧ix c.to a<c.id.length):=⟨h.fr' (by omega) (by omega),h.to' (by omega) (by omega)⟩
theorem Cat.Sh.idn {c:Cat} (h:c.Sh) {a:Nat} (ha:a<c.id.length):0≤ix c.id a∧ix c.id a<c.fr.length:=h.id' (by omega) (by omega)
theorem Cat.Sh.cmp {c:Cat} (h:c.Sh) {f g:Int} (h0:0≤f) (h1:f<c.fr.length) (h2:0≤g) (h3:g<c.fr.length) (e:ix c.to f=ix c.fr g):0≤ix (rx c.cs f) g∧ix (rx c.cs f) g<c.fr.length:=by
 have:=(h.cell' h0 h1 h2 h3).2 e;omega
theorem e_l06Is (f:Fn):Q36 f=some (bo f.Is):=by
 unfold Q36
 by_cases h1:f.s.Is
 case neg=>rw [QO (show ¬ f.Is from fun q=>h1 q.s)];simp [Q1d,bo,h1]
 by_cases h2:f.t.Is
 case neg=>rw [QO (show ¬ f.Is from fun q=>h2 q.t)];simp [Q1d,bo,h1,h2]
 by_cases h3:(f.ob.length:Int)=f.s.n
 case neg=>rw [QO (show ¬ f.Is from fun q=>h3 q.lo)];simp [Q1d,bo,h1,h2,h3]
 by_cases h4:(f.ar.length:Int)=f.s.fr.length
 case neg=>rw [QO (show ¬ f.Is from fun q=>h4 (by rw [q.la]))];simp [Q1d,bo,h1,h2,h3,h4]
 by_cases h5:f.ob.all (inR f.t.n)=true
 case neg=>rw [QO (show ¬ f.Is from fun q=>h5 (all_inR.2 q.ob))];simp [Q1d,Q1D,bo,h1,h2,h3,h4,h5]
 by_cases h6:f.ar.all (inR f.t.fr.length)=true
 case neg=>rw [QO (show ¬ f.Is from fun q=>h6 (all_inR.2 q.ar))];simp [Q1d,Q1D,bo,h1,h2,h3,h4,h5,h6]
 have ho:=all_inR.1 h5;have ha:=all_inR.1 h6;have hs:=h1.1;have ht:=h2.1;simp only [Q1d,Q1D,Q1s h1,Q1s h2,h3,h4,h5,h6,Option.bind_some,if_true,if_false,not_true_eq_false,bne_self_eq_false,Bool.not_true,Bool.false_eq_true];refine Q1t f.s.fr.length (fun a:Nat=>ix f.t.fr (ix f.ar a)=ix f.ob (ix f.s.fr a)∧ix f.t.to (ix f.ar a)=ix f.ob (ix f.s.to a)) (eb:=Sum.inr false) (eg:=Sum.inl ()) (by have:=hs.m40;omega) (fun a hi hp=>?_) (fun a hi hp=>?_) ?_ (fun hx=>?_) fun q1=>?_
 ·have:=hs.frn hi;have:=ha a (by omega);have:=hs.lt;have:=ht.lt;have:=hs.li;have:=hs.m40;simp (disch:=omega) only [Q9,if_pos,B64,hp.1,hp.2,Option.bind_some,not_true_eq_false,if_false,bne_self_eq_false,Bool.false_eq_true]
 ·have:=hs.frn hi;have:=ha a (by omega);have:=hs.lt;have:=ht.lt;have:=hs.li;have:=hs.m40
  by_cases hp1:ix f.t.fr (ix f.ar a)=ix f.ob (ix f.s.fr a)
  ·have hp2:¬ ix f.t.to (ix f.ar a)=ix f.ob (ix f.s.to a):=fun h=>hp ⟨hp1,h⟩;simp (disch:=omega) [Q9,B64,hp1,hp2,hi]
  simp (disch:=omega) [Q9,B64,hp1,hi]
 ·simp
 ·rw [QO (show ¬ f.Is from fun q=>hx q.ends)]
 simp only;refine Q1t f.s.id.length (fun x:Nat=>ix f.ar (ix f.s.id x)=ix f.t.id (ix f.ob x)) (eb:=Sum.inr false) (eg:=Sum.inl ()) (by have:=hs.n8;have:=hs.li;omega) (fun a hi hp=>?_) (fun a hi hp=>?_) ?_ (fun hx=>?_) fun q2=>?_
 ·have:=hs.idn hi;have:=ho a (by have:=hs.li;omega);have:=hs.li;have:=ht.li;have:=hs.n8;simp (disch:=omega) [Q9,B64,hp];omega
 ·have:=hs.idn hi;have:=ho a (by have:=hs.li;omega);have:=hs.li;have:=ht.li;have:=hs.n8;simp (disch:=omega) [Q9,B64,hp];omega
 ·simp [hs.li]
 ·rw [QO (show ¬ f.Is from fun q=>hx q.ids)]
 simp only;refine Q1t f.s.fr.length (fun a:Nat=>∀ b:Nat,b<f.s.fr.length→ix f.s.to a=ix f.s.fr b→ix f.ar (ix (rx f.s.cs a) b)=ix (rx f.t.cs (ix f.ar a)) (ix f.ar b)) (eb:=Sum.inr false) (eg:=Sum.inl ()) (by have:=hs.m40;omega) (fun a hi hp=>?_) (fun a hi hp=>?_) ?_ (fun hx=>?_) fun q3=>?_;rotate_left 2
 ·simp
 ·rw [QO (show ¬ f.Is from fun q=>hx q.comp)]
 ·rw [Q1s (show f.Is from ⟨h1,h2,h3,by omega,ho,ha,q1,q2,q3⟩)]
 all_goals
  have m40:=hs.m40;have h7:=hs.lt;have h8:=ha a (by omega);have h9:=hs.lc;have h10:=ht.lc;have h11:=hs.row' (j:=a) (by omega) (by omega);have h12:=ht.row' (j:=ix f.ar a) (by omega) (by omega);rw [if_pos (by omega)]
 all_goals
  rw [Option.bind_assoc];refine Q1t f.s.fr.length (fun b:Nat=>ix f.s.to a=ix f.s.fr b→ix f.ar (ix (rx f.s.cs a) b)=ix (rx f.t.cs (ix f.ar a)) (ix f.ar b)) (eb:=Sum.inl false) (eg:=Sum.inr ()) (by omega) (fun b hb hq=>?_) (fun b hb hq=>?_) ?_ (fun hn=>?_) fun hn=>?_
 all_goals first
  | exact absurd hp hn
  | exact absurd hn hp
  | (simp (disch:=omega) [Q9,B64];done)
  | skip
 all_goals
  have h13:=ha b (by omega)
  by_cases h14:ix f.s.to a=ix f.s.fr b
  ·have h15:=hs.cmp (f:=a) (g:=b) (by omega) (by omega) (by omega) (by omega) h14;first
    | (have hq1:=hq h14;simp (disch:=omega) [Q9,B64,h14,hq1,hb])
    | (have hq1:=fun e=>hq (fun _=>e);simp (disch:=omega) [Q9,B64,h14,hq1,hb];exact hq1)
  first
   | (simp (disch:=omega) [Q9,B64,h14,hb];done)
   | exact absurd (fun e=>absurd e h14) hq
attribute [local simp] eL eI Qu QM Q28 Cat.cells Fn.cells
noncomputable def Q2L (c_:Cat) (d_:Cat) (objects_:List Int) (arrows_:List Int):Option Fn :=
 (QX c_).bind fun v1 =>
 (QX d_).bind fun v2 =>
 (Q1c objects_).bind fun v3 =>
 (Q1c arrows_).bind fun v4 =>
 some (⟨v1,v2,v3,v4⟩:Fn)
theorem Q7e (c_:Cat) (d_:Cat) (objects_:List Int) (arrows_:List Int) (r:Fn) (h:Q2L c_ d_ objects_ arrows_=some r):Contract Try.prog 58 [.rptr (c_.cells true),.rptr (d_.cells true),lI objects_,lI arrows_] (.agg (r.cells true)):=by
 refine Qe (rvs:=[.cell 8 33]) (rs:=[.agg (r.cells true)]) Try.func58 rfl rfl rfl rfl (by simp [Try.f58]) fun F hN hP=>?_;unfold Q2L at h;refine Q3 ?_;refine runQ hN fun K hK=>?_;simp [-Q0,-Q6,-Q1,-Q7,-Q2];repeat refine sdQ ?_
 refine hK _ ?_;clear hK K;refine tn ?_;refine Q8 (st':=⟨[(0,.rptr (Cat.cells true c_)),(1,.rptr (Cat.cells true d_)),(2,lI objects_),(3,lI arrows_),(8,.adr 0 0 0)],[(0,.mix 12 [[iV 0,.val (.slice none 0 0),.val (.slice none 0 0),.val (.slice none 0 0),.val (.slice none 0 0),iV 0,.val (.slice none 0 0),.val (.slice none 0 0),.val (.slice none 0 0),.val (.slice none 0 0),.val (.slice none 0 0),.val (.slice none 0 0)]])],1⟩) (wkQ8 [(0,0)]) ?_;refine Q3 ?_;refine runQ hN fun K hK=>?_;simp [-Q0,-Q6,-Q1,-Q7,-Q2];repeat with_reducible refine sdQ ?_
 replace h:=bind_some h;obtain ⟨v1,hv1,h⟩:=h;refine Q4 (Q2C _ v1 hv1) (.cons (.preT (by simp [Cat.cells])) .nil) ?_;simp [-Q0,-Q6,-Q1,-Q7,-Q2,unk,unA,unE,unT,unC,flat];repeat with_reducible refine sdQ ?_
 replace h:=bind_some h;obtain ⟨v2,hv2,h⟩:=h;refine Q4 (Q2C _ v2 hv2) (.cons (.preT (by simp [Cat.cells])) .nil) ?_;simp [-Q0,-Q6,-Q1,-Q7,-Q2,unk,unA,unE,unT,unC,flat];repeat with_reducible refine sdQ ?_
 replace h:=bind_some h;obtain ⟨v3,hv3,h⟩:=h;refine Q4 (Q2D _ v3 hv3) (.cons .lst .nil) ?_;simp [-Q0,-Q6,-Q1,-Q7,-Q2,unk,unA,unE,unT,unC,flat];repeat with_reducible refine sdQ ?_
 replace h:=bind_some h;obtain ⟨v4,hv4,h⟩:=h;refine Q4 (Q2D _ v4 hv4) (.cons .lst .nil) ?_;simp [-Q0,-Q6,-Q1,-Q7,-Q2,unk,unA,unE,unT,unC,flat];repeat refine sdQ ?_
 refine hK _ ?_;clear hK K;refine tn ?_;refine Q8 (st':=⟨[(8,.adr 0 0 0)],[(0,.mix 12 [[iV v1.n,.own 1 0 v1.fr.length,.own 2 0 v1.to.length,.own 3 0 v1.id.length,.own 4 0 v1.cs.length,iV v2.n,.own 5 0 v2.fr.length,.own 6 0 v2.to.length,.own 7 0 v2.id.length,.own 8 0 v2.cs.length,.own 9 0 v3.length,.own 10 0 v4.length]]),(1,rI v1.fr),(2,rI v1.to),(3,rI v1.id),(4,.row 1 (Ls v1.cs)),(5,rI v2.fr),(6,rI v2.to),(7,rI v2.id),(8,.row 1 (Ls v2.cs)),(9,rI v3),(10,rI v4)],11⟩) (wkQ8 [(0,0),(2,1),(3,2),(4,3),(5,4),(7,5),(8,6),(9,7),(10,8),(11,9),(12,10)]) ?_;refine Qi ?_;have hr:=Option.some.inj h;rw [← hr];refine ⟨_,(.cell Q8n rfl rfl rfl (by simp) (by simp) .nil),?_⟩;refine ⟨(.agg rfl .nil),[iV v1.n,lI v1.fr,lI v1.to,lI v1.id,.lst true 1 (Ls v1.cs),iV v2.n,lI v2.fr,lI v2.to,lI v2.id,.lst true 1 (Ls v2.cs),lI v3,lI v4],[1,2,3,4,5,6,7,8,9,10],by simp [Cat.cells,Fn.cells,UA,U1,IA,I1,LA,L1,BA,B1,EA,E1,E2,eB,eI,eL],by simp,(UpL.refl _)⟩
attribute [local simp] eL eI Qu QM Q28 Cat.cells Fn.cells
noncomputable def Q1l (c_:Cat) (d_:Cat) (objects_:List Int) (arrows_:List Int):Option Fn :=
 (Q24 c_).bind fun v1 =>
 (Q24 d_).bind fun v2 =>
 (QE objects_).bind fun v3 =>
 (QE arrows_).bind fun v4 =>
 some (⟨v1,v2,v3,v4⟩:Fn)
theorem Q4U (c_:Cat) (d_:Cat) (objects_:List Int) (arrows_:List Int) (r:Fn) (h:Q1l c_ d_ objects_ arrows_=some r):Contract Try.prog 52 [.agg (c_.cells true),.agg (d_.cells true),lI objects_,lI arrows_] (.agg (r.cells true)):=by
 refine Qe (rvs:=[.cell 8 33]) (rs:=[.agg (r.cells true)]) Try.func52 rfl rfl rfl rfl (by simp [Try.f52]) fun F hN hP=>?_;unfold Q1l at h;refine Q3 ?_;refine runQ hN fun K hK=>?_;simp [-Q0,-Q6,-Q1,-Q7,-Q2];repeat refine sdQ ?_
 refine hK _ ?_;clear hK K;refine tn ?_;refine Q8 (st':=⟨[(2,lI objects_),(3,lI arrows_),(4,.adr 0 0 0),(5,.adr 1 0 0),(8,.adr 2 0 0)],[(0,.mix 5 [(Cat.cells true c_)]),(1,.mix 5 [(Cat.cells true d_)]),(2,.mix 12 [[iV 0,.val (.slice none 0 0),.val (.slice none 0 0),.val (.slice none 0 0),.val (.slice none 0 0),iV 0,.val (.slice none 0 0),.val (.slice none 0 0),.val (.slice none 0 0),.val (.slice none 0 0),.val (.slice none 0 0),.val (.slice none 0 0)]])],3⟩) (wkQ8 [(0,0),(1,1),(2,2)]) ?_;refine Q3 ?_;refine runQ hN fun K hK=>?_;simp [-Q0,-Q6,-Q1,-Q7,-Q2];repeat with_reducible refine sdQ ?_
 replace h:=bind_some h;obtain ⟨v1,hv1,h⟩:=h;refine Q4 (Q5r _ v1 hv1) (.cons (.aggL (.cons .val (.cons .lst (.cons .lst (.cons .lst (.cons .lst .nil)))))) .nil) ?_;simp [-Q0,-Q6,-Q1,-Q7,-Q2,unk,unA,unE,unT,unC,flat];repeat with_reducible refine sdQ ?_
 replace h:=bind_some h;obtain ⟨v2,hv2,h⟩:=h;refine Q4 (Q5r _ v2 hv2) (.cons (.aggL (.cons .val (.cons .lst (.cons .lst (.cons .lst (.cons .lst .nil)))))) .nil) ?_;simp [-Q0,-Q6,-Q1,-Q7,-Q2,unk,unA,unE,unT,unC,flat];repeat with_reducible refine sdQ ?_
 replace h:=bind_some h;obtain ⟨v3,hv3,h⟩:=h;refine Q4 (Q1q _ v3 hv3) (.cons .lst .nil) ?_;simp [-Q0,-Q6,-Q1,-Q7,-Q2,unk,unA,unE,unT,unC,flat];repeat with_reducible refine sdQ ?_
 replace h:=bind_some h;obtain ⟨v4,hv4,h⟩:=h;refine Q4 (Q1q _ v4 hv4) (.cons .lst .nil) ?_;simp [-Q0,-Q6,-Q1,-Q7,-Q2,unk,unA,unE,unT,unC,flat];repeat refine sdQ ?_
 refine hK _ ?_;clear hK K;refine tn ?_;refine Q8 (st':=⟨[(8,.adr 0 0 0)],[(0,.mix 12 [[iV v1.n,.own 1 0 v1.fr.length,.own 2 0 v1.to.length,.own 3 0 v1.id.length,.own 4 0 v1.cs.length,iV v2.n,.own 5 0 v2.fr.length,.own 6 0 v2.to.length,.own 7 0 v2.id.length,.own 8 0 v2.cs.length,.own 9 0 v3.length,.own 10 0 v4.length]]),(1,rI v1.fr),(2,rI v1.to),(3,rI v1.id),(4,.row 1 (Ls v1.cs)),(5,rI v2.fr),(6,rI v2.to),(7,rI v2.id),(8,.row 1 (Ls v2.cs)),(9,rI v3),(10,rI v4)],11⟩) (wkQ8 [(2,0),(4,1),(5,2),(6,3),(7,4),(9,5),(10,6),(11,7),(12,8),(13,9),(14,10)]) ?_;refine Qi ?_;have hr:=Option.some.inj h;rw [← hr];refine ⟨_,(.cell Q8n rfl rfl rfl (by simp) (by simp) .nil),?_⟩;refine ⟨(.agg rfl .nil),[iV v1.n,lI v1.fr,lI v1.to,lI v1.id,.lst true 1 (Ls v1.cs),iV v2.n,lI v2.fr,lI v2.to,lI v2.id,.lst true 1 (Ls v2.cs),lI v3,lI v4],[1,2,3,4,5,6,7,8,9,10],by simp [Cat.cells,Fn.cells,UA,U1,IA,I1,LA,L1,BA,B1,EA,E1,E2,eB,eI,eL],by simp,(UpL.refl _)⟩
theorem set_fill {α:Type} (xs:List α) (k:Nat) (v z:α) {i:Nat} (h:i=xs.length):(xs++List.replicate (k+1) z).set i v=(xs++[v])++List.replicate k z:=by
 subst h;simp [List.replicate_succ]
theorem Cat.Is.ok {c:Cat} (h:c.Is):c.ok:=h.1.size2.1
theorem Fn.Is.lob {f:Fn} (h:f.Is):f.ob.length≤8:=by have:=h.lo;have:=h.s.1.n8;omega
theorem Fn.Is.lar {f:Fn} (h:f.Is):f.ar.length≤40:=by have:=h.la;have:=h.s.1.m40;omega
theorem e_l06Make {c d:Cat} {ob ar:List Int} (hc:c.ok) (hd:d.ok) (ho:ob.length≤1048576) (ha:ar.length≤1048576):Q1l c d ob ar=some ⟨c,d,ob,ar⟩:=by
 simp [Q1l,Q24,QE,hc,hd,ho,ha]
attribute [local simp] eL eI Qu QM Q28 Cat.cells Fn.cells
noncomputable def Q13 (f_:Fn):Option Bool :=
 (
  if ¬ ((f_.ob.length:Int)=f_.s.n) then
   some true
  else
   (Qx f_.s).bind fun v3 =>
   if ¬ ((f_.ar.length:Int)=v3) then
    some true
   else
    (Q1C f_.ob f_.t.n).bind fun v5 =>
    if ¬ (v5=true) then
     some true
    else
     (Qx f_.t).bind fun v7 =>
     (Q1C f_.ar v7).bind fun v8 =>
     some (!v8):Option (Bool)).bind fun b1 =>
 if b1=true then
  some false
 else
  (QA (σ:=Int) (ε:=Unit ⊕ Bool) (fun s23 =>
   if s23<(f_.ar.length:Int) then
    ass (0≤s23∧s23<(f_.ar.length:Int)) <|
    (
     ass (0≤ix f_.ar s23∧ix f_.ar s23<(f_.t.fr.length:Int)) <|
     ass (0≤s23∧s23<(f_.s.fr.length:Int)) <|
     ass (0≤ix f_.s.fr s23∧ix f_.s.fr s23<(f_.ob.length:Int)) <|
     if ¬ ((ix f_.t.fr (ix f_.ar s23))=(ix f_.ob (ix f_.s.fr s23))) then
      some true
     else
      ass (0≤ix f_.ar s23∧ix f_.ar s23<(f_.t.to.length:Int)) <|
      ass (0≤s23∧s23<(f_.s.to.length:Int)) <|
      ass (0≤ix f_.s.to s23∧ix f_.s.to s23<(f_.ob.length:Int)) <|
      some ((ix f_.t.to (ix f_.ar s23)) != (ix f_.ob (ix f_.s.to s23))):Option (Bool)).bind fun b26 =>
    if b26=true then
     some (Ctl.ret (Sum.inr false))
    else
     ass (B64 (s23+1)) <|
     some (Ctl.next (s23+1))
   else
    some (Ctl.ret (Sum.inl ()))) fuel 0).bind fun e10 =>
  match e10 with
  | .inl b10 =>
   (QA (σ:=Int) (ε:=Unit ⊕ Bool) (fun s44 =>
    if s44<(f_.s.id.length:Int) then
     ass (0≤s44∧s44<(f_.s.id.length:Int)) <|
     ass (0≤ix f_.s.id s44∧ix f_.s.id s44<(f_.ar.length:Int)) <|
     ass (0≤s44∧s44<(f_.ob.length:Int)) <|
     ass (0≤ix f_.ob s44∧ix f_.ob s44<(f_.t.id.length:Int)) <|
     if ¬ ((ix f_.ar (ix f_.s.id s44))=(ix f_.t.id (ix f_.ob s44))) then
      some (Ctl.ret (Sum.inr false))
     else
      ass (B64 (s44+1)) <|
      some (Ctl.next (s44+1))
    else
     some (Ctl.ret (Sum.inl ()))) fuel 0).bind fun e36 =>
   match e36 with
   | .inl b36 =>
    (QA (σ:=Int) (ε:=Unit ⊕ Bool) (fun s78 =>
     if s78<(f_.s.cs.length:Int) then
      (
       ass (0≤s78∧s78<(f_.s.cs.length:Int)) <|
       (QA (σ:=Int) (ε:=Bool ⊕ Unit) (fun s92 =>
        if s92<((rx f_.s.cs s78).length:Int) then
         ass (0≤s92∧s92<((rx f_.s.cs s78).length:Int)) <|
         (
          if (ix (rx f_.s.cs s78) s92) ≥ 0 then
           ass (0≤ix (rx f_.s.cs s78) s92∧ix (rx f_.s.cs s78) s92<(f_.ar.length:Int)) <|
           ass (0≤s78∧s78<(f_.ar.length:Int)) <|
           ass (0≤s92∧s92<(f_.ar.length:Int)) <|
           (Qv f_.t (ix f_.ar s78) (ix f_.ar s92)).bind fun v100 =>
           some ((ix f_.ar (ix (rx f_.s.cs s78) s92)) != v100)
          else
           some false:Option (Bool)).bind fun b95 =>
         if b95=true then
          some (Ctl.ret (Sum.inl false))
         else
          ass (B64 (s92+1)) <|
          some (Ctl.next (s92+1))
        else
         some (Ctl.ret (Sum.inr ()))) fuel 0).bind fun e92 =>
       match e92 with
       | .inl p92 =>
        some (Sum.inr p92)
       | .inr p92 =>
        some (Sum.inl p92):Option (Unit ⊕ Bool)).bind fun e80 =>
      match e80 with
      | .inl b80 =>
       ass (B64 (s78+1)) <|
       some (Ctl.next (s78+1))
      | .inr p80 =>
       some (Ctl.ret (Sum.inr p80))
     else
      some (Ctl.ret (Sum.inl ()))) fuel 0).bind fun e52 =>
    match e52 with
    | .inl b52 =>
     some true
    | .inr p52 =>
     some p52
   | .inr p36 =>
    some p36
  | .inr p10 =>
   some p10
theorem Q4s (f_:Fn) (r:Bool) (h:Q13 f_=some r):Contract Try.prog 126 [.rptr (f_.cells true)] (.val (.bool r)):=by
 refine Qe (rvs:=[.tmp 2]) (rs:=[.val (.bool r)]) Try.func126 rfl rfl rfl rfl (by simp [Try.f126]) fun F hN hP=>?_;unfold Q13 at h;refine Q3 ?_;refine runQ hN fun K hK=>?_;simp [-Q0,-Q6,-Q1,-Q7,-Q2];repeat refine sdQ ?_
 refine hK _ ?_;clear hK K;refine tn ?_;refine Q8 (st':=⟨[(0,.rptr (Fn.cells true f_))],[],0⟩) (wkQ8 []) ?_;refine Q3 ?_;refine runQ hN fun K hK=>?_;simp [-Q0,-Q6,-Q1,-Q7,-Q2];repeat refine sdQ ?_
 refine hK _ ?_;clear hK K;refine tn ?_;refine Q8 (st':=⟨[(0,.rptr (Fn.cells true f_)),(3,.rptr (Fn.cells true f_)),(4,.rptr [iV f_.t.n,lI f_.t.fr,lI f_.t.to,lI f_.t.id,.lst true 1 (Ls f_.t.cs),lI f_.ob,lI f_.ar])],[],0⟩) (wkQ8 []) ?_;refine Q3 ?_;refine Q3 ?_;replace h:=bind_some h;obtain ⟨e1,h,h1⟩:=h;refine Qk (fun b1:Bool=>⟨[(0,.rptr (Fn.cells true f_)),(3,.rptr (Fn.cells true f_)),(4,.rptr [iV f_.t.n,lI f_.t.fr,lI f_.t.to,lI f_.t.id,.lst true 1 (Ls f_.t.cs),lI f_.ob,lI f_.ar]),(60,.val (.bool b1))],[],0⟩) (fun b1=>b1=e1) ?_ ?_
 ·refine runQ hN fun K hK=>?_;simp [-Q0,-Q6,-Q1,-Q7,-Q2];repeat with_reducible refine sdQ ?_
  refine Qq (fun g=>?_) (fun g=>?_)
  ·have g2:¬ (¬ ((f_.ob.length:Int)=f_.s.n)):=gQ;clear g;replace h:=if_r g2 h;simp [-Q0,-Q6,-Q1,-Q7,-Q2];(repeat with_reducible refine sdQ ?_);replace h:=bind_some h;obtain ⟨v3,hv3,h⟩:=h;refine Q4 (Q1m _ v3 hv3) (.cons (.preT (by simp [Cat.cells,Fn.cells])) .nil) ?_;simp [-Q0,-Q6,-Q1,-Q7,-Q2,unk,unA,unE,unT,unC,flat];(repeat with_reducible refine sdQ ?_);refine Qq (fun g=>?_) (fun g=>?_)
   ·have g4:¬ (¬ ((f_.ar.length:Int)=v3)):=gQ;clear g;replace h:=if_r g4 h;simp [-Q0,-Q6,-Q1,-Q7,-Q2];(repeat with_reducible refine sdQ ?_);replace h:=bind_some h;obtain ⟨v5,hv5,h⟩:=h;refine Q4 (Q5p _ _ v5 hv5) (.cons .lst (.cons .val .nil)) ?_;simp [-Q0,-Q6,-Q1,-Q7,-Q2,unk,unA,unE,unT,unC,flat];(repeat with_reducible refine sdQ ?_);refine Qq (fun g=>?_) (fun g=>?_)
    ·have g6:¬ (¬ (v5=true)):=gQ;clear g;replace h:=if_r g6 h;simp [-Q0,-Q6,-Q1,-Q7,-Q2];(repeat with_reducible refine sdQ ?_);replace h:=bind_some h;obtain ⟨v7,hv7,h⟩:=h;refine Q4 (Q1m _ v7 hv7) (.cons (.preT (by simp [Cat.cells,Fn.cells])) .nil) ?_;simp [-Q0,-Q6,-Q1,-Q7,-Q2,unk,unA,unE,unT,unC,flat];(repeat with_reducible refine sdQ ?_);replace h:=bind_some h;obtain ⟨v8,hv8,h⟩:=h;refine Q4 (Q5p _ _ v8 hv8) (.cons .lst (.cons .val .nil)) ?_;simp [-Q0,-Q6,-Q1,-Q7,-Q2,unk,unA,unE,unT,unC,flat];(repeat refine sdQ ?_);refine hK _ ?_;exact jn (b:=!v8) (Option.some.inj h) (wkQ8 [])
    have g6:¬ (v5=true):=gQ;clear g;replace h:=if_l g6 h;simp [-Q0,-Q6,-Q1,-Q7,-Q2];(repeat refine sdQ ?_);refine hK _ ?_;exact jn (b:=true) (Option.some.inj h) (wkQ8 [])
   have g4:¬ ((f_.ar.length:Int)=v3):=gQ;clear g;replace h:=if_l g4 h;simp [-Q0,-Q6,-Q1,-Q7,-Q2];(repeat refine sdQ ?_);refine hK _ ?_;exact jn (b:=true) (Option.some.inj h) (wkQ8 [])
  have g2:¬ ((f_.ob.length:Int)=f_.s.n):=gQ;clear g;replace h:=if_l g2 h;simp [-Q0,-Q6,-Q1,-Q7,-Q2];repeat refine sdQ ?_
  refine hK _ ?_;exact jn (b:=true) (Option.some.inj h) (wkQ8 [])
 intro b1 hb1;have h:=h1;try rw [← hb1] at h
 clear h1;try dsimp only at h
 refine Qc rfl (fun g=>?_) fun g=>?_
 ·have g9:b1=true:=gQ;clear g;replace h:=if_l g9 h;refine Q3 ?_;refine runQ hN fun K hK=>?_;simp [-Q0,-Q6,-Q1,-Q7,-Q2];repeat refine sdQ ?_
  refine hK _ ?_;clear hK K;refine tn ?_;refine Q8 (st':=⟨[(2,.val (.bool false))],[],0⟩) (wkQ8 []) ?_;refine Qi ?_;refine tr ?_;have hr:=Option.some.inj h;rw [← hr];refine ⟨_,(.tmp .nil),?_⟩;refine ⟨(.one rfl rfl .nil),[.val (.bool false)],[],by simp [Cat.cells,Fn.cells,UA,U1,IA,I1,LA,L1,BA,B1,EA,E1,E2,eB,eI,eL],by simp,(UpL.refl _)⟩
 have g9:¬ (b1=true):=gQ;clear g;replace h:=if_r g9 h;refine Qd ?_;refine tn ?_;refine Q3 ?_;refine Q3 ?_;refine runQ hN fun K hK=>?_;simp [-Q0,-Q6,-Q1,-Q7,-Q2];repeat refine sdQ ?_
 refine hK _ ?_;clear hK K;refine tn ?_;refine Q8 (st':=⟨[(0,.rptr (Fn.cells true f_)),(3,.rptr (Fn.cells true f_)),(4,.rptr [iV f_.t.n,lI f_.t.fr,lI f_.t.to,lI f_.t.id,.lst true 1 (Ls f_.t.cs),lI f_.ob,lI f_.ar]),(64,lI f_.ar),(65,iV (f_.ar.length:Int)),(66,iV 0)],[],0⟩) (wkQ8 []) ?_;replace h:=bind_some h;obtain ⟨e10,h,h10⟩:=h;refine Qk (fun b10:Unit=>⟨[(0,.rptr (Fn.cells true f_)),(3,.rptr (Fn.cells true f_)),(4,.rptr [iV f_.t.n,lI f_.t.fr,lI f_.t.to,lI f_.t.id,.lst true 1 (Ls f_.t.cs),lI f_.ob,lI f_.ar])],[],0⟩) (fun b10=>Sum.inl b10=e10) ?_ ?_
 ·refine Qa ?_;refine Qy h (fun s23:Int=>⟨[(0,.rptr (Fn.cells true f_)),(3,.rptr (Fn.cells true f_)),(4,.rptr [iV f_.t.n,lI f_.t.fr,lI f_.t.to,lI f_.t.id,.lst true 1 (Ls f_.t.cs),lI f_.ob,lI f_.ar]),(64,lI f_.ar),(65,iV (f_.ar.length:Int)),(66,iV s23)],[],0⟩) (wkQ8 []) ?_;clear h;intro k23 s23 c23 h hk23;refine Q3 ?_;refine runQ hN fun K hK=>?_;simp [-Q0,-Q6,-Q1,-Q7,-Q2];repeat refine sdQ ?_
  refine hK _ ?_;clear hK K;refine tn ?_;refine Q8 (st':=⟨[(0,.rptr (Fn.cells true f_)),(3,.rptr (Fn.cells true f_)),(4,.rptr [iV f_.t.n,lI f_.t.fr,lI f_.t.to,lI f_.t.id,.lst true 1 (Ls f_.t.cs),lI f_.ob,lI f_.ar]),(64,lI f_.ar),(65,iV (f_.ar.length:Int)),(66,iV s23),(67,.val (.bool (decide (s23<(f_.ar.length:Int)))))],[],0⟩) (wkQ8 []) ?_;refine Q3 ?_;refine Qc rfl (fun g=>?_) fun g=>?_
  ·have g24:s23<(f_.ar.length:Int):=gQ;clear g;replace h:=if_l g24 h;refine Qd ?_;refine tn ?_;refine Q3 ?_;refine Qa ?_;refine Q3 ?_;refine runQ hN fun K hK=>?_;replace h:=Q5 h;obtain ⟨a25,h⟩:=h;simp [-Q0,-Q6,-Q1,-Q7,-Q2,at_I a25];(repeat refine sdQ ?_);refine hK _ ?_;clear hK K;refine tn ?_;refine Q8 (st':=⟨[(0,.rptr (Fn.cells true f_)),(3,.rptr (Fn.cells true f_)),(4,.rptr [iV f_.t.n,lI f_.t.fr,lI f_.t.to,lI f_.t.id,.lst true 1 (Ls f_.t.cs),lI f_.ob,lI f_.ar]),(5,iV s23),(6,iV (ix f_.ar s23)),(64,lI f_.ar),(65,iV (f_.ar.length:Int)),(66,iV s23)],[],0⟩) (wkQ8 []) ?_;refine Q3 ?_;replace h:=bind_some h;obtain ⟨e26,h,h26⟩:=h;refine Qk (fun b26:Bool=>⟨[(0,.rptr (Fn.cells true f_)),(3,.rptr (Fn.cells true f_)),(4,.rptr [iV f_.t.n,lI f_.t.fr,lI f_.t.to,lI f_.t.id,.lst true 1 (Ls f_.t.cs),lI f_.ob,lI f_.ar]),(64,lI f_.ar),(65,iV (f_.ar.length:Int)),(66,iV s23),(114,.val (.bool b26))],[],0⟩) (fun b26=>b26=e26) ?_ ?_
   ·refine runQ hN fun K hK=>?_;replace h:=Q5 h;obtain ⟨a27,h⟩:=h;replace h:=Q5 h;obtain ⟨a28,h⟩:=h;replace h:=Q5 h;obtain ⟨a29,h⟩:=h;simp [-Q0,-Q6,-Q1,-Q7,-Q2,at_I a27,at_I a28,at_I a29];(repeat with_reducible refine sdQ ?_);refine Qq (fun g=>?_) (fun g=>?_)
    ·have g30:¬ (¬ ((ix f_.t.fr (ix f_.ar s23))=(ix f_.ob (ix f_.s.fr s23)))):=gQ;clear g;replace h:=if_r g30 h;replace h:=Q5 h;obtain ⟨a31,h⟩:=h;replace h:=Q5 h;obtain ⟨a32,h⟩:=h;replace h:=Q5 h;obtain ⟨a33,h⟩:=h;simp [-Q0,-Q6,-Q1,-Q7,-Q2,at_I a27,at_I a28,at_I a29,at_I a31,at_I a32,at_I a33];(repeat refine sdQ ?_);refine hK _ ?_;exact jn (b:=(ix f_.t.to (ix f_.ar s23)) != (ix f_.ob (ix f_.s.to s23))) (Option.some.inj h) (wkQ8 [])
    have g30:¬ ((ix f_.t.fr (ix f_.ar s23))=(ix f_.ob (ix f_.s.fr s23))):=gQ;clear g;replace h:=if_l g30 h;simp [-Q0,-Q6,-Q1,-Q7,-Q2,at_I a27,at_I a28,at_I a29];(repeat refine sdQ ?_);refine hK _ ?_;exact jn (b:=true) (Option.some.inj h) (wkQ8 [])
   intro b26 hb26;have h:=h26;(try rw [← hb26] at h);clear h26;(try dsimp only at h);refine Qc rfl (fun g=>?_) fun g=>?_
   ·have g34:b26=true:=gQ;clear g;replace h:=if_l g34 h;refine Q3 ?_;refine runQ hN fun K hK=>?_;simp [-Q0,-Q6,-Q1,-Q7,-Q2];(repeat refine sdQ ?_);refine hK _ ?_;clear hK K;refine tn ?_;refine Q8 (st':=⟨[(2,.val (.bool false))],[],0⟩) (wkQ8 []) ?_;refine Qi ?_;refine br ?_;refine tr ?_;refine lr ?_;refine br ?_;refine tr ?_;cases h;have q:_=e10:=hk23;have h:=h10;rw [← q] at h;clear q;(try dsimp only at h);have hr:=Option.some.inj h;rw [← hr];refine ⟨_,(.tmp .nil),?_⟩;refine ⟨(.one rfl rfl .nil),[.val (.bool false)],[],by simp [Cat.cells,Fn.cells,UA,U1,IA,I1,LA,L1,BA,B1,EA,E1,E2,eB,eI,eL],by simp,(UpL.refl _)⟩
   have g34:¬ (b26=true):=gQ;clear g;replace h:=if_r g34 h;refine Qd ?_;refine bn ?_;refine tn ?_;refine runQ hN fun K hK=>?_;replace h:=Q5 h;obtain ⟨a35,h⟩:=h;simp [-Q0,-Q6,-Q1,-Q7,-Q2,Qs a35];(repeat refine sdQ ?_);refine hK _ ?_;clear hK K;cases h;exact rn (s':=s23+1) hk23 (wkQ8 [])
  have g24:¬ (s23<(f_.ar.length:Int)):=gQ;clear g;replace h:=if_r g24 h;refine Qr ?_;refine tx ?_;refine lx ?_;refine bh ?_;cases h;exact jn (b:=()) hk23 (wkQ8 [])
 intro b10 hb10;have h:=h10;try rw [← hb10] at h
 clear h10;try dsimp only at h
 refine Q3 ?_;refine Q3 ?_;refine runQ hN fun K hK=>?_;simp [-Q0,-Q6,-Q1,-Q7,-Q2];repeat refine sdQ ?_
 refine hK _ ?_;clear hK K;refine tn ?_;refine Q8 (st':=⟨[(0,.rptr (Fn.cells true f_)),(3,.rptr (Fn.cells true f_)),(4,.rptr [iV f_.t.n,lI f_.t.fr,lI f_.t.to,lI f_.t.id,.lst true 1 (Ls f_.t.cs),lI f_.ob,lI f_.ar]),(119,lI f_.s.id),(120,iV (f_.s.id.length:Int)),(121,iV 0)],[],0⟩) (wkQ8 []) ?_;replace h:=bind_some h;obtain ⟨e36,h,h36⟩:=h;refine Qk (fun b36:Unit=>⟨[(0,.rptr (Fn.cells true f_)),(3,.rptr (Fn.cells true f_)),(4,.rptr [iV f_.t.n,lI f_.t.fr,lI f_.t.to,lI f_.t.id,.lst true 1 (Ls f_.t.cs),lI f_.ob,lI f_.ar])],[],0⟩) (fun b36=>Sum.inl b36=e36) ?_ ?_
 ·refine Qa ?_;refine Qy h (fun s44:Int=>⟨[(0,.rptr (Fn.cells true f_)),(3,.rptr (Fn.cells true f_)),(4,.rptr [iV f_.t.n,lI f_.t.fr,lI f_.t.to,lI f_.t.id,.lst true 1 (Ls f_.t.cs),lI f_.ob,lI f_.ar]),(119,lI f_.s.id),(120,iV (f_.s.id.length:Int)),(121,iV s44)],[],0⟩) (wkQ8 []) ?_;clear h;intro k44 s44 c44 h hk44;refine Q3 ?_;refine runQ hN fun K hK=>?_;simp [-Q0,-Q6,-Q1,-Q7,-Q2];repeat refine sdQ ?_
  refine hK _ ?_;clear hK K;refine tn ?_;refine Q8 (st':=⟨[(0,.rptr (Fn.cells true f_)),(3,.rptr (Fn.cells true f_)),(4,.rptr [iV f_.t.n,lI f_.t.fr,lI f_.t.to,lI f_.t.id,.lst true 1 (Ls f_.t.cs),lI f_.ob,lI f_.ar]),(119,lI f_.s.id),(120,iV (f_.s.id.length:Int)),(121,iV s44),(122,.val (.bool (decide (s44<(f_.s.id.length:Int)))))],[],0⟩) (wkQ8 []) ?_;refine Q3 ?_;refine Qc rfl (fun g=>?_) fun g=>?_
  ·have g45:s44<(f_.s.id.length:Int):=gQ;clear g;replace h:=if_l g45 h;refine Qd ?_;refine tn ?_;refine Q3 ?_;refine Qa ?_;refine Q3 ?_;refine runQ hN fun K hK=>?_;replace h:=Q5 h;obtain ⟨a46,h⟩:=h;simp [-Q0,-Q6,-Q1,-Q7,-Q2,at_I a46];(repeat refine sdQ ?_);refine hK _ ?_;clear hK K;refine tn ?_;refine Q8 (st':=⟨[(0,.rptr (Fn.cells true f_)),(3,.rptr (Fn.cells true f_)),(4,.rptr [iV f_.t.n,lI f_.t.fr,lI f_.t.to,lI f_.t.id,.lst true 1 (Ls f_.t.cs),lI f_.ob,lI f_.ar]),(7,iV s44),(8,iV (ix f_.s.id s44)),(119,lI f_.s.id),(120,iV (f_.s.id.length:Int)),(121,iV s44)],[],0⟩) (wkQ8 []) ?_;refine Q3 ?_;refine runQ hN fun K hK=>?_;replace h:=Q5 h;obtain ⟨a47,h⟩:=h;replace h:=Q5 h;obtain ⟨a48,h⟩:=h;replace h:=Q5 h;obtain ⟨a49,h⟩:=h;simp [-Q0,-Q6,-Q1,-Q7,-Q2,at_I a47,at_I a48,at_I a49];(repeat refine sdQ ?_);refine hK _ ?_;clear hK K;refine tn ?_;refine Q8 (st':=⟨[(0,.rptr (Fn.cells true f_)),(3,.rptr (Fn.cells true f_)),(4,.rptr [iV f_.t.n,lI f_.t.fr,lI f_.t.to,lI f_.t.id,.lst true 1 (Ls f_.t.cs),lI f_.ob,lI f_.ar]),(119,lI f_.s.id),(120,iV (f_.s.id.length:Int)),(121,iV s44),(146,.val (.bool ((ix f_.ar (ix f_.s.id s44)) != (ix f_.t.id (ix f_.ob s44)))))],[],0⟩) (wkQ8 []) ?_;refine Qc rfl (fun g=>?_) fun g=>?_
   ·have g50:¬ ((ix f_.ar (ix f_.s.id s44))=(ix f_.t.id (ix f_.ob s44))):=gQ;clear g;replace h:=if_l g50 h;refine Q3 ?_;refine runQ hN fun K hK=>?_;simp [-Q0,-Q6,-Q1,-Q7,-Q2];(repeat refine sdQ ?_);refine hK _ ?_;clear hK K;refine tn ?_;refine Q8 (st':=⟨[(2,.val (.bool false))],[],0⟩) (wkQ8 []) ?_;refine Qi ?_;refine br ?_;refine tr ?_;refine lr ?_;refine br ?_;refine tr ?_;cases h;have q:_=e36:=hk44;have h:=h36;rw [← q] at h;clear q;(try dsimp only at h);have hr:=Option.some.inj h;rw [← hr];refine ⟨_,(.tmp .nil),?_⟩;refine ⟨(.one rfl rfl .nil),[.val (.bool false)],[],by simp [Cat.cells,Fn.cells,UA,U1,IA,I1,LA,L1,BA,B1,EA,E1,E2,eB,eI,eL],by simp,(UpL.refl _)⟩
   have g50:¬ (¬ ((ix f_.ar (ix f_.s.id s44))=(ix f_.t.id (ix f_.ob s44)))):=gQ;clear g;replace h:=if_r g50 h;refine Qd ?_;refine bn ?_;refine tn ?_;refine runQ hN fun K hK=>?_;replace h:=Q5 h;obtain ⟨a51,h⟩:=h;simp [-Q0,-Q6,-Q1,-Q7,-Q2,Qs a51];(repeat refine sdQ ?_);refine hK _ ?_;clear hK K;cases h;exact rn (s':=s44+1) hk44 (wkQ8 [])
  have g45:¬ (s44<(f_.s.id.length:Int)):=gQ;clear g;replace h:=if_r g45 h;refine Qr ?_;refine tx ?_;refine lx ?_;refine bh ?_;cases h;exact jn (b:=()) hk44 (wkQ8 [])
 intro b36 hb36;have h:=h36;try rw [← hb36] at h
 clear h36;try dsimp only at h
 refine Q3 ?_;refine Q3 ?_;refine runQ hN fun K hK=>?_;simp [-Q0,-Q6,-Q1,-Q7,-Q2];repeat refine sdQ ?_
 refine hK _ ?_;clear hK K;refine tn ?_;refine Q8 (st':=⟨[(0,.rptr (Fn.cells true f_)),(4,.rptr [iV f_.t.n,lI f_.t.fr,lI f_.t.to,lI f_.t.id,.lst true 1 (Ls f_.t.cs),lI f_.ob,lI f_.ar]),(151,.lst true 1 (Ls f_.s.cs)),(152,iV (f_.s.cs.length:Int)),(153,iV 0)],[],0⟩) (wkQ8 []) ?_;replace h:=bind_some h;obtain ⟨e52,h,h52⟩:=h;refine Qk (fun b52:Unit=>⟨[],[],0⟩) (fun b52=>Sum.inl b52=e52) ?_ ?_
 ·refine Qa ?_;refine Qy h (fun s78:Int=>⟨[(0,.rptr (Fn.cells true f_)),(4,.rptr [iV f_.t.n,lI f_.t.fr,lI f_.t.to,lI f_.t.id,.lst true 1 (Ls f_.t.cs),lI f_.ob,lI f_.ar]),(151,.lst true 1 (Ls f_.s.cs)),(152,iV (f_.s.cs.length:Int)),(153,iV s78)],[],0⟩) (wkQ8 []) ?_;clear h;intro k78 s78 c78 h hk78;refine Q3 ?_;refine runQ hN fun K hK=>?_;simp [-Q0,-Q6,-Q1,-Q7,-Q2];repeat refine sdQ ?_
  refine hK _ ?_;clear hK K;refine tn ?_;refine Q8 (st':=⟨[(0,.rptr (Fn.cells true f_)),(4,.rptr [iV f_.t.n,lI f_.t.fr,lI f_.t.to,lI f_.t.id,.lst true 1 (Ls f_.t.cs),lI f_.ob,lI f_.ar]),(151,.lst true 1 (Ls f_.s.cs)),(152,iV (f_.s.cs.length:Int)),(153,iV s78),(154,.val (.bool (decide (s78<(f_.s.cs.length:Int)))))],[],0⟩) (wkQ8 []) ?_;refine Q3 ?_;refine Qc rfl (fun g=>?_) fun g=>?_
  ·have g79:s78<(f_.s.cs.length:Int):=gQ;clear g;replace h:=if_l g79 h;refine Qd ?_;refine tn ?_;refine Q3 ?_;replace h:=bind_some h;obtain ⟨e80,h,h80⟩:=h;refine Qk (fun b80:Unit=>⟨[(0,.rptr (Fn.cells true f_)),(4,.rptr [iV f_.t.n,lI f_.t.fr,lI f_.t.to,lI f_.t.id,.lst true 1 (Ls f_.t.cs),lI f_.ob,lI f_.ar]),(151,.lst true 1 (Ls f_.s.cs)),(152,iV (f_.s.cs.length:Int)),(153,iV s78)],[],0⟩) (fun b80=>Sum.inl b80=e80) ?_ ?_
   ·refine Qa ?_;refine Q3 ?_;refine runQ hN fun K hK=>?_;replace h:=Q5 h;obtain ⟨a81,h⟩:=h;simp [-Q0,-Q6,-Q1,-Q7,-Q2,at_L a81];(repeat refine sdQ ?_);refine hK _ ?_;clear hK K;refine tn ?_;refine Q8 (st':=⟨[(0,.rptr (Fn.cells true f_)),(4,.rptr [iV f_.t.n,lI f_.t.fr,lI f_.t.to,lI f_.t.id,.lst true 1 (Ls f_.t.cs),lI f_.ob,lI f_.ar]),(9,iV s78),(10,lI (rx f_.s.cs s78)),(151,.lst true 1 (Ls f_.s.cs)),(152,iV (f_.s.cs.length:Int)),(153,iV s78)],[],0⟩) (wkQ8 []) ?_;refine Q3 ?_;refine runQ hN fun K hK=>?_;simp [-Q0,-Q6,-Q1,-Q7,-Q2];(repeat refine sdQ ?_);refine hK _ ?_;clear hK K;refine tn ?_;refine Q8 (st':=⟨[(0,.rptr (Fn.cells true f_)),(4,.rptr [iV f_.t.n,lI f_.t.fr,lI f_.t.to,lI f_.t.id,.lst true 1 (Ls f_.t.cs),lI f_.ob,lI f_.ar]),(9,iV s78),(151,.lst true 1 (Ls f_.s.cs)),(152,iV (f_.s.cs.length:Int)),(153,iV s78),(158,lI (rx f_.s.cs s78)),(159,iV ((rx f_.s.cs s78).length:Int)),(160,iV 0)],[],0⟩) (wkQ8 []) ?_;refine Qa ?_;replace h:=bind_some h;obtain ⟨e92,he92,h92⟩:=h;refine Qy he92 (fun s92:Int=>⟨[(0,.rptr (Fn.cells true f_)),(4,.rptr [iV f_.t.n,lI f_.t.fr,lI f_.t.to,lI f_.t.id,.lst true 1 (Ls f_.t.cs),lI f_.ob,lI f_.ar]),(9,iV s78),(151,.lst true 1 (Ls f_.s.cs)),(152,iV (f_.s.cs.length:Int)),(153,iV s78),(158,lI (rx f_.s.cs s78)),(159,iV ((rx f_.s.cs s78).length:Int)),(160,iV s92)],[],0⟩) (wkQ8 []) ?_;intro k92 s92 c92 h hk92;refine Q3 ?_;refine runQ hN fun K hK=>?_;simp [-Q0,-Q6,-Q1,-Q7,-Q2];(repeat refine sdQ ?_);refine hK _ ?_;clear hK K;refine tn ?_;refine Q8 (st':=⟨[(0,.rptr (Fn.cells true f_)),(4,.rptr [iV f_.t.n,lI f_.t.fr,lI f_.t.to,lI f_.t.id,.lst true 1 (Ls f_.t.cs),lI f_.ob,lI f_.ar]),(9,iV s78),(151,.lst true 1 (Ls f_.s.cs)),(152,iV (f_.s.cs.length:Int)),(153,iV s78),(158,lI (rx f_.s.cs s78)),(159,iV ((rx f_.s.cs s78).length:Int)),(160,iV s92),(161,.val (.bool (decide (s92<((rx f_.s.cs s78).length:Int)))))],[],0⟩) (wkQ8 []) ?_;refine Q3 ?_;refine Qc rfl (fun g=>?_) fun g=>?_
    ·have g93:s92<((rx f_.s.cs s78).length:Int):=gQ;clear g;replace h:=if_l g93 h;refine Qd ?_;refine tn ?_;refine Q3 ?_;refine Qa ?_;refine Q3 ?_;refine runQ hN fun K hK=>?_;replace h:=Q5 h;obtain ⟨a94,h⟩:=h;simp [-Q0,-Q6,-Q1,-Q7,-Q2,at_I a94];(repeat refine sdQ ?_);refine hK _ ?_;clear hK K;refine tn ?_;refine Q8 (st':=⟨[(0,.rptr (Fn.cells true f_)),(4,.rptr [iV f_.t.n,lI f_.t.fr,lI f_.t.to,lI f_.t.id,.lst true 1 (Ls f_.t.cs),lI f_.ob,lI f_.ar]),(9,iV s78),(11,iV s92),(12,iV (ix (rx f_.s.cs s78) s92)),(151,.lst true 1 (Ls f_.s.cs)),(152,iV (f_.s.cs.length:Int)),(153,iV s78),(158,lI (rx f_.s.cs s78)),(159,iV ((rx f_.s.cs s78).length:Int)),(160,iV s92)],[],0⟩) (wkQ8 []) ?_;refine Q3 ?_;replace h:=bind_some h;obtain ⟨e95,h,h95⟩:=h;refine Qk (fun b95:Bool=>⟨[(0,.rptr (Fn.cells true f_)),(4,.rptr [iV f_.t.n,lI f_.t.fr,lI f_.t.to,lI f_.t.id,.lst true 1 (Ls f_.t.cs),lI f_.ob,lI f_.ar]),(9,iV s78),(151,.lst true 1 (Ls f_.s.cs)),(152,iV (f_.s.cs.length:Int)),(153,iV s78),(158,lI (rx f_.s.cs s78)),(159,iV ((rx f_.s.cs s78).length:Int)),(160,iV s92),(192,.val (.bool b95))],[],0⟩) (fun b95=>b95=e95) ?_ ?_
     ·refine runQ hN fun K hK=>?_;simp [-Q0,-Q6,-Q1,-Q7,-Q2];(repeat with_reducible refine sdQ ?_);refine Qq (fun g=>?_) (fun g=>?_)
      ·have g96:(ix (rx f_.s.cs s78) s92) ≥ 0:=gQ;clear g;replace h:=if_l g96 h;replace h:=Q5 h;obtain ⟨a97,h⟩:=h;replace h:=Q5 h;obtain ⟨a98,h⟩:=h;replace h:=Q5 h;obtain ⟨a99,h⟩:=h;simp [-Q0,-Q6,-Q1,-Q7,-Q2,at_I a97,at_I a98,at_I a99];(repeat with_reducible refine sdQ ?_);replace h:=bind_some h;obtain ⟨v100,hv100,h⟩:=h;refine Q4 (Q1E _ _ _ v100 hv100) (.cons (.preT (by simp [Cat.cells,Fn.cells])) (.cons .val (.cons .val .nil))) ?_;simp [-Q0,-Q6,-Q1,-Q7,-Q2,unk,unA,unE,unT,unC,flat,at_I a97,at_I a98,at_I a99];(repeat refine sdQ ?_);refine hK _ ?_;exact jn (b:=(ix f_.ar (ix (rx f_.s.cs s78) s92)) != v100) (Option.some.inj h) (wkQ8 [])
      have g96:¬ ((ix (rx f_.s.cs s78) s92) ≥ 0):=gQ;clear g;replace h:=if_r g96 h;simp [-Q0,-Q6,-Q1,-Q7,-Q2];(repeat refine sdQ ?_);refine hK _ ?_;exact jn (b:=false) (Option.some.inj h) (wkQ8 [])
     intro b95 hb95;have h:=h95;(try rw [← hb95] at h);clear h95;(try dsimp only at h);refine Qc rfl (fun g=>?_) fun g=>?_
     ·have g101:b95=true:=gQ;clear g;replace h:=if_l g101 h;refine Q3 ?_;refine runQ hN fun K hK=>?_;simp [-Q0,-Q6,-Q1,-Q7,-Q2];(repeat refine sdQ ?_);refine hK _ ?_;clear hK K;refine tn ?_;refine Q8 (st':=⟨[(2,.val (.bool false))],[],0⟩) (wkQ8 []) ?_;refine Qi ?_;refine br ?_;refine tr ?_;refine lr ?_;refine br ?_;refine br ?_;refine tr ?_;refine lr ?_;refine br ?_;refine tr ?_;cases h;have q:_=e92:=hk92;have h:=h92;rw [← q] at h;clear q;(try dsimp only at h);cases h;have h:=h80;(try dsimp only at h);cases h;have q:_=e52:=hk78;have h:=h52;rw [← q] at h;clear q;(try dsimp only at h);have hr:=Option.some.inj h;rw [← hr];refine ⟨_,(.tmp .nil),?_⟩;refine ⟨(.one rfl rfl .nil),[.val (.bool false)],[],by simp [Cat.cells,Fn.cells,UA,U1,IA,I1,LA,L1,BA,B1,EA,E1,E2,eB,eI,eL],by simp,(UpL.refl _)⟩
     have g101:¬ (b95=true):=gQ;clear g;replace h:=if_r g101 h;refine Qd ?_;refine bn ?_;refine tn ?_;refine runQ hN fun K hK=>?_;replace h:=Q5 h;obtain ⟨a102,h⟩:=h;simp [-Q0,-Q6,-Q1,-Q7,-Q2,Qs a102];(repeat refine sdQ ?_);refine hK _ ?_;clear hK K;cases h;exact rn (s':=s92+1) hk92 (wkQ8 [])
    have g93:¬ (s92<((rx f_.s.cs s78).length:Int)):=gQ;clear g;replace h:=if_r g93 h;refine Qr ?_;refine tx ?_;refine lx ?_;refine bh ?_;refine bn ?_;cases h;have q:_=e92:=hk92;have h:=h92;rw [← q] at h;clear q;(try dsimp only at h);exact jn (b:=()) (Option.some.inj h) (wkQ8 [])
   intro b80 hb80;have h:=h80;(try rw [← hb80] at h);clear h80;(try dsimp only at h);refine runQ hN fun K hK=>?_;replace h:=Q5 h;obtain ⟨a103,h⟩:=h;simp [-Q0,-Q6,-Q1,-Q7,-Q2,Qs a103];(repeat refine sdQ ?_);refine hK _ ?_;clear hK K;cases h;exact rn (s':=s78+1) hk78 (wkQ8 [])
  have g79:¬ (s78<(f_.s.cs.length:Int)):=gQ;clear g;replace h:=if_r g79 h;refine Qr ?_;refine tx ?_;refine lx ?_;refine bh ?_;cases h;exact jn (b:=()) hk78 (wkQ8 [])
 intro b52 hb52;have h:=h52;try rw [← hb52] at h
 clear h52;try dsimp only at h
 refine Q3 ?_;refine runQ hN fun K hK=>?_;simp [-Q0,-Q6,-Q1,-Q7,-Q2];repeat refine sdQ ?_
 refine hK _ ?_;clear hK K;refine tn ?_;refine Q8 (st':=⟨[(2,.val (.bool true))],[],0⟩) (wkQ8 []) ?_;refine Qi ?_;have hr:=Option.some.inj h;rw [← hr];refine ⟨_,(.tmp .nil),?_⟩;refine ⟨(.one rfl rfl .nil),[.val (.bool true)],[],by simp [Cat.cells,Fn.cells,UA,U1,IA,I1,LA,L1,BA,B1,EA,E1,E2,eB,eI,eL],by simp,(UpL.refl _)⟩
attribute [local simp] eL eI Qu QM Cat.cells
noncomputable def QY (list_:List Cat):Option Bool :=
 (QA (σ:=Int) (ε:=Unit ⊕ Bool) (fun s7 =>
  if s7<(list_.length:Int) then
   ass (0≤s7∧s7<(list_.length:Int)) <|
   (QD (gx list_ s7)).bind fun v10 =>
   if ¬ (v10=true) then
    some (Ctl.ret (Sum.inr false))
   else
    ass (B64 (s7+1)) <|
    some (Ctl.next (s7+1))
  else
   some (Ctl.ret (Sum.inl ()))) fuel 0).bind fun e1 =>
 match e1 with
 | .inl b1 =>
  some true
 | .inr p1 =>
  some p1
theorem Q46 (list_:List Cat) (r:Bool) (h:QY list_=some r):Contract Try.prog 125 [.lst true 1 (Es QM list_)] (.val (.bool r)):=by
 refine Qe (rvs:=[.tmp 2]) (rs:=[.val (.bool r)]) Try.func125 rfl rfl rfl rfl (by simp [Try.f125]) fun F hN hP=>?_;unfold QY at h;refine Q3 ?_;refine runQ hN fun K hK=>?_;simp [-Q0,-Q6,-Q1,-Q7,-Q2];repeat refine sdQ ?_
 refine hK _ ?_;clear hK K;refine tn ?_;refine Q8 (st':=⟨[(0,.lst true 1 (Es QM list_))],[],0⟩) (wkQ8 []) ?_;refine Q3 ?_;refine Q3 ?_;refine runQ hN fun K hK=>?_;simp [-Q0,-Q6,-Q1,-Q7,-Q2];repeat refine sdQ ?_
 refine hK _ ?_;clear hK K;refine tn ?_;refine Q8 (st':=⟨[(5,.lst true 1 (Es QM list_)),(6,iV (list_.length:Int)),(7,iV 0)],[],0⟩) (wkQ8 []) ?_;replace h:=bind_some h;obtain ⟨e1,h,h1⟩:=h;refine Qk (fun b1:Unit=>⟨[],[],0⟩) (fun b1=>Sum.inl b1=e1) ?_ ?_
 ·refine Qa ?_;refine Qy h (fun s7:Int=>⟨[(5,.lst true 1 (Es QM list_)),(6,iV (list_.length:Int)),(7,iV s7)],[],0⟩) (wkQ8 []) ?_;clear h;intro k7 s7 c7 h hk7;refine Q3 ?_;refine runQ hN fun K hK=>?_;simp [-Q0,-Q6,-Q1,-Q7,-Q2];repeat refine sdQ ?_
  refine hK _ ?_;clear hK K;refine tn ?_;refine Q8 (st':=⟨[(5,.lst true 1 (Es QM list_)),(6,iV (list_.length:Int)),(7,iV s7),(8,.val (.bool (decide (s7<(list_.length:Int)))))],[],0⟩) (wkQ8 []) ?_;refine Q3 ?_;refine Qc rfl (fun g=>?_) fun g=>?_
  ·have g8:s7<(list_.length:Int):=gQ;clear g;replace h:=if_l g8 h;refine Qd ?_;refine tn ?_;refine Q3 ?_;refine Qa ?_;refine Q3 ?_;refine runQ hN fun K hK=>?_;replace h:=Q5 h;obtain ⟨a9,h⟩:=h;simp [-Q0,-Q6,-Q1,-Q7,-Q2,at_E (c:=QM) a9];(repeat refine sdQ ?_);refine hK _ ?_;clear hK K;refine tn ?_;refine Q8 (st':=⟨[(4,.rptr (Cat.cells true (gx list_ s7))),(5,.lst true 1 (Es QM list_)),(6,iV (list_.length:Int)),(7,iV s7)],[],0⟩) (wkQ8 []) ?_;refine Q3 ?_;refine runQ hN fun K hK=>?_;simp [-Q0,-Q6,-Q1,-Q7,-Q2];(repeat with_reducible refine sdQ ?_);replace h:=bind_some h;obtain ⟨v10,hv10,h⟩:=h;refine Q4 (Q2Q _ v10 hv10) (.cons (.preT (by simp [Cat.cells])) .nil) ?_;simp [-Q0,-Q6,-Q1,-Q7,-Q2,unk,unA,unE,unT,unC,flat];(repeat refine sdQ ?_);refine hK _ ?_;clear hK K;refine tn ?_;refine Q8 (st':=⟨[(5,.lst true 1 (Es QM list_)),(6,iV (list_.length:Int)),(7,iV s7),(13,.val (.bool (!v10)))],[],0⟩) (wkQ8 []) ?_;refine Qc rfl (fun g=>?_) fun g=>?_
   ·have g11:¬ (v10=true):=gQ;clear g;replace h:=if_l g11 h;refine Q3 ?_;refine runQ hN fun K hK=>?_;simp [-Q0,-Q6,-Q1,-Q7,-Q2];(repeat refine sdQ ?_);refine hK _ ?_;clear hK K;refine tn ?_;refine Q8 (st':=⟨[(2,.val (.bool false))],[],0⟩) (wkQ8 []) ?_;refine Qi ?_;refine br ?_;refine tr ?_;refine lr ?_;refine br ?_;refine tr ?_;cases h;have q:_=e1:=hk7;have h:=h1;rw [← q] at h;clear q;(try dsimp only at h);have hr:=Option.some.inj h;rw [← hr];refine ⟨_,(.tmp .nil),?_⟩;refine ⟨(.one rfl rfl .nil),[.val (.bool false)],[],by simp [Cat.cells,UA,U1,IA,I1,LA,L1,BA,B1,EA,E1,E2,eB,eI,eL],by simp,(UpL.refl _)⟩
   have g11:¬ (¬ (v10=true)):=gQ;clear g;replace h:=if_r g11 h;refine Qd ?_;refine bn ?_;refine tn ?_;refine runQ hN fun K hK=>?_;replace h:=Q5 h;obtain ⟨a12,h⟩:=h;simp [-Q0,-Q6,-Q1,-Q7,-Q2,Qs a12];(repeat refine sdQ ?_);refine hK _ ?_;clear hK K;cases h;exact rn (s':=s7+1) hk7 (wkQ8 [])
  have g8:¬ (s7<(list_.length:Int)):=gQ;clear g;replace h:=if_r g8 h;refine Qr ?_;refine tx ?_;refine lx ?_;refine bh ?_;cases h;exact jn (b:=()) hk7 (wkQ8 [])
 intro b1 hb1;have h:=h1;try rw [← hb1] at h
 clear h1;try dsimp only at h
 refine Q3 ?_;refine runQ hN fun K hK=>?_;simp [-Q0,-Q6,-Q1,-Q7,-Q2];repeat refine sdQ ?_
 refine hK _ ?_;clear hK K;refine tn ?_;refine Q8 (st':=⟨[(2,.val (.bool true))],[],0⟩) (wkQ8 []) ?_;refine Qi ?_;have hr:=Option.some.inj h;rw [← hr];refine ⟨_,(.tmp .nil),?_⟩;refine ⟨(.one rfl rfl .nil),[.val (.bool true)],[],by simp [Cat.cells,UA,U1,IA,I1,LA,L1,BA,B1,EA,E1,E2,eB,eI,eL],by simp,(UpL.refl _)⟩
attribute [local simp] eL eI Qu QM Q28 Cat.cells Fn.cells
noncomputable def QG (f_:Fn):Option Bool :=
 (
  (QY [f_.s,f_.t]).bind fun v2 =>
  if v2=true then
   (Q13 f_).bind fun v4 =>
   some v4
  else
   some false:Option (Bool)).bind fun b1 =>
 some b1
theorem Q39 (f_:Fn) (r:Bool) (h:QG f_=some r):Contract Try.prog 82 [.rptr (f_.cells true)] (.val (.bool r)):=by
 refine Qe (rvs:=[.tmp 2]) (rs:=[.val (.bool r)]) Try.func82 rfl rfl rfl rfl (by simp [Try.f82]) fun F hN hP=>?_;unfold QG at h;refine Q3 ?_;refine runQ hN fun K hK=>?_;simp [-Q0,-Q6,-Q1,-Q7,-Q2];repeat refine sdQ ?_
 refine hK _ ?_;clear hK K;refine tn ?_;refine Q8 (st':=⟨[(0,.rptr (Fn.cells true f_))],[],0⟩) (wkQ8 []) ?_;refine Q3 ?_;replace h:=bind_some h;obtain ⟨e1,h,h1⟩:=h;refine Qk (fun b1:Bool=>⟨[(2,.val (.bool b1))],[],0⟩) (fun b1=>b1=e1) ?_ ?_
 ·refine runQ hN fun K hK=>?_;simp [-Q0,-Q6,-Q1,-Q7,-Q2];repeat with_reducible refine sdQ ?_
  replace h:=bind_some h;obtain ⟨v2,hv2,h⟩:=h;refine Q4 (Q46 _ v2 hv2) (.cons (.lits (es:=_) rfl (.cons rfl (.cons (.preT (by simp [Cat.cells,Fn.cells])) .nil) (.cons rfl (.cons (.preT (by simp [Cat.cells,Fn.cells])) .nil) .nil)) rfl) .nil) ?_;simp [-Q0,-Q6,-Q1,-Q7,-Q2,unk,unA,unE,unT,unC,flat];repeat with_reducible refine sdQ ?_
  refine Qq (fun g=>?_) (fun g=>?_)
  ·have g3:v2=true:=gQ;clear g;replace h:=if_l g3 h;simp [-Q0,-Q6,-Q1,-Q7,-Q2];(repeat with_reducible refine sdQ ?_);replace h:=bind_some h;obtain ⟨v4,hv4,h⟩:=h;refine Q4 (Q4s _ v4 hv4) (.cons (.preT (by simp [Cat.cells,Fn.cells])) .nil) ?_;simp [-Q0,-Q6,-Q1,-Q7,-Q2,unk,unA,unE,unT,unC,flat];(repeat refine sdQ ?_);refine hK _ ?_;exact jn (b:=v4) (Option.some.inj h) (wkQ8 [])
  have g3:¬ (v2=true):=gQ;clear g;replace h:=if_r g3 h;simp [-Q0,-Q6,-Q1,-Q7,-Q2];repeat refine sdQ ?_
  refine hK _ ?_;exact jn (b:=false) (Option.some.inj h) (wkQ8 [])
 intro b1 hb1;have h:=h1;try rw [← hb1] at h
 clear h1;try dsimp only at h
 refine Qi ?_;have hr:=Option.some.inj h;rw [← hr];refine ⟨_,(.tmp .nil),?_⟩;refine ⟨(.one rfl rfl .nil),[.val (.bool b1)],[],by simp [Cat.cells,Fn.cells,UA,U1,IA,I1,LA,L1,BA,B1,EA,E1,E2,eB,eI,eL],by simp,(UpL.refl _)⟩
noncomputable def Q2N (c_:Cat) (f_:Int) (g_:Int):Option Int :=
 ass (0≤f_∧f_<(c_.cs.length:Int)) <|
 ass (0≤g_∧g_<((rx c_.cs f_).length:Int)) <|
 some (ix (rx c_.cs f_) g_)
structure Para (f g:Fn):Prop where
 hf:f.Is
 hg:g.Is
 s:f.s=g.s
 t:f.t=g.t
theorem e_l02Then {c:Cat} {f g:Int} (h0:0≤f∧f<(c.cs.length:Int)) (h1:0≤g∧g<((rx c.cs f).length:Int)):Q2N c f g=some (ix (rx c.cs f) g):=by
 unfold Q2N;rw [Q9 h0,Q9 h1]
theorem Q6M {c:Cat} {f g:Int} (h0:0≤f∧f<(c.cs.length:Int)) (h1:0≤g∧g<((rx c.cs f).length:Int)):Qv c f g=some (ix (rx c.cs f) g):=by
 unfold Qv;rw [Q9 h0.1,Q9 h0.2,Q9 h1.1,Q9 h1.2]
theorem e_fits {f:Fn} (h1:f.s.Is) (h2:f.t.Is):Q13 f=some (bo f.Is):=by
 have hs:=h1.1;have ht:=h2.1;have k0:=hs.n0;have k1:=hs.n8;have k2:=hs.m40;have k3:=hs.li;have k4:=hs.lt;have k5:=hs.lc;have k6:=ht.li;have k7:=ht.lt;have k8:=ht.lc;have k9:=ht.m40;have k10:=ht.n0;have k11:=ht.n8;have b1:B64 (f.t.n - 1):=⟨by omega,by omega⟩;have b2:B64 ((f.t.fr.length:Int) - 1):=⟨by omega,by omega⟩;unfold Q13
 by_cases h3:(f.ob.length:Int)=f.s.n
 case neg=>rw [QO (show ¬ f.Is from fun q=>h3 q.lo)];simp [h3]
 by_cases h4:(f.ar.length:Int)=f.s.fr.length
 case neg=>rw [QO (show ¬ f.Is from fun q=>h4 (by rw [q.la]))];simp [Qx,h3,h4]
 by_cases h5:f.ob.all (inR f.t.n)=true
 case neg=>rw [QO (show ¬ f.Is from fun q=>h5 (all_inR.2 q.ob))];simp [Qx,Q1C,Q9 b1,h3,h4,h5]
 by_cases h6:f.ar.all (inR f.t.fr.length)=true
 case neg=>rw [QO (show ¬ f.Is from fun q=>h6 (all_inR.2 q.ar))];simp [Qx,Q1C,Q9 b1,Q9 b2,h3,h4,h5,h6]
 have ho:=all_inR.1 h5;have ha:=all_inR.1 h6;simp only [Qx,Q1C,Q9 b1,Q9 b2,h3,h4,h5,h6,Option.bind_some,if_true,if_false,not_true_eq_false,Bool.not_true,Bool.false_eq_true];refine Q1t f.s.fr.length (fun a:Nat=>ix f.t.fr (ix f.ar a)=ix f.ob (ix f.s.fr a)∧ix f.t.to (ix f.ar a)=ix f.ob (ix f.s.to a)) (eb:=Sum.inr false) (eg:=Sum.inl ()) (by omega) (fun a hi hp=>?_) (fun a hi hp=>?_) (by simp) (fun hx=>?_) fun q1=>?_
 ·have:=hs.frn hi;have:=ha a (by omega);simp (disch:=omega) [Q9,B64,hp.1,hp.2,hi]
 ·have:=hs.frn hi;have:=ha a (by omega)
  by_cases hp1:ix f.t.fr (ix f.ar a)=ix f.ob (ix f.s.fr a)
  ·have hp2:¬ ix f.t.to (ix f.ar a)=ix f.ob (ix f.s.to a):=fun h=>hp ⟨hp1,h⟩;simp (disch:=omega) [Q9,B64,hp1,hp2,hi]
  simp (disch:=omega) [Q9,B64,hp1,hi]
 ·rw [QO (show ¬ f.Is from fun q=>hx q.ends)]
 simp only;refine Q1t f.s.id.length (fun x:Nat=>ix f.ar (ix f.s.id x)=ix f.t.id (ix f.ob x)) (eb:=Sum.inr false) (eg:=Sum.inl ()) (by omega) (fun a hi hp=>?_) (fun a hi hp=>?_) (by simp) (fun hx=>?_) fun q2=>?_
 ·have:=hs.idn hi;have:=ho a (by omega);simp (disch:=omega) [Q9,B64,hp,hi]
 ·have:=hs.idn hi;have:=ho a (by omega);simp (disch:=omega) [Q9,B64,hp,hi]
 ·rw [QO (show ¬ f.Is from fun q=>hx q.ids)]
 simp only;refine Q1t f.s.fr.length (fun a:Nat=>∀ b:Nat,b<f.s.fr.length→ix f.s.to a=ix f.s.fr b→ix f.ar (ix (rx f.s.cs a) b)=ix (rx f.t.cs (ix f.ar a)) (ix f.ar b)) (eb:=Sum.inr false) (eg:=Sum.inl ()) (by omega) (fun a hi hp=>?_) (fun a hi hp=>?_) (by simp;omega) (fun hx=>?_) fun q3=>?_;rotate_left 2
 ·rw [QO (show ¬ f.Is from fun q=>hx q.comp)]
 ·rw [Q1s (show f.Is from ⟨h1,h2,h3,by omega,ho,ha,q1,q2,q3⟩)]
 all_goals
  have h8:=ha a (by omega);have h11:=hs.row' (j:=a) (by omega) (by omega);have h12:=ht.row' (j:=ix f.ar a) (by omega) (by omega);rw [if_pos (by omega),Q9 (by omega),Option.bind_assoc];refine Q1t f.s.fr.length (fun b:Nat=>ix f.s.to a=ix f.s.fr b→ix f.ar (ix (rx f.s.cs a) b)=ix (rx f.t.cs (ix f.ar a)) (ix f.ar b)) (eb:=Sum.inl false) (eg:=Sum.inr ()) (by omega) (fun b hb hq=>?_) (fun b hb hq=>?_) ?_ (fun hn=>?_) fun hn=>?_
 all_goals first
  | exact absurd hp hn
  | exact absurd hn hp
  | (simp (disch:=omega) [Q9,B64,h11];done)
  | skip
 all_goals
  have h13:=ha b (by omega);have h16:=hs.cell' (f:=a) (g:=b) (by omega) (by omega) (by omega) (by omega)
  by_cases h14:ix f.s.to a=ix f.s.fr b
  ·have h15:=hs.cmp (f:=a) (g:=b) (by omega) (by omega) (by omega) (by omega) h14;have h17:ix (rx f.s.cs a) b ≥ 0:=h15.1;first
    | (have hq1:=hq h14;simp (disch:=omega) [Q9,B64,Q6M,h14,hq1,hb,h11,h17];done)
    | (have hq1:=fun e=>hq (fun _=>e);simp (disch:=omega) [Q9,B64,Q6M,h14,hq1,hb,h11,h17];exact hq1)
  have h17:=h16.1 h14;first
   | (simp (disch:=omega) [Q9,B64,h14,hb,h11,h17];done)
   | exact absurd (fun e=>absurd e h14) hq
theorem gx_nat {α:Type} [Inhabited α] (xs:List α) {i:Nat} (h:i<xs.length):gx xs i=xs[i]:=by simp [gx,List.getD_eq_getElem?_getD,h]
theorem e_areCats (cs:List Cat) (hl:cs.length≤1048576):QY cs=some (bo (∀ c∈cs,c.Is)):=by
 unfold QY;refine Q1t cs.length (fun i:Nat=>(gx cs i).Is) (eb:=Sum.inr false) (eg:=Sum.inl ()) (by omega) (fun a hi hp=>?_) (fun a hi hp=>?_) (by simp) (fun hx=>?_) fun q1=>?_
 ·simp (disch:=omega) [Q9,B64,QD,Q1s hp,hi]
 ·simp (disch:=omega) [Q9,B64,QD,QO hp,hi]
 ·rw [QO (show ¬ ∀ c∈cs,c.Is from fun q=>hx fun i hi=>q _ (by rw [gx_nat _ hi];exact List.getElem_mem hi))]
 rw [Q1s (show ∀ c∈cs,c.Is from fun c hc=>by obtain ⟨i,hi,rfl⟩:=List.getElem_of_mem hc;have:=q1 i hi;rwa [gx_nat _ hi] at this)]
theorem Q6O (f:Fn):QG f=some (bo f.Is):=by
 unfold QG;rw [e_areCats _ (by simp)]
 by_cases h:f.s.Is∧f.t.Is
 ·rw [Q1s (show ∀ c∈[f.s,f.t],c.Is by simpa using h)];simp [e_fits h.1 h.2]
 rw [QO (show ¬ ∀ c∈[f.s,f.t],c.Is by simpa using h),QO (show ¬ f.Is from fun q=>h ⟨q.s,q.t⟩)];simp
def tab {α:Type} (n:Nat) (g:Nat→α):List α:=(List.range n).map g
@[simp] theorem tab_length {α:Type} (n:Nat) (g:Nat→α):(tab n g).length=n:=by simp [tab]
theorem Q5Q {α:Type} (n:Nat) (g:Nat→α):tab (n+1) g=tab n g++[g n]:=by simp [tab,List.range_succ]
theorem ix_tab (n:Nat) (g:Nat→Int) {i:Nat} (h:i<n):ix (tab n g) i=g i:=by
 rw [← Q1k _ _ (show i<(tab n g).length by simpa using h)];simp [tab]
attribute [local simp] eL eI Qu QM Cat.cells
noncomputable def QF (c_:Cat) (x_:Int) (y_:Int):Option (List Int) :=
 (QA (σ:=List Int × Int) (ε:=List Int) (fun s11 =>
  if s11.2<(c_.fr.length:Int) then
   (
    (
     ass (0≤s11.2∧s11.2<(c_.fr.length:Int)) <|
     if (ix c_.fr s11.2)=x_ then
      ass (0≤s11.2∧s11.2<(c_.to.length:Int)) <|
      some ((ix c_.to s11.2) == y_)
     else
      some false:Option (Bool)).bind fun b14 =>
    if b14=true then
     ass ((s11.1++[s11.2]).length≤1073741824) <|
     some (s11.1++[s11.2])
    else
     some s11.1:Option (List Int)).bind fun b13 =>
   ass (B64 (s11.2+1)) <|
   some (Ctl.next (b13,s11.2+1))
  else
   some (Ctl.ret s11.1)) fuel ([],0)).bind fun b1 =>
 some b1
theorem Q4r (c_:Cat) (x_:Int) (y_:Int) (r:List Int) (h:QF c_ x_ y_=some r):Contract Try.prog 103 [.rptr (c_.cells true),iV x_,iV y_] (lI r):=by
 refine Qe (rvs:=[.tmp 6]) (rs:=[lI r]) Try.func103 rfl rfl rfl rfl (by simp [Try.f103]) fun F hN hP=>?_;unfold QF at h;refine Q3 ?_;refine runQ hN fun K hK=>?_;simp [-Q0,-Q6,-Q1,-Q7,-Q2];repeat refine sdQ ?_
 refine hK _ ?_;clear hK K;refine tn ?_;refine Q8 (st':=⟨[(0,.rptr (Cat.cells true c_)),(1,iV x_),(2,iV y_)],[],0⟩) (wkQ8 []) ?_;refine Q3 ?_;refine runQ hN fun K hK=>?_;simp [-Q0,-Q6,-Q1,-Q7,-Q2];repeat refine sdQ ?_
 refine hK _ ?_;clear hK K;refine tn ?_;refine Q8 (st':=⟨[(0,.rptr (Cat.cells true c_)),(1,iV x_),(2,iV y_),(7,.own 0 0 0)],[(0,.mix 1 [])],1⟩) (wkQ8 [(0,0)]) ?_;refine Q3 ?_;refine Q3 ?_;refine runQ hN fun K hK=>?_;simp [-Q0,-Q6,-Q1,-Q7,-Q2];repeat refine sdQ ?_
 refine hK _ ?_;clear hK K;refine tn ?_;refine Q8 (st':=⟨[(0,.rptr (Cat.cells true c_)),(1,iV x_),(2,iV y_),(7,.own 0 0 0),(14,iV (c_.fr.length:Int)),(15,iV 0)],[(0,.mix 1 [])],1⟩) (wkQ8 [(0,0)]) ?_;replace h:=bind_some h;obtain ⟨e1,h,h1⟩:=h;refine Qk (fun b1:List Int=>⟨[(7,.own 0 0 b1.length)],[(0,rI b1)],1⟩) (fun b1=>b1=e1) ?_ ?_
 ·refine Qa ?_;refine Qy h (fun s11:List Int × Int=>⟨[(0,.rptr (Cat.cells true c_)),(1,iV x_),(2,iV y_),(7,.own 0 0 s11.1.length),(14,iV (c_.fr.length:Int)),(15,iV s11.2)],[(0,rI s11.1)],1⟩) (Q3b ⟨[(0,.rptr (Cat.cells true c_)),(1,iV x_),(2,iV y_),(7,.own 0 0 0),(14,iV (c_.fr.length:Int)),(15,iV 0)],[(0,rI [])],1⟩ (Wk.nils [] (by simp) (by simp) (by simp [nlA]) (by simp [entN,nlL,nlA,Cat.cells,UA,U1,IA,I1,LA,L1,BA,B1,EA,E1,E2,eB,eI,eL]) (by simp)) (wkQ8 [(0,0)])) ?_;clear h;intro k11 s11 c11 h hk11;refine Q3 ?_;refine runQ hN fun K hK=>?_;simp [-Q0,-Q6,-Q1,-Q7,-Q2];repeat refine sdQ ?_
  refine hK _ ?_;clear hK K;refine tn ?_;refine Q8 (st':=⟨[(0,.rptr (Cat.cells true c_)),(1,iV x_),(2,iV y_),(7,.own 0 0 s11.1.length),(14,iV (c_.fr.length:Int)),(15,iV s11.2),(16,.val (.bool (decide (s11.2<(c_.fr.length:Int)))))],[(0,rI s11.1)],1⟩) (wkQ8 [(0,0)]) ?_;refine Q3 ?_;refine Qc rfl (fun g=>?_) fun g=>?_
  ·have g12:s11.2<(c_.fr.length:Int):=gQ;clear g;replace h:=if_l g12 h;refine Qd ?_;refine tn ?_;refine Q3 ?_;replace h:=bind_some h;obtain ⟨e13,h,h13⟩:=h;refine Qk (fun b13:List Int=>⟨[(0,.rptr (Cat.cells true c_)),(1,iV x_),(2,iV y_),(7,.own 0 0 b13.length),(14,iV (c_.fr.length:Int)),(15,iV s11.2)],[(0,rI b13)],1⟩) (fun b13=>b13=e13) ?_ ?_
   ·refine Qa ?_;refine Q3 ?_;refine runQ hN fun K hK=>?_;simp [-Q0,-Q6,-Q1,-Q7,-Q2];(repeat refine sdQ ?_);refine hK _ ?_;clear hK K;refine tn ?_;refine Q8 (st':=⟨[(0,.rptr (Cat.cells true c_)),(1,iV x_),(2,iV y_),(7,.own 0 0 s11.1.length),(8,iV s11.2),(14,iV (c_.fr.length:Int)),(15,iV s11.2)],[(0,rI s11.1)],1⟩) (wkQ8 [(0,0)]) ?_;refine Q3 ?_;replace h:=bind_some h;obtain ⟨e14,h,h14⟩:=h;refine Qk (fun b14:Bool=>⟨[(0,.rptr (Cat.cells true c_)),(1,iV x_),(2,iV y_),(7,.own 0 0 s11.1.length),(8,iV s11.2),(14,iV (c_.fr.length:Int)),(15,iV s11.2),(37,.val (.bool b14))],[(0,rI s11.1)],1⟩) (fun b14=>b14=e14) ?_ ?_
    ·refine runQ hN fun K hK=>?_;replace h:=Q5 h;obtain ⟨a15,h⟩:=h;simp [-Q0,-Q6,-Q1,-Q7,-Q2,at_I a15];(repeat with_reducible refine sdQ ?_);refine Qq (fun g=>?_) (fun g=>?_)
     ·have g16:(ix c_.fr s11.2)=x_:=gQ;clear g;replace h:=if_l g16 h;replace h:=Q5 h;obtain ⟨a17,h⟩:=h;simp [-Q0,-Q6,-Q1,-Q7,-Q2,at_I a15,at_I a17];(repeat refine sdQ ?_);refine hK _ ?_;exact jn (b:=(ix c_.to s11.2) == y_) (Option.some.inj h) (wkQ8 [(0,0)])
     have g16:¬ ((ix c_.fr s11.2)=x_):=gQ;clear g;replace h:=if_r g16 h;simp [-Q0,-Q6,-Q1,-Q7,-Q2,at_I a15];(repeat refine sdQ ?_);refine hK _ ?_;exact jn (b:=false) (Option.some.inj h) (wkQ8 [(0,0)])
    intro b14 hb14;have h:=h14;(try rw [← hb14] at h);clear h14;(try dsimp only at h);refine Qc rfl (fun g=>?_) fun g=>?_
    ·have g18:b14=true:=gQ;clear g;replace h:=if_l g18 h;refine runQ hN fun K hK=>?_;replace h:=Q5 h;obtain ⟨a19,h⟩:=h;(try simp only [List.length_append,List.length_cons,List.length_nil] at a19);simp [-Q0,-Q6,-Q1,-Q7,-Q2,a19];(repeat refine sdQ ?_);refine hK _ ?_;clear hK K;refine bn ?_;exact jn (b:=s11.1++[s11.2]) (Option.some.inj h) (wkQ8 [(2,0)])
    have g18:¬ (b14=true):=gQ;clear g;replace h:=if_r g18 h;refine Qd ?_;refine bn ?_;exact jn (b:=s11.1) (Option.some.inj h) (wkQ8 [(0,0)])
   intro b13 hb13;have h:=h13;(try rw [← hb13] at h);clear h13;(try dsimp only at h);refine runQ hN fun K hK=>?_;replace h:=Q5 h;obtain ⟨a20,h⟩:=h;simp [-Q0,-Q6,-Q1,-Q7,-Q2,Qs a20];(repeat refine sdQ ?_);refine hK _ ?_;clear hK K;cases h;exact rn (s':=(b13,s11.2+1)) hk11 (wkQ8 [(0,0)])
  have g12:¬ (s11.2<(c_.fr.length:Int)):=gQ;clear g;replace h:=if_r g12 h;refine Qr ?_;refine tx ?_;refine lx ?_;refine bh ?_;cases h;exact jn (b:=s11.1) hk11 (wkQ8 [(0,0)])
 intro b1 hb1;have h:=h1;try rw [← hb1] at h
 clear h1;try dsimp only at h
 refine Q3 ?_;refine runQ hN fun K hK=>?_;simp [-Q0,-Q6,-Q1,-Q7,-Q2];repeat refine sdQ ?_
 refine hK _ ?_;clear hK K;refine tn ?_;refine Q8 (st':=⟨[(6,.own 0 0 b1.length)],[(0,rI b1)],1⟩) (wkQ8 [(0,0)]) ?_;refine Qi ?_;have hr:=Option.some.inj h;rw [← hr];refine ⟨_,(.tmp .nil),?_⟩;refine ⟨(.one rfl rfl .nil),[lI b1],[0],by simp [Cat.cells,UA,U1,IA,I1,LA,L1,BA,B1,EA,E1,E2,eB,eI,eL],by simp,(UpL.refl _)⟩
attribute [local simp] eL eI Qu QM Cat.cells
noncomputable def Q23 (c_:Cat) (x_:Int) (y_:Int):Option (List Int) :=
 (QA (σ:=List Int × Int) (ε:=List Int) (fun s11 =>
  if s11.2<(c_.fr.length:Int) then
   (
    (
     ass (0≤s11.2∧s11.2<(c_.fr.length:Int)) <|
     if (ix c_.fr s11.2)=x_ then
      ass (0≤s11.2∧s11.2<(c_.to.length:Int)) <|
      some ((ix c_.to s11.2) == y_)
     else
      some false:Option (Bool)).bind fun b14 =>
    if b14=true then
     ass ((s11.1++[s11.2]).length≤1073741824) <|
     some (s11.1++[s11.2])
    else
     some s11.1:Option (List Int)).bind fun b13 =>
   ass (B64 (s11.2+1)) <|
   some (Ctl.next (b13,s11.2+1))
  else
   some (Ctl.ret s11.1)) fuel ([],0)).bind fun b1 =>
 some b1
theorem Q8q (c_:Cat) (x_:Int) (y_:Int) (r:List Int) (h:Q23 c_ x_ y_=some r):Contract Try.prog 94 [.agg (c_.cells true),iV x_,iV y_] (lI r):=by
 refine Qe (rvs:=[.tmp 6]) (rs:=[lI r]) Try.func94 rfl rfl rfl rfl (by simp [Try.f94]) fun F hN hP=>?_;unfold Q23 at h;refine Q3 ?_;refine runQ hN fun K hK=>?_;simp [-Q0,-Q6,-Q1,-Q7,-Q2];repeat refine sdQ ?_
 refine hK _ ?_;clear hK K;refine tn ?_;refine Q8 (st':=⟨[(1,iV x_),(2,iV y_),(3,.adr 0 0 0)],[(0,.mix 5 [(Cat.cells true c_)])],1⟩) (wkQ8 [(0,0)]) ?_;refine Q3 ?_;refine runQ hN fun K hK=>?_;simp [-Q0,-Q6,-Q1,-Q7,-Q2];repeat refine sdQ ?_
 refine hK _ ?_;clear hK K;refine tn ?_;refine Q8 (st':=⟨[(1,iV x_),(2,iV y_),(3,.adr 0 0 0),(7,.own 1 0 0)],[(0,.mix 5 [(Cat.cells true c_)]),(1,.mix 1 [])],2⟩) (wkQ8 [(0,0),(1,1)]) ?_;refine Q3 ?_;refine Q3 ?_;refine runQ hN fun K hK=>?_;simp [-Q0,-Q6,-Q1,-Q7,-Q2];repeat refine sdQ ?_
 refine hK _ ?_;clear hK K;refine tn ?_;refine Q8 (st':=⟨[(1,iV x_),(2,iV y_),(3,.adr 0 0 0),(7,.own 1 0 0),(8,iV 0)],[(0,.mix 5 [(Cat.cells true c_)]),(1,.mix 1 [])],2⟩) (wkQ8 [(0,0),(1,1)]) ?_;replace h:=bind_some h;obtain ⟨e1,h,h1⟩:=h;refine Qk (fun b1:List Int=>⟨[(7,.own 0 0 b1.length)],[(0,rI b1)],1⟩) (fun b1=>b1=e1) ?_ ?_
 ·refine Qa ?_;refine Qy h (fun s11:List Int × Int=>⟨[(1,iV x_),(2,iV y_),(3,.adr 0 0 0),(7,.own 1 0 s11.1.length),(8,iV s11.2)],[(0,.mix 5 [(Cat.cells true c_)]),(1,rI s11.1)],2⟩) (Q3b ⟨[(1,iV x_),(2,iV y_),(3,.adr 0 0 0),(7,.own 1 0 0),(8,iV 0)],[(0,.mix 5 [(Cat.cells true c_)]),(1,rI [])],2⟩ (Wk.nils [] (by simp) (by simp) (by simp [nlA]) (by simp [entN,nlL,nlA,Cat.cells,UA,U1,IA,I1,LA,L1,BA,B1,EA,E1,E2,eB,eI,eL]) (by simp)) (wkQ8 [(0,0),(1,1)])) ?_;clear h;intro k11 s11 c11 h hk11;refine Q3 ?_;refine Q3 ?_;refine runQ hN fun K hK=>?_;simp [-Q0,-Q6,-Q1,-Q7,-Q2];repeat refine sdQ ?_
  refine hK _ ?_;clear hK K;refine tn ?_;refine Q8 (st':=⟨[(1,iV x_),(2,iV y_),(3,.adr 0 0 0),(7,.own 1 0 s11.1.length),(8,iV s11.2),(14,.val (.bool (decide (s11.2<(c_.fr.length:Int)))))],[(0,.mix 5 [(Cat.cells true c_)]),(1,rI s11.1)],2⟩) (wkQ8 [(0,0),(1,1)]) ?_;refine Qc rfl (fun g=>?_) fun g=>?_
  ·have g12:s11.2<(c_.fr.length:Int):=gQ;clear g;replace h:=if_l g12 h;refine Qd ?_;refine tn ?_;refine Q3 ?_;replace h:=bind_some h;obtain ⟨e13,h,h13⟩:=h;refine Qk (fun b13:List Int=>⟨[(1,iV x_),(2,iV y_),(3,.adr 0 0 0),(7,.own 1 0 b13.length),(8,iV s11.2)],[(0,.mix 5 [(Cat.cells true c_)]),(1,rI b13)],2⟩) (fun b13=>b13=e13) ?_ ?_
   ·refine Qa ?_;refine Q3 ?_;replace h:=bind_some h;obtain ⟨e14,h,h14⟩:=h;refine Qk (fun b14:Bool=>⟨[(1,iV x_),(2,iV y_),(3,.adr 0 0 0),(7,.own 1 0 s11.1.length),(8,iV s11.2),(32,.val (.bool b14))],[(0,.mix 5 [(Cat.cells true c_)]),(1,rI s11.1)],2⟩) (fun b14=>b14=e14) ?_ ?_
    ·refine runQ hN fun K hK=>?_;replace h:=Q5 h;obtain ⟨a15,h⟩:=h;simp [-Q0,-Q6,-Q1,-Q7,-Q2,at_I a15];(repeat with_reducible refine sdQ ?_);refine Qq (fun g=>?_) (fun g=>?_)
     ·have g16:(ix c_.fr s11.2)=x_:=gQ;clear g;replace h:=if_l g16 h;replace h:=Q5 h;obtain ⟨a17,h⟩:=h;simp [-Q0,-Q6,-Q1,-Q7,-Q2,at_I a15,at_I a17];(repeat refine sdQ ?_);refine hK _ ?_;exact jn (b:=(ix c_.to s11.2) == y_) (Option.some.inj h) (wkQ8 [(0,0),(1,1)])
     have g16:¬ ((ix c_.fr s11.2)=x_):=gQ;clear g;replace h:=if_r g16 h;simp [-Q0,-Q6,-Q1,-Q7,-Q2,at_I a15];(repeat refine sdQ ?_);refine hK _ ?_;exact jn (b:=false) (Option.some.inj h) (wkQ8 [(0,0),(1,1)])
    intro b14 hb14;have h:=h14;(try rw [← hb14] at h);clear h14;(try dsimp only at h);refine Qc rfl (fun g=>?_) fun g=>?_
    ·have g18:b14=true:=gQ;clear g;replace h:=if_l g18 h;refine runQ hN fun K hK=>?_;replace h:=Q5 h;obtain ⟨a19,h⟩:=h;(try simp only [List.length_append,List.length_cons,List.length_nil] at a19);simp [-Q0,-Q6,-Q1,-Q7,-Q2,a19];(repeat refine sdQ ?_);refine hK _ ?_;clear hK K;refine bn ?_;exact jn (b:=s11.1++[s11.2]) (Option.some.inj h) (wkQ8 [(0,0),(3,1)])
    have g18:¬ (b14=true):=gQ;clear g;replace h:=if_r g18 h;refine Qd ?_;refine bn ?_;exact jn (b:=s11.1) (Option.some.inj h) (wkQ8 [(0,0),(1,1)])
   intro b13 hb13;have h:=h13;(try rw [← hb13] at h);clear h13;(try dsimp only at h);refine runQ hN fun K hK=>?_;replace h:=Q5 h;obtain ⟨a20,h⟩:=h;simp [-Q0,-Q6,-Q1,-Q7,-Q2,Qs a20];(repeat refine sdQ ?_);refine hK _ ?_;clear hK K;cases h;exact rn (s':=(b13,s11.2+1)) hk11 (wkQ8 [(0,0),(1,1)])
  have g12:¬ (s11.2<(c_.fr.length:Int)):=gQ;clear g;replace h:=if_r g12 h;refine Qr ?_;refine tx ?_;refine lx ?_;refine bh ?_;cases h;exact jn (b:=s11.1) hk11 (wkQ8 [(1,0)])
 intro b1 hb1;have h:=h1;try rw [← hb1] at h
 clear h1;try dsimp only at h
 refine Q3 ?_;refine runQ hN fun K hK=>?_;simp [-Q0,-Q6,-Q1,-Q7,-Q2];repeat refine sdQ ?_
 refine hK _ ?_;clear hK K;refine tn ?_;refine Q8 (st':=⟨[(6,.own 0 0 b1.length)],[(0,rI b1)],1⟩) (wkQ8 [(0,0)]) ?_;refine Qi ?_;have hr:=Option.some.inj h;rw [← hr];refine ⟨_,(.tmp .nil),?_⟩;refine ⟨(.one rfl rfl .nil),[lI b1],[0],by simp [Cat.cells,UA,U1,IA,I1,LA,L1,BA,B1,EA,E1,E2,eB,eI,eL],by simp,(UpL.refl _)⟩
attribute [local simp] eL eI Qu QM Cat.cells
noncomputable def Q1x (c_:Cat) (f_:Int):Option (List Int) :=
 (QA (σ:=List Int × Int) (ε:=List Int) (fun s18 =>
  if s18.2<(c_.fr.length:Int) then
   (
    (
     ass (0≤s18.2∧s18.2<(c_.fr.length:Int)) <|
     ass (0≤f_∧f_<(c_.to.length:Int)) <|
     if (ix c_.fr s18.2)=(ix c_.to f_) then
      ass (0≤s18.2∧s18.2<(c_.to.length:Int)) <|
      ass (0≤f_∧f_<(c_.fr.length:Int)) <|
      if (ix c_.to s18.2)=(ix c_.fr f_) then
       ass (0≤f_∧f_<(c_.cs.length:Int)) <|
       ass (0≤s18.2∧s18.2<((rx c_.cs f_).length:Int)) <|
       ass (0≤f_∧f_<(c_.fr.length:Int)) <|
       ass (0≤ix c_.fr f_∧ix c_.fr f_<(c_.id.length:Int)) <|
       some ((ix (rx c_.cs f_) s18.2) == (ix c_.id (ix c_.fr f_)))
      else
       some false
     else
      some false:Option (Bool)).bind fun b21 =>
    if b21=true then
     ass ((s18.1++[s18.2]).length≤1073741824) <|
     some (s18.1++[s18.2])
    else
     some s18.1:Option (List Int)).bind fun b20 =>
   ass (B64 (s18.2+1)) <|
   some (Ctl.next (b20,s18.2+1))
  else
   some (Ctl.ret s18.1)) fuel ([],0)).bind fun b1 =>
 some b1
theorem Q3S (c_:Cat) (f_:Int) (r:List Int) (h:Q1x c_ f_=some r):Contract Try.prog 184 [.agg (c_.cells true),iV f_] (lI r):=by
 refine Qe (rvs:=[.tmp 4]) (rs:=[lI r]) Try.func184 rfl rfl rfl rfl (by simp [Try.f184]) fun F hN hP=>?_;unfold Q1x at h;refine Q3 ?_;refine runQ hN fun K hK=>?_;simp [-Q0,-Q6,-Q1,-Q7,-Q2];repeat refine sdQ ?_
 refine hK _ ?_;clear hK K;refine tn ?_;refine Q8 (st':=⟨[(1,iV f_),(2,.adr 0 0 0)],[(0,.mix 5 [(Cat.cells true c_)])],1⟩) (wkQ8 [(0,0)]) ?_;refine Q3 ?_;refine runQ hN fun K hK=>?_;simp [-Q0,-Q6,-Q1,-Q7,-Q2];repeat refine sdQ ?_
 refine hK _ ?_;clear hK K;refine tn ?_;refine Q8 (st':=⟨[(1,iV f_),(2,.adr 0 0 0),(5,.own 1 0 0)],[(0,.mix 5 [(Cat.cells true c_)]),(1,.mix 1 [])],2⟩) (wkQ8 [(0,0),(1,1)]) ?_;refine Q3 ?_;refine Q3 ?_;refine runQ hN fun K hK=>?_;simp [-Q0,-Q6,-Q1,-Q7,-Q2];repeat refine sdQ ?_
 refine hK _ ?_;clear hK K;refine tn ?_;refine Q8 (st':=⟨[(1,iV f_),(2,.adr 0 0 0),(5,.own 1 0 0),(6,iV 0)],[(0,.mix 5 [(Cat.cells true c_)]),(1,.mix 1 [])],2⟩) (wkQ8 [(0,0),(1,1)]) ?_;replace h:=bind_some h;obtain ⟨e1,h,h1⟩:=h;refine Qk (fun b1:List Int=>⟨[(5,.own 0 0 b1.length)],[(0,rI b1)],1⟩) (fun b1=>b1=e1) ?_ ?_
 ·refine Qa ?_;refine Qy h (fun s18:List Int × Int=>⟨[(1,iV f_),(2,.adr 0 0 0),(5,.own 1 0 s18.1.length),(6,iV s18.2)],[(0,.mix 5 [(Cat.cells true c_)]),(1,rI s18.1)],2⟩) (Q3b ⟨[(1,iV f_),(2,.adr 0 0 0),(5,.own 1 0 0),(6,iV 0)],[(0,.mix 5 [(Cat.cells true c_)]),(1,rI [])],2⟩ (Wk.nils [] (by simp) (by simp) (by simp [nlA]) (by simp [entN,nlL,nlA,Cat.cells,UA,U1,IA,I1,LA,L1,BA,B1,EA,E1,E2,eB,eI,eL]) (by simp)) (wkQ8 [(0,0),(1,1)])) ?_;clear h;intro k18 s18 c18 h hk18;refine Q3 ?_;refine Q3 ?_;refine runQ hN fun K hK=>?_;simp [-Q0,-Q6,-Q1,-Q7,-Q2];repeat refine sdQ ?_
  refine hK _ ?_;clear hK K;refine tn ?_;refine Q8 (st':=⟨[(1,iV f_),(2,.adr 0 0 0),(5,.own 1 0 s18.1.length),(6,iV s18.2),(12,.val (.bool (decide (s18.2<(c_.fr.length:Int)))))],[(0,.mix 5 [(Cat.cells true c_)]),(1,rI s18.1)],2⟩) (wkQ8 [(0,0),(1,1)]) ?_;refine Qc rfl (fun g=>?_) fun g=>?_
  ·have g19:s18.2<(c_.fr.length:Int):=gQ;clear g;replace h:=if_l g19 h;refine Qd ?_;refine tn ?_;refine Q3 ?_;replace h:=bind_some h;obtain ⟨e20,h,h20⟩:=h;refine Qk (fun b20:List Int=>⟨[(1,iV f_),(2,.adr 0 0 0),(5,.own 1 0 b20.length),(6,iV s18.2)],[(0,.mix 5 [(Cat.cells true c_)]),(1,rI b20)],2⟩) (fun b20=>b20=e20) ?_ ?_
   ·refine Qa ?_;refine Q3 ?_;replace h:=bind_some h;obtain ⟨e21,h,h21⟩:=h;refine Qk (fun b21:Bool=>⟨[(1,iV f_),(2,.adr 0 0 0),(5,.own 1 0 s18.1.length),(6,iV s18.2),(58,.val (.bool b21))],[(0,.mix 5 [(Cat.cells true c_)]),(1,rI s18.1)],2⟩) (fun b21=>b21=e21) ?_ ?_
    ·refine runQ hN fun K hK=>?_;replace h:=Q5 h;obtain ⟨a22,h⟩:=h;replace h:=Q5 h;obtain ⟨a23,h⟩:=h;simp [-Q0,-Q6,-Q1,-Q7,-Q2,at_I a22,at_I a23];(repeat with_reducible refine sdQ ?_);refine Qq (fun g=>?_) (fun g=>?_)
     ·have g24:(ix c_.fr s18.2)=(ix c_.to f_):=gQ;clear g;replace h:=if_l g24 h;replace h:=Q5 h;obtain ⟨a25,h⟩:=h;replace h:=Q5 h;obtain ⟨a26,h⟩:=h;simp [-Q0,-Q6,-Q1,-Q7,-Q2,at_I a22,at_I a23,at_I a25,at_I a26];(repeat with_reducible refine sdQ ?_);refine Qq (fun g=>?_) (fun g=>?_)
      ·have g27:(ix c_.to s18.2)=(ix c_.fr f_):=gQ;clear g;replace h:=if_l g27 h;replace h:=Q5 h;obtain ⟨a28,h⟩:=h;replace h:=Q5 h;obtain ⟨a29,h⟩:=h;replace h:=Q5 h;obtain ⟨a30,h⟩:=h;replace h:=Q5 h;obtain ⟨a31,h⟩:=h;simp [-Q0,-Q6,-Q1,-Q7,-Q2,at_I a22,at_I a23,at_I a25,at_I a26,at_L a28,at_I a29,at_I a30,at_I a31];(repeat refine sdQ ?_);refine hK _ ?_;exact jn (b:=(ix (rx c_.cs f_) s18.2) == (ix c_.id (ix c_.fr f_))) (Option.some.inj h) (wkQ8 [(0,0),(1,1)])
      have g27:¬ ((ix c_.to s18.2)=(ix c_.fr f_)):=gQ;clear g;replace h:=if_r g27 h;simp [-Q0,-Q6,-Q1,-Q7,-Q2,at_I a22,at_I a23,at_I a25,at_I a26];(repeat refine sdQ ?_);refine hK _ ?_;exact jn (b:=false) (Option.some.inj h) (wkQ8 [(0,0),(1,1)])
     have g24:¬ ((ix c_.fr s18.2)=(ix c_.to f_)):=gQ;clear g;replace h:=if_r g24 h;simp [-Q0,-Q6,-Q1,-Q7,-Q2,at_I a22,at_I a23];(repeat refine sdQ ?_);refine hK _ ?_;exact jn (b:=false) (Option.some.inj h) (wkQ8 [(0,0),(1,1)])
    intro b21 hb21;have h:=h21;(try rw [← hb21] at h);clear h21;(try dsimp only at h);refine Qc rfl (fun g=>?_) fun g=>?_
    ·have g32:b21=true:=gQ;clear g;replace h:=if_l g32 h;refine runQ hN fun K hK=>?_;replace h:=Q5 h;obtain ⟨a33,h⟩:=h;(try simp only [List.length_append,List.length_cons,List.length_nil] at a33);simp [-Q0,-Q6,-Q1,-Q7,-Q2,a33];(repeat refine sdQ ?_);refine hK _ ?_;clear hK K;refine bn ?_;exact jn (b:=s18.1++[s18.2]) (Option.some.inj h) (wkQ8 [(0,0),(3,1)])
    have g32:¬ (b21=true):=gQ;clear g;replace h:=if_r g32 h;refine Qd ?_;refine bn ?_;exact jn (b:=s18.1) (Option.some.inj h) (wkQ8 [(0,0),(1,1)])
   intro b20 hb20;have h:=h20;(try rw [← hb20] at h);clear h20;(try dsimp only at h);refine runQ hN fun K hK=>?_;replace h:=Q5 h;obtain ⟨a34,h⟩:=h;simp [-Q0,-Q6,-Q1,-Q7,-Q2,Qs a34];(repeat refine sdQ ?_);refine hK _ ?_;clear hK K;cases h;exact rn (s':=(b20,s18.2+1)) hk18 (wkQ8 [(0,0),(1,1)])
  have g19:¬ (s18.2<(c_.fr.length:Int)):=gQ;clear g;replace h:=if_r g19 h;refine Qr ?_;refine tx ?_;refine lx ?_;refine bh ?_;cases h;exact jn (b:=s18.1) hk18 (wkQ8 [(1,0)])
 intro b1 hb1;have h:=h1;try rw [← hb1] at h
 clear h1;try dsimp only at h
 refine Q3 ?_;refine runQ hN fun K hK=>?_;simp [-Q0,-Q6,-Q1,-Q7,-Q2];repeat refine sdQ ?_
 refine hK _ ?_;clear hK K;refine tn ?_;refine Q8 (st':=⟨[(4,.own 0 0 b1.length)],[(0,rI b1)],1⟩) (wkQ8 [(0,0)]) ?_;refine Qi ?_;have hr:=Option.some.inj h;rw [← hr];refine ⟨_,(.tmp .nil),?_⟩;refine ⟨(.one rfl rfl .nil),[lI b1],[0],by simp [Cat.cells,UA,U1,IA,I1,LA,L1,BA,B1,EA,E1,E2,eB,eI,eL],by simp,(UpL.refl _)⟩
attribute [local simp] eL eI Qu QM Cat.cells
noncomputable def Q2g (c_:Cat) (f_:Int):Option (List Int) :=
 (QA (σ:=List Int × Int) (ε:=List Int) (fun s18 =>
  if s18.2<(c_.fr.length:Int) then
   (
    (
     ass (0≤s18.2∧s18.2<(c_.fr.length:Int)) <|
     ass (0≤f_∧f_<(c_.to.length:Int)) <|
     if (ix c_.fr s18.2)=(ix c_.to f_) then
      ass (0≤s18.2∧s18.2<(c_.to.length:Int)) <|
      ass (0≤f_∧f_<(c_.fr.length:Int)) <|
      if (ix c_.to s18.2)=(ix c_.fr f_) then
       ass (0≤s18.2∧s18.2<(c_.cs.length:Int)) <|
       ass (0≤f_∧f_<((rx c_.cs s18.2).length:Int)) <|
       ass (0≤f_∧f_<(c_.to.length:Int)) <|
       ass (0≤ix c_.to f_∧ix c_.to f_<(c_.id.length:Int)) <|
       some ((ix (rx c_.cs s18.2) f_) == (ix c_.id (ix c_.to f_)))
      else
       some false
     else
      some false:Option (Bool)).bind fun b21 =>
    if b21=true then
     ass ((s18.1++[s18.2]).length≤1073741824) <|
     some (s18.1++[s18.2])
    else
     some s18.1:Option (List Int)).bind fun b20 =>
   ass (B64 (s18.2+1)) <|
   some (Ctl.next (b20,s18.2+1))
  else
   some (Ctl.ret s18.1)) fuel ([],0)).bind fun b1 =>
 some b1
theorem Q4S (c_:Cat) (f_:Int) (r:List Int) (h:Q2g c_ f_=some r):Contract Try.prog 185 [.agg (c_.cells true),iV f_] (lI r):=by
 refine Qe (rvs:=[.tmp 4]) (rs:=[lI r]) Try.func185 rfl rfl rfl rfl (by simp [Try.f185]) fun F hN hP=>?_;unfold Q2g at h;refine Q3 ?_;refine runQ hN fun K hK=>?_;simp [-Q0,-Q6,-Q1,-Q7,-Q2];repeat refine sdQ ?_
 refine hK _ ?_;clear hK K;refine tn ?_;refine Q8 (st':=⟨[(1,iV f_),(2,.adr 0 0 0)],[(0,.mix 5 [(Cat.cells true c_)])],1⟩) (wkQ8 [(0,0)]) ?_;refine Q3 ?_;refine runQ hN fun K hK=>?_;simp [-Q0,-Q6,-Q1,-Q7,-Q2];repeat refine sdQ ?_
 refine hK _ ?_;clear hK K;refine tn ?_;refine Q8 (st':=⟨[(1,iV f_),(2,.adr 0 0 0),(5,.own 1 0 0)],[(0,.mix 5 [(Cat.cells true c_)]),(1,.mix 1 [])],2⟩) (wkQ8 [(0,0),(1,1)]) ?_;refine Q3 ?_;refine Q3 ?_;refine runQ hN fun K hK=>?_;simp [-Q0,-Q6,-Q1,-Q7,-Q2];repeat refine sdQ ?_
 refine hK _ ?_;clear hK K;refine tn ?_;refine Q8 (st':=⟨[(1,iV f_),(2,.adr 0 0 0),(5,.own 1 0 0),(6,iV 0)],[(0,.mix 5 [(Cat.cells true c_)]),(1,.mix 1 [])],2⟩) (wkQ8 [(0,0),(1,1)]) ?_;replace h:=bind_some h;obtain ⟨e1,h,h1⟩:=h;refine Qk (fun b1:List Int=>⟨[(5,.own 0 0 b1.length)],[(0,rI b1)],1⟩) (fun b1=>b1=e1) ?_ ?_
 ·refine Qa ?_;refine Qy h (fun s18:List Int × Int=>⟨[(1,iV f_),(2,.adr 0 0 0),(5,.own 1 0 s18.1.length),(6,iV s18.2)],[(0,.mix 5 [(Cat.cells true c_)]),(1,rI s18.1)],2⟩) (Q3b ⟨[(1,iV f_),(2,.adr 0 0 0),(5,.own 1 0 0),(6,iV 0)],[(0,.mix 5 [(Cat.cells true c_)]),(1,rI [])],2⟩ (Wk.nils [] (by simp) (by simp) (by simp [nlA]) (by simp [entN,nlL,nlA,Cat.cells,UA,U1,IA,I1,LA,L1,BA,B1,EA,E1,E2,eB,eI,eL]) (by simp)) (wkQ8 [(0,0),(1,1)])) ?_;clear h;intro k18 s18 c18 h hk18;refine Q3 ?_;refine Q3 ?_;refine runQ hN fun K hK=>?_;simp [-Q0,-Q6,-Q1,-Q7,-Q2];repeat refine sdQ ?_
  refine hK _ ?_;clear hK K;refine tn ?_;refine Q8 (st':=⟨[(1,iV f_),(2,.adr 0 0 0),(5,.own 1 0 s18.1.length),(6,iV s18.2),(12,.val (.bool (decide (s18.2<(c_.fr.length:Int)))))],[(0,.mix 5 [(Cat.cells true c_)]),(1,rI s18.1)],2⟩) (wkQ8 [(0,0),(1,1)]) ?_;refine Qc rfl (fun g=>?_) fun g=>?_
  ·have g19:s18.2<(c_.fr.length:Int):=gQ;clear g;replace h:=if_l g19 h;refine Qd ?_;refine tn ?_;refine Q3 ?_;replace h:=bind_some h;obtain ⟨e20,h,h20⟩:=h;refine Qk (fun b20:List Int=>⟨[(1,iV f_),(2,.adr 0 0 0),(5,.own 1 0 b20.length),(6,iV s18.2)],[(0,.mix 5 [(Cat.cells true c_)]),(1,rI b20)],2⟩) (fun b20=>b20=e20) ?_ ?_
   ·refine Qa ?_;refine Q3 ?_;replace h:=bind_some h;obtain ⟨e21,h,h21⟩:=h;refine Qk (fun b21:Bool=>⟨[(1,iV f_),(2,.adr 0 0 0),(5,.own 1 0 s18.1.length),(6,iV s18.2),(58,.val (.bool b21))],[(0,.mix 5 [(Cat.cells true c_)]),(1,rI s18.1)],2⟩) (fun b21=>b21=e21) ?_ ?_
    ·refine runQ hN fun K hK=>?_;replace h:=Q5 h;obtain ⟨a22,h⟩:=h;replace h:=Q5 h;obtain ⟨a23,h⟩:=h;simp [-Q0,-Q6,-Q1,-Q7,-Q2,at_I a22,at_I a23];(repeat with_reducible refine sdQ ?_);refine Qq (fun g=>?_) (fun g=>?_)
     ·have g24:(ix c_.fr s18.2)=(ix c_.to f_):=gQ;clear g;replace h:=if_l g24 h;replace h:=Q5 h;obtain ⟨a25,h⟩:=h;replace h:=Q5 h;obtain ⟨a26,h⟩:=h;simp [-Q0,-Q6,-Q1,-Q7,-Q2,at_I a22,at_I a23,at_I a25,at_I a26];(repeat with_reducible refine sdQ ?_);refine Qq (fun g=>?_) (fun g=>?_)
      ·have g27:(ix c_.to s18.2)=(ix c_.fr f_):=gQ;clear g;replace h:=if_l g27 h;replace h:=Q5 h;obtain ⟨a28,h⟩:=h;replace h:=Q5 h;obtain ⟨a29,h⟩:=h;replace h:=Q5 h;obtain ⟨a30,h⟩:=h;replace h:=Q5 h;obtain ⟨a31,h⟩:=h;simp [-Q0,-Q6,-Q1,-Q7,-Q2,at_I a22,at_I a23,at_I a25,at_I a26,at_L a28,at_I a29,at_I a30,at_I a31];(repeat refine sdQ ?_);refine hK _ ?_;exact jn (b:=(ix (rx c_.cs s18.2) f_) == (ix c_.id (ix c_.to f_))) (Option.some.inj h) (wkQ8 [(0,0),(1,1)])
      have g27:¬ ((ix c_.to s18.2)=(ix c_.fr f_)):=gQ;clear g;replace h:=if_r g27 h;simp [-Q0,-Q6,-Q1,-Q7,-Q2,at_I a22,at_I a23,at_I a25,at_I a26];(repeat refine sdQ ?_);refine hK _ ?_;exact jn (b:=false) (Option.some.inj h) (wkQ8 [(0,0),(1,1)])
     have g24:¬ ((ix c_.fr s18.2)=(ix c_.to f_)):=gQ;clear g;replace h:=if_r g24 h;simp [-Q0,-Q6,-Q1,-Q7,-Q2,at_I a22,at_I a23];(repeat refine sdQ ?_);refine hK _ ?_;exact jn (b:=false) (Option.some.inj h) (wkQ8 [(0,0),(1,1)])
    intro b21 hb21;have h:=h21;(try rw [← hb21] at h);clear h21;(try dsimp only at h);refine Qc rfl (fun g=>?_) fun g=>?_
    ·have g32:b21=true:=gQ;clear g;replace h:=if_l g32 h;refine runQ hN fun K hK=>?_;replace h:=Q5 h;obtain ⟨a33,h⟩:=h;(try simp only [List.length_append,List.length_cons,List.length_nil] at a33);simp [-Q0,-Q6,-Q1,-Q7,-Q2,a33];(repeat refine sdQ ?_);refine hK _ ?_;clear hK K;refine bn ?_;exact jn (b:=s18.1++[s18.2]) (Option.some.inj h) (wkQ8 [(0,0),(3,1)])
    have g32:¬ (b21=true):=gQ;clear g;replace h:=if_r g32 h;refine Qd ?_;refine bn ?_;exact jn (b:=s18.1) (Option.some.inj h) (wkQ8 [(0,0),(1,1)])
   intro b20 hb20;have h:=h20;(try rw [← hb20] at h);clear h20;(try dsimp only at h);refine runQ hN fun K hK=>?_;replace h:=Q5 h;obtain ⟨a34,h⟩:=h;simp [-Q0,-Q6,-Q1,-Q7,-Q2,Qs a34];(repeat refine sdQ ?_);refine hK _ ?_;clear hK K;cases h;exact rn (s':=(b20,s18.2+1)) hk18 (wkQ8 [(0,0),(1,1)])
  have g19:¬ (s18.2<(c_.fr.length:Int)):=gQ;clear g;replace h:=if_r g19 h;refine Qr ?_;refine tx ?_;refine lx ?_;refine bh ?_;cases h;exact jn (b:=s18.1) hk18 (wkQ8 [(1,0)])
 intro b1 hb1;have h:=h1;try rw [← hb1] at h
 clear h1;try dsimp only at h
 refine Q3 ?_;refine runQ hN fun K hK=>?_;simp [-Q0,-Q6,-Q1,-Q7,-Q2];repeat refine sdQ ?_
 refine hK _ ?_;clear hK K;refine tn ?_;refine Q8 (st':=⟨[(4,.own 0 0 b1.length)],[(0,rI b1)],1⟩) (wkQ8 [(0,0)]) ?_;refine Qi ?_;have hr:=Option.some.inj h;rw [← hr];refine ⟨_,(.tmp .nil),?_⟩;refine ⟨(.one rfl rfl .nil),[lI b1],[0],by simp [Cat.cells,UA,U1,IA,I1,LA,L1,BA,B1,EA,E1,E2,eB,eI,eL],by simp,(UpL.refl _)⟩
attribute [local simp] eL eI Qu QM Cat.cells
noncomputable def Q2t (c_:Cat) (f_:Int):Option Int :=
 (Q1x c_ f_).bind fun v1 =>
 (Q2g c_ f_).bind fun v2 =>
 (QA (σ:=Int) (ε:=Unit ⊕ Int) (fun s10 =>
  if s10<(v1.length:Int) then
   ass (0≤s10∧s10<(v1.length:Int)) <|
   (Q44 v2 (ix v1 s10)).bind fun v13 =>
   if v13=true then
    ass (0≤s10∧s10<(v1.length:Int)) <|
    some (Ctl.ret (Sum.inr (ix v1 s10)))
   else
    ass (B64 (s10+1)) <|
    some (Ctl.next (s10+1))
  else
   some (Ctl.ret (Sum.inl ()))) fuel 0).bind fun e3 =>
 match e3 with
 | .inl b3 =>
  some (-1)
 | .inr p3 =>
  some p3
theorem Q55 (c_:Cat) (f_:Int) (r:Int) (h:Q2t c_ f_=some r):Contract Try.prog 182 [.agg (c_.cells true),iV f_] (iV r):=by
 refine Qe (rvs:=[.tmp 4]) (rs:=[iV r]) Try.func182 rfl rfl rfl rfl (by simp [Try.f182]) fun F hN hP=>?_;unfold Q2t at h;refine Q3 ?_;refine runQ hN fun K hK=>?_;simp [-Q0,-Q6,-Q1,-Q7,-Q2];repeat refine sdQ ?_
 refine hK _ ?_;clear hK K;refine tn ?_;refine Q8 (st':=⟨[(1,iV f_),(2,.adr 0 0 0)],[(0,.mix 5 [(Cat.cells true c_)])],1⟩) (wkQ8 [(0,0)]) ?_;refine Q3 ?_;refine runQ hN fun K hK=>?_;simp [-Q0,-Q6,-Q1,-Q7,-Q2];repeat with_reducible refine sdQ ?_
 replace h:=bind_some h;obtain ⟨v1,hv1,h⟩:=h;refine Q4 (Q3S _ _ v1 hv1) (.cons (.aggL (.cons .val (.cons .lst (.cons .lst (.cons .lst (.cons .lst .nil)))))) (.cons .val .nil)) ?_;simp [-Q0,-Q6,-Q1,-Q7,-Q2,unk,unA,unE,unT,unC,flat];repeat with_reducible refine sdQ ?_
 replace h:=bind_some h;obtain ⟨v2,hv2,h⟩:=h;refine Q4 (Q4S _ _ v2 hv2) (.cons (.aggL (.cons .val (.cons .lst (.cons .lst (.cons .lst (.cons .lst .nil)))))) (.cons .val .nil)) ?_;simp [-Q0,-Q6,-Q1,-Q7,-Q2,unk,unA,unE,unT,unC,flat];repeat refine sdQ ?_
 refine hK _ ?_;clear hK K;refine tn ?_;refine Q8 (st':=⟨[(5,.own 0 0 v1.length),(6,.own 1 0 v2.length)],[(0,rI v1),(1,rI v2)],2⟩) (wkQ8 [(1,0),(2,1)]) ?_;refine Q3 ?_;refine Q3 ?_;refine runQ hN fun K hK=>?_;simp [-Q0,-Q6,-Q1,-Q7,-Q2];repeat refine sdQ ?_
 refine hK _ ?_;clear hK K;refine tn ?_;refine Q8 (st':=⟨[(5,.own 0 0 v1.length),(6,.own 1 0 v2.length),(7,iV 0)],[(0,rI v1),(1,rI v2)],2⟩) (wkQ8 [(0,0),(1,1)]) ?_;replace h:=bind_some h;obtain ⟨e3,h,h3⟩:=h;refine Qk (fun b3:Unit=>⟨[],[],0⟩) (fun b3=>Sum.inl b3=e3) ?_ ?_
 ·refine Qa ?_;refine Qy h (fun s10:Int=>⟨[(5,.own 0 0 v1.length),(6,.own 1 0 v2.length),(7,iV s10)],[(0,rI v1),(1,rI v2)],2⟩) (wkQ8 [(0,0),(1,1)]) ?_;clear h;intro k10 s10 c10 h hk10;refine Q3 ?_;refine Q3 ?_;refine runQ hN fun K hK=>?_;simp [-Q0,-Q6,-Q1,-Q7,-Q2];repeat refine sdQ ?_
  refine hK _ ?_;clear hK K;refine tn ?_;refine Q8 (st':=⟨[(5,.own 0 0 v1.length),(6,.own 1 0 v2.length),(7,iV s10),(17,.val (.bool (decide (s10<(v1.length:Int)))))],[(0,rI v1),(1,rI v2)],2⟩) (wkQ8 [(0,0),(1,1)]) ?_;refine Qc rfl (fun g=>?_) fun g=>?_
  ·have g11:s10<(v1.length:Int):=gQ;clear g;replace h:=if_l g11 h;refine Qd ?_;refine tn ?_;refine Q3 ?_;refine Qa ?_;refine Q3 ?_;refine runQ hN fun K hK=>?_;replace h:=Q5 h;obtain ⟨a12,h⟩:=h;simp [-Q0,-Q6,-Q1,-Q7,-Q2,at_I a12];(repeat with_reducible refine sdQ ?_);replace h:=bind_some h;obtain ⟨v13,hv13,h⟩:=h;refine Q4 (Q8p _ _ v13 hv13) (.cons (.whole (by simp) (by simp) (by simp)) (.cons .val .nil)) ?_;simp [-Q0,-Q6,-Q1,-Q7,-Q2,unk,unA,unE,unT,unC,flat,at_I a12];(repeat refine sdQ ?_);refine hK _ ?_;clear hK K;refine tn ?_;refine Q8 (st':=⟨[(5,.own 0 0 v1.length),(6,.own 1 0 v2.length),(7,iV s10),(25,.val (.bool v13))],[(0,rI v1),(1,rI v2)],2⟩) (wkQ8 [(0,0),(1,1)]) ?_;refine Qc rfl (fun g=>?_) fun g=>?_
   ·have g14:v13=true:=gQ;clear g;replace h:=if_l g14 h;refine Q3 ?_;refine runQ hN fun K hK=>?_;replace h:=Q5 h;obtain ⟨a15,h⟩:=h;simp [-Q0,-Q6,-Q1,-Q7,-Q2,at_I a15];(repeat refine sdQ ?_);refine hK _ ?_;clear hK K;refine tn ?_;refine Q8 (st':=⟨[(4,iV (ix v1 s10))],[],0⟩) (wkQ8 []) ?_;refine Qi ?_;refine br ?_;refine tr ?_;refine lr ?_;refine br ?_;refine tr ?_;cases h;have q:_=e3:=hk10;have h:=h3;rw [← q] at h;clear q;(try dsimp only at h);have hr:=Option.some.inj h;rw [← hr];refine ⟨_,(.tmp .nil),?_⟩;refine ⟨(.one rfl rfl .nil),[iV (ix v1 s10)],[],by simp [Cat.cells,UA,U1,IA,I1,LA,L1,BA,B1,EA,E1,E2,eB,eI,eL],by simp,(UpL.refl _)⟩
   have g14:¬ (v13=true):=gQ;clear g;replace h:=if_r g14 h;refine Qd ?_;refine bn ?_;refine tn ?_;refine runQ hN fun K hK=>?_;replace h:=Q5 h;obtain ⟨a16,h⟩:=h;simp [-Q0,-Q6,-Q1,-Q7,-Q2,Qs a16];(repeat refine sdQ ?_);refine hK _ ?_;clear hK K;cases h;exact rn (s':=s10+1) hk10 (wkQ8 [(0,0),(1,1)])
  have g11:¬ (s10<(v1.length:Int)):=gQ;clear g;replace h:=if_r g11 h;refine Qr ?_;refine tx ?_;refine lx ?_;refine bh ?_;cases h;exact jn (b:=()) hk10 (wkQ8 [])
 intro b3 hb3;have h:=h3;try rw [← hb3] at h
 clear h3;try dsimp only at h
 refine Q3 ?_;refine runQ hN fun K hK=>?_;simp [-Q0,-Q6,-Q1,-Q7,-Q2];repeat refine sdQ ?_
 refine hK _ ?_;clear hK K;refine tn ?_;refine Q8 (st':=⟨[(4,iV (-1))],[],0⟩) (wkQ8 []) ?_;refine Qi ?_;have hr:=Option.some.inj h;rw [← hr];refine ⟨_,(.tmp .nil),?_⟩;refine ⟨(.one rfl rfl .nil),[iV (-1)],[],by simp [Cat.cells,UA,U1,IA,I1,LA,L1,BA,B1,EA,E1,E2,eB,eI,eL],by simp,(UpL.refl _)⟩
noncomputable def flt (n:Nat) (p:Nat→Prop):List Int:=((List.range n).filter fun i=>bo (p i)).map Int.ofNat
noncomputable def fstN (n:Nat) (p:Nat→Prop):Int:=(((List.range n).find? fun i=>bo (p i)).map Int.ofNat).getD (-1)
theorem flt_pos {n:Nat} {p:Nat→Prop} (h:p n):flt (n+1) p=flt n p++[(n:Int)]:=by simp [flt,List.range_succ,Q1s h]
theorem flt_neg {n:Nat} {p:Nat→Prop} (h:¬ p n):flt (n+1) p=flt n p:=by simp [flt,List.range_succ,QO h]
theorem flt_len (n:Nat) (p:Nat→Prop):(flt n p).length≤n:=by
 unfold flt;rw [List.length_map];exact Nat.le_trans (List.length_filter_le _ _) (by simp)
theorem mem_flt {n:Nat} {p:Nat→Prop} {x:Int}:x∈flt n p↔∃ i:Nat,i<n∧p i∧x=(i:Int):=by
 simp only [flt,List.mem_map,List.mem_filter,List.mem_range,bo_tt];constructor
 ·rintro ⟨i,⟨h1,h2⟩,rfl⟩;exact ⟨i,h1,h2,rfl⟩
 rintro ⟨i,h1,h2,rfl⟩;exact ⟨i,⟨h1,h2⟩,rfl⟩
theorem Q7v (n:Nat) (p:Nat→Prop):(fstN n p = -1∧∀ i,i<n→¬ p i)∨∃ k:Nat,k<n∧p k∧fstN n p=(k:Int):=by
 unfold fstN;cases h:(List.range n).find? fun i=>bo (p i) with
 | none =>
  refine .inl ⟨rfl,fun i hi=>?_⟩;have:=List.find?_eq_none.1 h i (by simpa using hi);simpa [bo_tt] using this
 | some k =>
  have h1:=List.find?_some h;have h2:=List.mem_of_find?_eq_some h;exact .inr ⟨k,by simpa using h2,by simpa [bo_tt] using h1,rfl⟩
theorem e_hom {c:Cat} (h:c.Is) (x y:Int):QF c x y=some (flt c.fr.length fun a=>ix c.fr a=x∧ix c.to a=y):=by
 have k1:=h.1.lt;have k2:=h.1.m40;unfold QF;refine Q1F c.fr.length (fun i=>flt i fun a=>ix c.fr a=x∧ix c.to a=y) (e:=flt c.fr.length fun a=>ix c.fr a=x∧ix c.to a=y) rfl (by omega) (fun i hi=>?_) (by simp) rfl;have hl:=flt_len i fun a=>ix c.fr a=x∧ix c.to a=y
 by_cases h1:ix c.fr i=x
 ·by_cases h2:ix c.to i=y
  ·rw [flt_pos ⟨h1,h2⟩];simp (disch:=omega) [Q9,B64,h1,h2];try omega
  rw [flt_neg fun q=>h2 q.2];simp (disch:=omega) [Q9,B64,h1,h2];try omega
 rw [flt_neg fun q=>h1 q.1];simp (disch:=omega) [Q9,B64,h1];try omega
theorem e_l02Hom (c:Cat) (x y:Int):Q23 c x y=QF c x y:=rfl
attribute [local simp] eL eI Qu QM Q28 Cat.cells Fn.cells
noncomputable def QL (f_:Fn) (g_:Fn) (components_:List Int) (a_:Int):Option Bool :=
 ass (0≤a_∧a_<(f_.ar.length:Int)) <|
 ass (0≤ix f_.ar a_∧ix f_.ar a_<(f_.t.cs.length:Int)) <|
 ass (0≤a_∧a_<(f_.s.to.length:Int)) <|
 ass (0≤ix f_.s.to a_∧ix f_.s.to a_<(components_.length:Int)) <|
 ass (0≤ix components_ (ix f_.s.to a_)∧ix components_ (ix f_.s.to a_)<((rx f_.t.cs (ix f_.ar a_)).length:Int)) <|
 ass (0≤a_∧a_<(f_.s.fr.length:Int)) <|
 ass (0≤ix f_.s.fr a_∧ix f_.s.fr a_<(components_.length:Int)) <|
 ass (0≤ix components_ (ix f_.s.fr a_)∧ix components_ (ix f_.s.fr a_)<(f_.t.cs.length:Int)) <|
 ass (0≤a_∧a_<(g_.ar.length:Int)) <|
 ass (0≤ix g_.ar a_∧ix g_.ar a_<((rx f_.t.cs (ix components_ (ix f_.s.fr a_))).length:Int)) <|
 some ((ix (rx f_.t.cs (ix f_.ar a_)) (ix components_ (ix f_.s.to a_))) == (ix (rx f_.t.cs (ix components_ (ix f_.s.fr a_))) (ix g_.ar a_)))
theorem Q3T (f_:Fn) (g_:Fn) (components_:List Int) (a_:Int) (r:Bool) (h:QL f_ g_ components_ a_=some r):Contract Try.prog 183 [.agg (f_.cells true),.agg (g_.cells true),lI components_,iV a_] (.val (.bool r)):=by
 refine Qe (rvs:=[.tmp 8]) (rs:=[.val (.bool r)]) Try.func183 rfl rfl rfl rfl (by simp [Try.f183]) fun F hN hP=>?_;unfold QL at h;refine Q3 ?_;refine runQ hN fun K hK=>?_;simp [-Q0,-Q6,-Q1,-Q7,-Q2];repeat refine sdQ ?_
 refine hK _ ?_;clear hK K;refine tn ?_;refine Q8 (st':=⟨[(2,lI components_),(3,iV a_),(4,.adr 0 0 0),(5,.adr 1 0 0)],[(0,.mix 12 [(Fn.cells true f_)]),(1,.mix 12 [(Fn.cells true g_)])],2⟩) (wkQ8 [(0,0),(1,1)]) ?_;refine Q3 ?_;refine w_runS mo (by rw [hN];decide) fun K hK=>?_;simp [-Q0,-Q6,-Q1,-Q7,-Q2];repeat refine sdQ ?_
 refine hK _ ?_;clear hK K;refine tn ?_;refine Q8 (st':=⟨[(2,lI components_),(3,iV a_),(4,.adr 0 0 0),(5,.adr 1 0 0),(9,.adr 2 0 0),(10,.adr 3 0 0)],[(0,.mix 12 [(Fn.cells true f_)]),(1,.mix 12 [(Fn.cells true g_)]),(2,.mix 5 [(Cat.cells true f_.s)]),(3,.mix 5 [(Cat.cells true f_.t)])],4⟩) (wkQ8 [(0,0),(1,1),(2,2),(3,3)]) ?_;refine Q3 ?_;refine runQ hN fun K hK=>?_;replace h:=Q5 h;obtain ⟨a1,h⟩:=h;replace h:=Q5 h;obtain ⟨a2,h⟩:=h;replace h:=Q5 h;obtain ⟨a3,h⟩:=h;replace h:=Q5 h;obtain ⟨a4,h⟩:=h;replace h:=Q5 h;obtain ⟨a5,h⟩:=h;replace h:=Q5 h;obtain ⟨a6,h⟩:=h;replace h:=Q5 h;obtain ⟨a7,h⟩:=h;replace h:=Q5 h;obtain ⟨a8,h⟩:=h;replace h:=Q5 h;obtain ⟨a9,h⟩:=h;replace h:=Q5 h;obtain ⟨a10,h⟩:=h;simp [-Q0,-Q6,-Q1,-Q7,-Q2,at_I a1,at_L a2,at_I a3,at_I a4,at_I a5,at_I a6,at_I a7,at_L a8,at_I a9,at_I a10];repeat refine sdQ ?_
 refine hK _ ?_;clear hK K;refine tn ?_;refine Q8 (st':=⟨[(8,.val (.bool ((ix (rx f_.t.cs (ix f_.ar a_)) (ix components_ (ix f_.s.to a_))) == (ix (rx f_.t.cs (ix components_ (ix f_.s.fr a_))) (ix g_.ar a_)))))],[],0⟩) (wkQ8 []) ?_;refine Qi ?_;have hr:=Option.some.inj h;rw [← hr];refine ⟨_,(.tmp .nil),?_⟩;refine ⟨(.one rfl rfl .nil),[.val (.bool ((ix (rx f_.t.cs (ix f_.ar a_)) (ix components_ (ix f_.s.to a_))) == (ix (rx f_.t.cs (ix components_ (ix f_.s.fr a_))) (ix g_.ar a_))))],[],by simp [Cat.cells,Fn.cells,UA,U1,IA,I1,LA,L1,BA,B1,EA,E1,E2,eB,eI,eL],by simp,(UpL.refl _)⟩
theorem Cat.Is.two {c:Cat} (h:c.Is) {f g:Int} (f0:0≤f∧f<c.fr.length) (g0:0≤g∧g<c.fr.length) (e:ix c.to f=ix c.fr g):(0≤ix (rx c.cs f) g∧ix (rx c.cs f) g<c.fr.length)∧ix c.fr (ix (rx c.cs f) g)=ix c.fr f∧ix c.to (ix (rx c.cs f) g)=ix c.to g:=by
 have:=(h.1.cell' f0.1 f0.2 g0.1 g0.2).2 e;exact ⟨⟨this.1,this.2.1⟩,this.2.2⟩
theorem e_Then {c:Cat} (h:c.Is) {f g:Int} (f0:0≤f∧f<c.fr.length) (g0:0≤g∧g<c.fr.length):Q2N c f g=some (ix (rx c.cs f) g)∧Qv c f g=some (ix (rx c.cs f) g):=by
 have h1:=h.1.lc;have h2:=h.1.row' f0.1 f0.2;exact ⟨e_l02Then (by omega) (by omega),Q6M (by omega) (by omega)⟩
abbrev Ar (c:Cat) (f x y:Int):Prop:=(0≤f∧f<(c.fr.length:Int))∧ix c.fr f=x∧ix c.to f=y
theorem Ar.two {c:Cat} (hc:c.Is) {f g x y z:Int} (h1:Ar c f x y) (h2:Ar c g y z):Ar c (ix (rx c.cs f) g) x z:=by
 have:=hc.two h1.1 h2.1 (by rw [h1.2.2,h2.2.1]);exact ⟨this.1,by rw [this.2.1,h1.2.1],by rw [this.2.2,h2.2.2]⟩
theorem Ar.thn {c:Cat} (hc:c.Is) {f g x y z:Int} (h1:Ar c f x y) (h2:Ar c g y z):Q2N c f g=some (ix (rx c.cs f) g)∧Qv c f g=some (ix (rx c.cs f) g):=e_Then hc h1.1 h2.1
theorem run_bind {σ ε β:Type} {body:σ→Option (Ctl σ ε)} {K:ε→Option β} {r:Option β} {s0:σ} (n:Nat) (g:Nat→σ) {e:ε} (h0:s0=g 0) (hn:n<4611686018427387904) (h:∀ i:Nat,i<n→body (g i)=some (.next (g (i+1)))) (he:body (g n)=some (.ret e)) (hk:K e=r):(QA body fuel s0).bind K=r:=by
 rw [Q4v g n h0 hn h he];exact hk
attribute [local simp] eL eI Qu Q3W Cone.cells
noncomputable def Q3i (a_:Cone) (b_:Cone):Option Bool :=
 if ¬ (a_.a=b_.a) then
  some false
 else
  (Q2p a_.l b_.l).bind fun v2 =>
  if ¬ (v2=true) then
   some false
  else
   some true
theorem Q8o (a_:Cone) (b_:Cone) (r:Bool) (h:Q3i a_ b_=some r):Contract Try.prog 35 [.agg (a_.cells true),.agg (b_.cells true)] (.val (.bool r)):=by
 refine Qe (rvs:=[.tmp 4]) (rs:=[.val (.bool r)]) Try.func35 rfl rfl rfl rfl (by simp [Try.f35]) fun F hN hP=>?_;unfold Q3i at h;refine Q3 ?_;refine runQ hN fun K hK=>?_;simp [-Q0,-Q6,-Q1,-Q7,-Q2];repeat refine sdQ ?_
 refine hK _ ?_;clear hK K;refine tn ?_;refine Q8 (st':=⟨[(2,.adr 0 0 0),(3,.adr 1 0 0)],[(0,.mix 2 [(Cone.cells true a_)]),(1,.mix 2 [(Cone.cells true b_)])],2⟩) (wkQ8 [(0,0),(1,1)]) ?_;refine Q3 ?_;refine Q3 ?_;refine runQ hN fun K hK=>?_;simp [-Q0,-Q6,-Q1,-Q7,-Q2];repeat refine sdQ ?_
 refine hK _ ?_;clear hK K;refine tn ?_;refine Q8 (st':=⟨[(2,.adr 0 0 0),(3,.adr 1 0 0),(9,.val (.bool (a_.a != b_.a)))],[(0,.mix 2 [(Cone.cells true a_)]),(1,.mix 2 [(Cone.cells true b_)])],2⟩) (wkQ8 [(0,0),(1,1)]) ?_;refine Qc rfl (fun g=>?_) fun g=>?_
 ·have g1:¬ (a_.a=b_.a):=gQ;clear g;replace h:=if_l g1 h;refine Q3 ?_;refine runQ hN fun K hK=>?_;simp [-Q0,-Q6,-Q1,-Q7,-Q2];repeat refine sdQ ?_
  refine hK _ ?_;clear hK K;refine tn ?_;refine Q8 (st':=⟨[(4,.val (.bool false))],[],0⟩) (wkQ8 []) ?_;refine Qi ?_;refine tr ?_;have hr:=Option.some.inj h;rw [← hr];refine ⟨_,(.tmp .nil),?_⟩;refine ⟨(.one rfl rfl .nil),[.val (.bool false)],[],by simp [Cone.cells,UA,U1,IA,I1,LA,L1,BA,B1,EA,E1,E2,eB,eI,eL],by simp,(UpL.refl _)⟩
 have g1:¬ (¬ (a_.a=b_.a)):=gQ;clear g;replace h:=if_r g1 h;refine Qd ?_;refine tn ?_;refine Q3 ?_;refine Q3 ?_;refine runQ hN fun K hK=>?_;simp [-Q0,-Q6,-Q1,-Q7,-Q2];repeat with_reducible refine sdQ ?_
 replace h:=bind_some h;obtain ⟨v2,hv2,h⟩:=h;refine Q4 (Q6A _ _ v2 hv2) (.cons .lst (.cons .lst .nil)) ?_;simp [-Q0,-Q6,-Q1,-Q7,-Q2,unk,unA,unE,unT,unC,flat];repeat refine sdQ ?_
 refine hK _ ?_;clear hK K;refine tn ?_;refine Q8 (st':=⟨[(15,.val (.bool (!v2)))],[],0⟩) (wkQ8 []) ?_;refine Qc rfl (fun g=>?_) fun g=>?_
 ·have g3:¬ (v2=true):=gQ;clear g;replace h:=if_l g3 h;refine Q3 ?_;refine runQ hN fun K hK=>?_;simp [-Q0,-Q6,-Q1,-Q7,-Q2];repeat refine sdQ ?_
  refine hK _ ?_;clear hK K;refine tn ?_;refine Q8 (st':=⟨[(4,.val (.bool false))],[],0⟩) (wkQ8 []) ?_;refine Qi ?_;refine tr ?_;have hr:=Option.some.inj h;rw [← hr];refine ⟨_,(.tmp .nil),?_⟩;refine ⟨(.one rfl rfl .nil),[.val (.bool false)],[],by simp [Cone.cells,UA,U1,IA,I1,LA,L1,BA,B1,EA,E1,E2,eB,eI,eL],by simp,(UpL.refl _)⟩
 have g3:¬ (¬ (v2=true)):=gQ;clear g;replace h:=if_r g3 h;refine Qd ?_;refine tn ?_;refine Q3 ?_;refine runQ hN fun K hK=>?_;simp [-Q0,-Q6,-Q1,-Q7,-Q2];repeat refine sdQ ?_
 refine hK _ ?_;clear hK K;refine tn ?_;refine Q8 (st':=⟨[(4,.val (.bool true))],[],0⟩) (wkQ8 []) ?_;refine Qi ?_;have hr:=Option.some.inj h;rw [← hr];refine ⟨_,(.tmp .nil),?_⟩;refine ⟨(.one rfl rfl .nil),[.val (.bool true)],[],by simp [Cone.cells,UA,U1,IA,I1,LA,L1,BA,B1,EA,E1,E2,eB,eI,eL],by simp,(UpL.refl _)⟩
attribute [local simp] eL eI Qu Q3W Cone.cells
noncomputable def Q2M (a_:List Cone) (b_:List Cone):Option Bool :=
 if ¬ ((a_.length:Int)=(b_.length:Int)) then
  some false
 else
  (QA (σ:=Int) (ε:=Unit ⊕ Bool) (fun s9 =>
   if s9<(a_.length:Int) then
    ass (0≤s9∧s9<(a_.length:Int)) <|
    ass (0≤s9∧s9<(b_.length:Int)) <|
    (Q3i (gx a_ s9) (gx b_ s9)).bind fun v13 =>
    if ¬ (v13=true) then
     some (Ctl.ret (Sum.inr false))
    else
     ass (B64 (s9+1)) <|
     some (Ctl.next (s9+1))
   else
    some (Ctl.ret (Sum.inl ()))) fuel 0).bind fun e2 =>
  match e2 with
  | .inl b2 =>
   some true
  | .inr p2 =>
   some p2
theorem Q7f (a_:List Cone) (b_:List Cone) (r:Bool) (h:Q2M a_ b_=some r):Contract Try.prog 44 [.lst true 2 (Es (Cone.cells true) a_),.lst true 2 (Es (Cone.cells true) b_)] (.val (.bool r)):=by
 refine Qe (rvs:=[.tmp 4]) (rs:=[.val (.bool r)]) Try.func44 rfl rfl rfl rfl (by simp [Try.f44]) fun F hN hP=>?_;unfold Q2M at h;refine Q3 ?_;refine runQ hN fun K hK=>?_;simp [-Q0,-Q6,-Q1,-Q7,-Q2];repeat refine sdQ ?_
 refine hK _ ?_;clear hK K;refine tn ?_;refine Q8 (st':=⟨[(0,.lst true 2 (Es (Cone.cells true) a_)),(1,.lst true 2 (Es (Cone.cells true) b_))],[],0⟩) (wkQ8 []) ?_;refine Q3 ?_;refine Q3 ?_;refine runQ hN fun K hK=>?_;simp [-Q0,-Q6,-Q1,-Q7,-Q2];repeat refine sdQ ?_
 refine hK _ ?_;clear hK K;refine tn ?_;refine Q8 (st':=⟨[(0,.lst true 2 (Es (Cone.cells true) a_)),(1,.lst true 2 (Es (Cone.cells true) b_)),(10,.val (.bool ((a_.length:Int) != (b_.length:Int))))],[],0⟩) (wkQ8 []) ?_;refine Qc rfl (fun g=>?_) fun g=>?_
 ·have g1:¬ ((a_.length:Int)=(b_.length:Int)):=gQ;clear g;replace h:=if_l g1 h;refine Q3 ?_;refine runQ hN fun K hK=>?_;simp [-Q0,-Q6,-Q1,-Q7,-Q2];repeat refine sdQ ?_
  refine hK _ ?_;clear hK K;refine tn ?_;refine Q8 (st':=⟨[(4,.val (.bool false))],[],0⟩) (wkQ8 []) ?_;refine Qi ?_;refine tr ?_;have hr:=Option.some.inj h;rw [← hr];refine ⟨_,(.tmp .nil),?_⟩;refine ⟨(.one rfl rfl .nil),[.val (.bool false)],[],by simp [Cone.cells,UA,U1,IA,I1,LA,L1,BA,B1,EA,E1,E2,eB,eI,eL,Qg _ (Cone.cells true) _ (fun _=>rfl)],by simp,(UpL.refl _)⟩
 have g1:¬ (¬ ((a_.length:Int)=(b_.length:Int))):=gQ;clear g;replace h:=if_r g1 h;refine Qd ?_;refine tn ?_;refine Q3 ?_;refine Q3 ?_;refine runQ hN fun K hK=>?_;simp [-Q0,-Q6,-Q1,-Q7,-Q2];repeat refine sdQ ?_
 refine hK _ ?_;clear hK K;refine tn ?_;refine Q8 (st':=⟨[(0,.lst true 2 (Es (Cone.cells true) a_)),(1,.lst true 2 (Es (Cone.cells true) b_)),(5,iV 0)],[],0⟩) (wkQ8 []) ?_;replace h:=bind_some h;obtain ⟨e2,h,h2⟩:=h;refine Qk (fun b2:Unit=>⟨[],[],0⟩) (fun b2=>Sum.inl b2=e2) ?_ ?_
 ·refine Qa ?_;refine Qy h (fun s9:Int=>⟨[(0,.lst true 2 (Es (Cone.cells true) a_)),(1,.lst true 2 (Es (Cone.cells true) b_)),(5,iV s9)],[],0⟩) (wkQ8 []) ?_;clear h;intro k9 s9 c9 h hk9;refine Q3 ?_;refine Q3 ?_;refine runQ hN fun K hK=>?_;simp [-Q0,-Q6,-Q1,-Q7,-Q2];repeat refine sdQ ?_
  refine hK _ ?_;clear hK K;refine tn ?_;refine Q8 (st':=⟨[(0,.lst true 2 (Es (Cone.cells true) a_)),(1,.lst true 2 (Es (Cone.cells true) b_)),(5,iV s9),(14,.val (.bool (decide (s9<(a_.length:Int)))))],[],0⟩) (wkQ8 []) ?_;refine Qc rfl (fun g=>?_) fun g=>?_
  ·have g10:s9<(a_.length:Int):=gQ;clear g;replace h:=if_l g10 h;refine Qd ?_;refine tn ?_;refine Q3 ?_;refine Qa ?_;refine Q3 ?_;refine runQ hN fun K hK=>?_;replace h:=Q5 h;obtain ⟨a11,h⟩:=h;replace h:=Q5 h;obtain ⟨a12,h⟩:=h;simp [-Q0,-Q6,-Q1,-Q7,-Q2,at_E (c:=(Cone.cells true)) a11,at_E (c:=(Cone.cells true)) a12];(repeat with_reducible refine sdQ ?_);replace h:=bind_some h;obtain ⟨v13,hv13,h⟩:=h;refine Q4 (Q8o _ _ v13 hv13) (.cons (.aggL (.cons .val (.cons .lst .nil))) (.cons (.aggL (.cons .val (.cons .lst .nil))) .nil)) ?_;simp [-Q0,-Q6,-Q1,-Q7,-Q2,unk,unA,unE,unT,unC,flat,at_E (c:=(Cone.cells true)) a11,at_E (c:=(Cone.cells true)) a12];(repeat refine sdQ ?_);refine hK _ ?_;clear hK K;refine tn ?_;refine Q8 (st':=⟨[(0,.lst true 2 (Es (Cone.cells true) a_)),(1,.lst true 2 (Es (Cone.cells true) b_)),(5,iV s9),(26,.val (.bool (!v13)))],[],0⟩) (wkQ8 []) ?_;refine Qc rfl (fun g=>?_) fun g=>?_
   ·have g14:¬ (v13=true):=gQ;clear g;replace h:=if_l g14 h;refine Q3 ?_;refine runQ hN fun K hK=>?_;simp [-Q0,-Q6,-Q1,-Q7,-Q2];(repeat refine sdQ ?_);refine hK _ ?_;clear hK K;refine tn ?_;refine Q8 (st':=⟨[(4,.val (.bool false))],[],0⟩) (wkQ8 []) ?_;refine Qi ?_;refine br ?_;refine tr ?_;refine lr ?_;refine br ?_;refine tr ?_;cases h;have q:_=e2:=hk9;have h:=h2;rw [← q] at h;clear q;(try dsimp only at h);have hr:=Option.some.inj h;rw [← hr];refine ⟨_,(.tmp .nil),?_⟩;refine ⟨(.one rfl rfl .nil),[.val (.bool false)],[],by simp [Cone.cells,UA,U1,IA,I1,LA,L1,BA,B1,EA,E1,E2,eB,eI,eL,Qg _ (Cone.cells true) _ (fun _=>rfl)],by simp,(UpL.refl _)⟩
   have g14:¬ (¬ (v13=true)):=gQ;clear g;replace h:=if_r g14 h;refine Qd ?_;refine bn ?_;refine tn ?_;refine runQ hN fun K hK=>?_;replace h:=Q5 h;obtain ⟨a15,h⟩:=h;simp [-Q0,-Q6,-Q1,-Q7,-Q2,Qs a15];(repeat refine sdQ ?_);refine hK _ ?_;clear hK K;cases h;exact rn (s':=s9+1) hk9 (wkQ8 [])
  have g10:¬ (s9<(a_.length:Int)):=gQ;clear g;replace h:=if_r g10 h;refine Qr ?_;refine tx ?_;refine lx ?_;refine bh ?_;cases h;exact jn (b:=()) hk9 (wkQ8 [])
 intro b2 hb2;have h:=h2;try rw [← hb2] at h
 clear h2;try dsimp only at h
 refine Q3 ?_;refine runQ hN fun K hK=>?_;simp [-Q0,-Q6,-Q1,-Q7,-Q2];repeat refine sdQ ?_
 refine hK _ ?_;clear hK K;refine tn ?_;refine Q8 (st':=⟨[(4,.val (.bool true))],[],0⟩) (wkQ8 []) ?_;refine Qi ?_;have hr:=Option.some.inj h;rw [← hr];refine ⟨_,(.tmp .nil),?_⟩;refine ⟨(.one rfl rfl .nil),[.val (.bool true)],[],by simp [Cone.cells,UA,U1,IA,I1,LA,L1,BA,B1,EA,E1,E2,eB,eI,eL,Qg _ (Cone.cells true) _ (fun _=>rfl)],by simp,(UpL.refl _)⟩
attribute [local simp] eL eI Qu Q3W Cone.cells
noncomputable def Q20 (a_:List Cone) (k_:Int):Option Int :=
 (QA (σ:=Int × Int) (ε:=Int ⊕ Int) (fun s10 =>
  if s10.2<(a_.length:Int) then
   ass (0≤s10.2∧s10.2<(a_.length:Int)) <|
   if ¬ (((gx a_ s10.2).a)=s10.1) then
    some (Ctl.ret (Sum.inr (-1)))
   else
    ass (B64 (s10.1+1)) <|
    ass (0≤s10.2∧s10.2<(a_.length:Int)) <|
    (Q1K ((gx a_ s10.2).l) (s10.1+1)).bind fun v16 =>
    if v16<0 then
     some (Ctl.ret (Sum.inr (-1)))
    else
     ass (B64 (s10.2+1)) <|
     some (Ctl.next (v16,s10.2+1))
  else
   some (Ctl.ret (Sum.inl s10.1))) fuel (k_,0)).bind fun e1 =>
 match e1 with
 | .inl b1 =>
  some b1
 | .inr p1 =>
  some p1
theorem Q5S (a_:List Cone) (k_:Int) (r:Int) (h:Q20 a_ k_=some r):Contract Try.prog 46 [.lst true 2 (Es (Cone.cells true) a_),iV k_] (iV r):=by
 refine Qe (rvs:=[.tmp 4]) (rs:=[iV r]) Try.func46 rfl rfl rfl rfl (by simp [Try.f46]) fun F hN hP=>?_;unfold Q20 at h;refine Q3 ?_;refine runQ hN fun K hK=>?_;simp [-Q0,-Q6,-Q1,-Q7,-Q2];repeat refine sdQ ?_
 refine hK _ ?_;clear hK K;refine tn ?_;refine Q8 (st':=⟨[(0,.lst true 2 (Es (Cone.cells true) a_)),(1,iV k_)],[],0⟩) (wkQ8 []) ?_;refine Q3 ?_;refine Q3 ?_;refine runQ hN fun K hK=>?_;simp [-Q0,-Q6,-Q1,-Q7,-Q2];repeat refine sdQ ?_
 refine hK _ ?_;clear hK K;refine tn ?_;refine Q8 (st':=⟨[(0,.lst true 2 (Es (Cone.cells true) a_)),(1,iV k_),(5,iV 0)],[],0⟩) (wkQ8 []) ?_;replace h:=bind_some h;obtain ⟨e1,h,h1⟩:=h;refine Qk (fun b1:Int=>⟨[(1,iV b1)],[],0⟩) (fun b1=>Sum.inl b1=e1) ?_ ?_
 ·refine Qa ?_;refine Qy h (fun s10:Int × Int=>⟨[(0,.lst true 2 (Es (Cone.cells true) a_)),(1,iV s10.1),(5,iV s10.2)],[],0⟩) (wkQ8 []) ?_;clear h;intro k10 s10 c10 h hk10;refine Q3 ?_;refine Q3 ?_;refine runQ hN fun K hK=>?_;simp [-Q0,-Q6,-Q1,-Q7,-Q2];repeat refine sdQ ?_
  refine hK _ ?_;clear hK K;refine tn ?_;refine Q8 (st':=⟨[(0,.lst true 2 (Es (Cone.cells true) a_)),(1,iV s10.1),(5,iV s10.2),(9,.val (.bool (decide (s10.2<(a_.length:Int)))))],[],0⟩) (wkQ8 []) ?_;refine Qc rfl (fun g=>?_) fun g=>?_
  ·have g11:s10.2<(a_.length:Int):=gQ;clear g;replace h:=if_l g11 h;refine Qd ?_;refine tn ?_;refine Q3 ?_;refine Qa ?_;refine Q3 ?_;refine Q3 ?_;refine runQ hN fun K hK=>?_;replace h:=Q5 h;obtain ⟨a12,h⟩:=h;simp [-Q0,-Q6,-Q1,-Q7,-Q2,at_E (c:=(Cone.cells true)) a12];(repeat refine sdQ ?_);refine hK _ ?_;clear hK K;refine tn ?_;refine Q8 (st':=⟨[(0,.lst true 2 (Es (Cone.cells true) a_)),(1,iV s10.1),(5,iV s10.2),(18,.val (.bool (((gx a_ s10.2).a) != s10.1)))],[],0⟩) (wkQ8 []) ?_;refine Qc rfl (fun g=>?_) fun g=>?_
   ·have g13:¬ (((gx a_ s10.2).a)=s10.1):=gQ;clear g;replace h:=if_l g13 h;refine Q3 ?_;refine runQ hN fun K hK=>?_;simp [-Q0,-Q6,-Q1,-Q7,-Q2];(repeat refine sdQ ?_);refine hK _ ?_;clear hK K;refine tn ?_;refine Q8 (st':=⟨[(4,iV (-1))],[],0⟩) (wkQ8 []) ?_;refine Qi ?_;refine tr ?_;refine br ?_;refine tr ?_;refine lr ?_;refine br ?_;refine tr ?_;cases h;have q:_=e1:=hk10;have h:=h1;rw [← q] at h;clear q;(try dsimp only at h);have hr:=Option.some.inj h;rw [← hr];refine ⟨_,(.tmp .nil),?_⟩;refine ⟨(.one rfl rfl .nil),[iV (-1)],[],by simp [Cone.cells,UA,U1,IA,I1,LA,L1,BA,B1,EA,E1,E2,eB,eI,eL,Qg _ (Cone.cells true) _ (fun _=>rfl)],by simp,(UpL.refl _)⟩
   have g13:¬ (¬ (((gx a_ s10.2).a)=s10.1)):=gQ;clear g;replace h:=if_r g13 h;refine Qd ?_;refine tn ?_;refine Q3 ?_;refine runQ hN fun K hK=>?_;replace h:=Q5 h;obtain ⟨a14,h⟩:=h;simp [-Q0,-Q6,-Q1,-Q7,-Q2,Qs a14];(repeat refine sdQ ?_);refine hK _ ?_;clear hK K;refine tn ?_;refine Q8 (st':=⟨[(0,.lst true 2 (Es (Cone.cells true) a_)),(1,iV (s10.1+1)),(5,iV s10.2)],[],0⟩) (wkQ8 []) ?_;refine Q3 ?_;refine runQ hN fun K hK=>?_;replace h:=Q5 h;obtain ⟨a15,h⟩:=h;simp [-Q0,-Q6,-Q1,-Q7,-Q2,at_E (c:=(Cone.cells true)) a15];(repeat with_reducible refine sdQ ?_);replace h:=bind_some h;obtain ⟨v16,hv16,h⟩:=h;refine Q4 (Q52 _ _ v16 hv16) (.cons .lst (.cons .val .nil)) ?_;simp [-Q0,-Q6,-Q1,-Q7,-Q2,unk,unA,unE,unT,unC,flat,at_E (c:=(Cone.cells true)) a15];(repeat refine sdQ ?_);refine hK _ ?_;clear hK K;refine tn ?_;refine Q8 (st':=⟨[(0,.lst true 2 (Es (Cone.cells true) a_)),(1,iV v16),(5,iV s10.2)],[],0⟩) (wkQ8 []) ?_;refine Q3 ?_;refine runQ hN fun K hK=>?_;simp [-Q0,-Q6,-Q1,-Q7,-Q2];(repeat refine sdQ ?_);refine hK _ ?_;clear hK K;refine tn ?_;refine Q8 (st':=⟨[(0,.lst true 2 (Es (Cone.cells true) a_)),(1,iV v16),(5,iV s10.2),(29,.val (.bool (decide (v16<0))))],[],0⟩) (wkQ8 []) ?_;refine Qc rfl (fun g=>?_) fun g=>?_
   ·have g17:v16<0:=gQ;clear g;replace h:=if_l g17 h;refine Q3 ?_;refine runQ hN fun K hK=>?_;simp [-Q0,-Q6,-Q1,-Q7,-Q2];(repeat refine sdQ ?_);refine hK _ ?_;clear hK K;refine tn ?_;refine Q8 (st':=⟨[(4,iV (-1))],[],0⟩) (wkQ8 []) ?_;refine Qi ?_;refine br ?_;refine tr ?_;refine lr ?_;refine br ?_;refine tr ?_;cases h;have q:_=e1:=hk10;have h:=h1;rw [← q] at h;clear q;(try dsimp only at h);have hr:=Option.some.inj h;rw [← hr];refine ⟨_,(.tmp .nil),?_⟩;refine ⟨(.one rfl rfl .nil),[iV (-1)],[],by simp [Cone.cells,UA,U1,IA,I1,LA,L1,BA,B1,EA,E1,E2,eB,eI,eL,Qg _ (Cone.cells true) _ (fun _=>rfl)],by simp,(UpL.refl _)⟩
   have g17:¬ (v16<0):=gQ;clear g;replace h:=if_r g17 h;refine Qd ?_;refine bn ?_;refine tn ?_;refine runQ hN fun K hK=>?_;replace h:=Q5 h;obtain ⟨a18,h⟩:=h;simp [-Q0,-Q6,-Q1,-Q7,-Q2,Qs a18];(repeat refine sdQ ?_);refine hK _ ?_;clear hK K;cases h;exact rn (s':=(v16,s10.2+1)) hk10 (wkQ8 [])
  have g11:¬ (s10.2<(a_.length:Int)):=gQ;clear g;replace h:=if_r g11 h;refine Qr ?_;refine tx ?_;refine lx ?_;refine bh ?_;cases h;exact jn (b:=s10.1) hk10 (wkQ8 [])
 intro b1 hb1;have h:=h1;try rw [← hb1] at h
 clear h1;try dsimp only at h
 refine Q3 ?_;refine runQ hN fun K hK=>?_;simp [-Q0,-Q6,-Q1,-Q7,-Q2];repeat refine sdQ ?_
 refine hK _ ?_;clear hK K;refine tn ?_;refine Q8 (st':=⟨[(4,iV b1)],[],0⟩) (wkQ8 []) ?_;refine Qi ?_;have hr:=Option.some.inj h;rw [← hr];refine ⟨_,(.tmp .nil),?_⟩;refine ⟨(.one rfl rfl .nil),[iV b1],[],by simp [Cone.cells,UA,U1,IA,I1,LA,L1,BA,B1,EA,E1,E2,eB,eI,eL,Qg _ (Cone.cells true) _ (fun _=>rfl)],by simp,(UpL.refl _)⟩
def QV (k:Int):List Cone→List Cone
 | []=>[]
 | c :: r=>⟨k,run (k+1) c.l.length⟩ :: QV (k+1+c.l.length) r
def sumC (cs:List Cone):Nat:=(cs.map fun c=>1+c.l.length).sum
@[simp] theorem coneRuns_len (cs:List Cone):∀ k,(QV k cs).length=cs.length:=by
 induction cs with
 | nil=>intro k;rfl
 | cons c r ih=>intro k;simp [QV,ih]
theorem Q6x (cs:List Cone):∀ (i:Nat) (h:i<cs.length),sumC (cs.take (i+1))=sumC (cs.take i)+(1+cs[i].l.length):=by
 induction cs with
 | nil=>intro i h;simp at h
 | cons c r ih =>
  intro i h;cases i with
  | zero=>simp [sumC]
  | succ i =>
   have:=ih i (by simpa using h);simp only [sumC,List.take_succ_cons,List.map_cons,List.sum_cons,List.getElem_cons_succ] at this ⊢;omega
theorem sumC_le (cs:List Cone):∀ (i:Nat),sumC (cs.take i)≤sumC cs:=by
 induction cs with
 | nil=>intro i;simp [sumC]
 | cons c r ih =>
  intro i;cases i with
  | zero=>simp [sumC]
  | succ i =>
   have:=ih i;simp only [sumC,List.take_succ_cons,List.map_cons,List.sum_cons] at this ⊢;omega
theorem Q48 (cs:List Cone):∀ (k:Int) (i:Nat) (h:i<cs.length),(QV k cs)[i]'(by simpa using h)=⟨k+sumC (cs.take i),run (k+sumC (cs.take i)+1) cs[i].l.length⟩:=by
 induction cs with
 | nil=>intro k i h;simp at h
 | cons c r ih =>
  intro k i h;cases i with
  | zero=>simp [QV,sumC]
  | succ i =>
   simp only [QV,List.getElem_cons_succ];rw [ih _ i (by simpa using h)];have e:k+1+(c.l.length:Int)+(sumC (r.take i):Int)=k+(sumC ((c :: r).take (i+1)):Int):=by
    simp only [sumC,List.take_succ_cons,List.map_cons,List.sum_cons]
    push_cast
    omega
   rw [e]
theorem set_takeG {α:Type} {xs ys:List α} {i:Nat} (h1:i<xs.length) (h2:i<ys.length) (h:ys.take i=xs.take i):(ys.set i xs[i]).take (i+1)=xs.take (i+1):=by
 rw [List.take_succ_eq_append_getElem h1,List.take_succ_eq_append_getElem (by simpa using h2),List.take_set_of_le (Nat.le_refl _),h];simp
theorem Es_cget {ys:List Cone} {i:Nat} (h:i<ys.length):(Es (Cone.cells true) ys).getD i []=[iV ys[i].a,lI ys[i].l]:=by
 simp [Es,List.getD_eq_getElem?_getD,h,Cone.cells]
theorem Q6F {ys:List Cone} {i:Nat} {a:Int} {l:List Int}:(Es (Cone.cells true) ys).set i [iV a,lI l]=Es (Cone.cells true) (ys.set i ⟨a,l⟩):=by
 simp [Es,List.map_set,Cone.cells]
theorem markConeS (cs:List Cone) (k:Int) (h1:cs.length≤1048576) (h1':∀ c∈cs,c.l.length≤1048576) (h2:0≤k) (h3:k+sumC cs≤1152921504606846976) :
  MContract Try.prog 45 [.own 0 0 cs.length,iV k] [⟨2,Es (Cone.cells true) cs,Es (Cone.cells true) (QV k cs)⟩] (iV (k+sumC cs)):=by
 refine Q1b (ts:=[4]) (rv:=.int .i64 (k+sumC cs)) Try.func45 rfl rfl ?_ rfl (by simp [Try.f45]) ?_ fun F hN hP=>?_
 ·have:(-9223372036854775808≤k+sumC cs)∧k+sumC cs≤9223372036854775807:=by omega
  simp [resV,this]
 ·intro j hj;simp at hj;subst hj;simp
 refine srQ hN fun K hK=>?_;simp;refine hK _ ?_;clear hK K;refine Q3 (w_sr mo (by rw [hN];decide) fun K hK=>?_);simp;refine hK _ (Qa ?_);clear hK K;refine QT (fun p:Nat × List Cone=>⟨[(0,.own 0 0 cs.length),(1,iV (k+sumC (cs.take p.1))),(5,iV p.1)],[(0,.row 2 (Es (Cone.cells true) p.2))],1⟩) (fun p=>p.1≤cs.length∧p.2.length=cs.length∧p.2.take p.1=(QV k cs).take p.1∧p.2.drop p.1=cs.drop p.1) (fun p=>cs.length - p.1) (0,cs) (by simp) (Wk.cut (by simp [sumC]) (by simp [Q40]) rfl) ?_
 rintro ⟨i,ys⟩ ⟨hi,hy,ht,hd⟩
 simp at hi hy ht hd;refine Q3 (w_sr mo (by rw [hN];decide) fun K hK=>?_);simp;refine hK _ (Qc rfl (fun h=>?_) fun h=>?_)<;>clear hK K
 ·simp at h;have hiy:i<ys.length:=by omega
  have he:ys[i]=cs[i]:=by
   have h5:=congrArg (fun l=>l[0]?) hd;simpa [h,hiy] using h5
  have hs1:=Q6x cs i h;have hs2:=sumC_le cs (i+1);have hcl:=h1' _ (List.getElem_mem h);refine Qd ?_;simp only [Q3R];refine Q3 (Qa ?_);refine Q3 (w_run mo (by rw [hN];decide) fun K hK=>?_);simp [h,hy,Es_cget hiy,Q6F];refine hK _ ?_;clear hK K;have hrow:(Es (Cone.cells true) ys).set i (((Es (Cone.cells true) ys)[i]'(by simpa [Es] using hiy)).set 0 (iV (k+sumC (cs.take i))))=Es (Cone.cells true) (ys.set i ⟨k+sumC (cs.take i),cs[i].l⟩):=by
   rw [← Q6F];simp [Es,Cone.cells,he]
  refine Q8 (st':=⟨[(0,.own 0 0 cs.length),(1,iV (k+sumC (cs.take i))),(5,iV i)],[(0,.row 2 (Es (Cone.cells true) (ys.set i ⟨k+sumC (cs.take i),cs[i].l⟩)))],1⟩) (Wk.cut (by simp) (by simp only [hrow]) rfl) ?_;refine Q3 (w_run mo (by rw [hN];decide) fun K hK=>?_);simp;rw [Qs (x:=k+sumC (cs.take i)+1) ⟨by omega,by omega⟩];refine hK _ ?_;clear hK K;have hget:(Es (Cone.cells true) (ys.set i ⟨k+sumC (cs.take i),cs[i].l⟩)).getD i []=[iV (k+sumC (cs.take i)),lI cs[i].l]:=by
   rw [Es_cget (by simpa using hiy)];simp
  have hlen:(Es (Cone.cells true) (ys.set i ⟨k+sumC (cs.take i),cs[i].l⟩)).length=cs.length:=by simp [Es,hy]
  generalize hE:Es (Cone.cells true) (ys.set i ⟨k+sumC (cs.take i),cs[i].l⟩)=E at *;have hi2:i<E.length:=by omega
  have hgi:∀ q:i<E.length,E[i]'q=[iV (k+sumC (cs.take i)),lI cs[i].l]:=fun q=>by
   rw [← hget];simp [List.getD_eq_getElem?_getD,hi2]
  refine w_runM mo (by rw [hN];decide) fun K hK=>?_;simp [h,hlen,hgi];refine Q3E (m:=[1]) (m32 cs[i].l (k+sumC (cs.take i)+1) hcl (by omega) (by omega)) (MCall.cell (i:=i) (r:=0) (k:=1) (szr:=2) (esr:=E) (dels:=[1]) rfl rfl hi2 (by simp) (by simp [hgi,hi2]) (by simp [hgi,hi2]) (by simp) (by simp [Q5A])) rfl ?_ ?_ ?_
  ·intro q hq
   match q,hq with
   | 0,_ =>
    show MArg [1] (.own 1 0 cs[i].l.length) (.own 0 0 cs[i].l.length);exact .own (j:=0) (by simp)
   | 1,_=>exact .val
  ·intro j hj;have hj0:j=0:=(by simpa using hj);subst hj0;exact ⟨0,by simp,by simp [Occ]⟩
  simp [hgi,hi2];refine hK _ ?_;clear hK K;refine runQ hN fun K hK=>?_;simp;refine hK _ ?_;clear hK K;rw [Qt (n:=cs.length) (by omega) (by omega)];refine ⟨(i+1,ys.set i ⟨k+sumC (cs.take i),run (k+sumC (cs.take i)+1) cs[i].l.length⟩),⟨by dsimp only;omega,by simp [hy],?_,?_⟩,by dsimp only;omega,Wk.relabel [(0,0)] (by simp) (by simp) (by rw [hP];simp) (by simp) (by simp) ?_ ?_⟩
  ·have:=set_takeG (xs:=QV k cs) (ys:=ys) (i:=i) (by simpa using h) hiy ht;rw [Q48 cs k i h] at this;exact this
  ·dsimp only;rw [List.drop_set_of_lt (by omega)];have:=congrArg (List.drop 1) hd;simpa [List.drop_drop,Nat.add_comm] using this
  ·simp [hs1,rl];omega
  have hfin:E.set i [iV (k+sumC (cs.take i)),lI (run (k+sumC (cs.take i)+1) cs[i].l.length)]=Es (Cone.cells true) (ys.set i ⟨k+sumC (cs.take i),run (k+sumC (cs.take i)+1) cs[i].l.length⟩):=by
   rw [← hE,Q6F,List.set_set]
  simp [rlE,hgi,hi2,hfin]
 simp at h;refine Qr ?_;simp;refine srQ hN fun K hK=>?_;simp;refine hK _ (Qi ?_);clear hK K;have hi':i=cs.length:=by omega
 subst hi';rw [List.take_of_length_le (by omega),List.take_of_length_le (by simp)] at ht;subst ht;refine ⟨?_,?_⟩
 ·simp [Q73]
 intro j hj;simp at hj;subst hj;simp
theorem e_eqConeS (cs:List Cone) (h:cs.length≤1048576):Q2M cs cs=some true:=by
 unfold Q2M Q3i Q2p;rw [if_neg (by simp)];refine Q1t cs.length (fun _=>True) (eb:=Sum.inr false) (eg:=Sum.inl ()) (by omega) (fun i hi _=>?_) (fun i hi q=>absurd trivial q) (by rw [if_neg (by omega)]) (fun q=>absurd (fun _ _=>trivial) q) fun _=>rfl;rw [if_pos (by omega),Q9 (by omega),Q9 (by omega)];simp only [not_true_eq_false,if_false,Option.bind_some,decide_true];rw [Q9 (by unfold B64;omega)]
theorem Q6N (cs:List Cone) (k:Int) (h1:cs.length≤1048576) (h1':∀ c∈cs,c.l.length≤1048576) (h2:0≤k) (h3:k+sumC cs≤1152921504606846976):Q20 (QV k cs) k=some (k+sumC cs):=by
 unfold Q20;refine run_bind (σ:=Int × Int) cs.length (fun i=>(k+sumC (cs.take i),(i:Int))) (e:=Sum.inl (k+sumC cs)) (by simp [sumC]) (by omega) (fun i hi=>?_) ?_ rfl
 ·have hs1:=Q6x cs i hi;have hs2:=sumC_le cs (i+1);have hcl:=h1' _ (List.getElem_mem hi);have hg:gx (QV k cs) i=⟨k+sumC (cs.take i),run (k+sumC (cs.take i)+1) cs[i].l.length⟩:=by
   rw [gx_nat _ (by simpa using hi)];exact Q48 cs k i hi
  unfold Q1K;simp only [hg];rw [if_pos (by simp;omega),Q9 (by simp;omega),if_neg (by simp),Q9 (by unfold B64;omega),Q9 (by simp;omega),Q9 (by simp;omega),Q9 (by omega),Q9 (by omega)];simp only [Option.bind_some,held_run];rw [if_neg (by omega),Q9 (by unfold B64;omega)]
  congr 3
  rw [hs1];push_cast;omega
 simp only;rw [if_neg (by simp)];rw [List.take_length]
theorem Q6Q (u v:Bool) (cs:List Cone) (h:cs.length≤1048576):Contract Try.prog 44 [.lst true 2 (Es (Cone.cells true) cs),.lst true 2 (Es (Cone.cells true) cs)] (.val (.bool true)):=Q7f cs cs true (e_eqConeS cs h)
theorem Q67 (u:Bool) (cs:List Cone) (k:Int) (h1:cs.length≤1048576) (h1':∀ c∈cs,c.l.length≤1048576) (h2:0≤k) (h3:k+sumC cs≤1152921504606846976):Contract Try.prog 46 [.lst true 2 (Es (Cone.cells true) (QV k cs)),iV k] (iV (k+sumC cs)):=Q5S _ _ _ (Q6N cs k h1 h1' h2 h3)
theorem flt_bind {ε β:Type} {body:List Int × Int→Option (Ctl (List Int × Int) ε)} {K:ε→Option β} {r:Option β} (xs:List Int) (q:Int→Prop) {e:ε} (hn:xs.length<4611686018427387904)
  (h:∀ (i:Nat) (acc:List Int),i<xs.length→acc.length≤i→(q (ix xs i)→body (acc,(i:Int))=some (.next (acc++[ix xs i],(i:Int)+1)))∧(¬ q (ix xs i)→body (acc,(i:Int))=some (.next (acc,(i:Int)+1))))
  (he:body (xs.filter (fun f=>bo (q f)),(xs.length:Int))=some (.ret e)) (hk:K e=r):(QA body fuel ([],0)).bind K=r:=by
 refine Q1F xs.length (fun i=>(xs.take i).filter fun f=>bo (q f)) (e:=e) (by simp) hn (fun i hi=>?_) (by simpa using he) hk;have hl:((xs.take i).filter fun f=>bo (q f)).length≤i:=Nat.le_trans (List.length_filter_le _ _) (by simp;omega);have hs:xs.take (i+1)=xs.take i++[ix xs i]:=by rw [List.take_succ_eq_append_getElem hi,Q1k _ _ hi]
 have hf:((xs.take (i+1)).filter fun f=>bo (q f))=((xs.take i).filter fun f=>bo (q f))++(if bo (q (ix xs i))=true then [ix xs i] else []):=by rw [hs,List.filter_append];simp [List.filter_cons]
 obtain ⟨h1,h2⟩:=h i _ hi hl
 by_cases hq:q (ix xs i)
 ·rw [h1 hq,hf,Q1s hq];simp
 rw [h2 hq,hf,QO hq];simp
theorem mem_ix {xs:List Int} {P:Int→Prop} (h:∀ x∈xs,P x) {i:Nat} (hi:i<xs.length):P (ix xs i):=by
 rw [← Q1k _ _ hi];exact h _ (List.getElem_mem hi)
noncomputable def homL (c:Cat) (x y:Int):List Int:=flt c.fr.length fun a=>ix c.fr a=x∧ix c.to a=y
theorem Q3K {c:Cat} {x y:Int}:∀ f∈homL c x y,Ar c f x y:=by
 intro f hf;obtain ⟨i,h1,h2,rfl⟩:=mem_flt.1 hf;exact ⟨by omega,h2⟩
theorem Q5z (c:Cat) (x y:Int):(homL c x y).length≤c.fr.length:=flt_len _ _
theorem e_homs {c:Cat} (h:c.Is) (x y:Int):Q23 c x y=some (homL c x y)∧QF c x y=some (homL c x y):=⟨by rw [e_l02Hom,e_hom h];rfl,e_hom h x y⟩
end Go.Vc.T
