/- A part of the proof: a verified generator of conditions, and what each function of the program does. -/
import Derived.Test.YtoaahhbohijaiaaR7
set_option maxRecDepth 100000
set_option maxHeartbeats 4000000
set_option linter.unusedSimpArgs false
set_option linter.unusedVariables false

namespace Go.Vc.T
open Go Go.Vc Go.Proofs
def Es {α:Type} (c:α→List AV) (xs:List α):List (List AV):=xs.map c
def eB (b:Bool):List AV:=[.val (.bool b)]
def eI (b:Int):List AV:=[iV b]
def eL (x:List (List Int)):List AV:=[.lst true 1 (Ls x)]
section
variable {α:Type} {c:α→List AV}
@[simp] theorem Es_nil:Es c []=[]:=rfl
theorem Es_append (xs ys:List α):Es c (xs++ys)=Es c xs++Es c ys:=by simp [Es]
theorem Es_set' (xs:List α) (i:Nat) (x:α):Es c (xs.set i x)=(Es c xs).set i (c x):=by simp [Es,List.map_set]
end
@[simp] theorem Ls_nil':Ls []=[]:=rfl
theorem Ls_append (xs ys:List (List Int)):Ls (xs++ys)=Ls xs++Ls ys:=by simp [Ls]
@[simp] theorem Ls_rep0 (n:Nat):Ls (List.replicate n [])=List.replicate n [AV.lst true 1 []]:=by simp [Ls]
theorem at_I {xs:List Int} {j:Int} (h:0≤j∧j<(xs.length:Int)):(Is xs)[j.toNat]? = some [iV (ix xs j)]:=by
 have h2:j.toNat<xs.length:=by omega
 simp [Is,ix,List.getD_eq_getElem?_getD,h2]
theorem at_L {xs:List (List Int)} {j:Int} (h:0≤j∧j<(xs.length:Int)):(Ls xs)[j.toNat]? = some [lI (rx xs j)]:=by
 have h2:j.toNat<xs.length:=by omega
 simp [Ls,rx,List.getD_eq_getElem?_getD,h2]
@[simp] theorem Is_takeA (xs:List Int):List.take xs.length (Is xs)=Is xs:=List.take_of_length_le (by simp)
@[simp] theorem Ls_takeA (xs:List (List Int)):List.take xs.length (Ls xs)=Ls xs:=List.take_of_length_le (by simp)
@[simp] theorem Us_takeA (xs:List Int):List.take xs.length (Us xs)=Us xs:=List.take_of_length_le (by simp)
@[simp] theorem u8_min:IntKind.u8.min=0:=rfl
@[simp] theorem u8_max:IntKind.u8.max=255:=rfl
@[simp] theorem Bs_nil':Bs []=[]:=rfl
theorem Bs_append (xs ys:List Bool):Bs (xs++ys)=Bs xs++Bs ys:=by simp [Bs]
theorem IA (xs ys:List Int):Is (xs++ys)=Is xs++Is ys:=Is_append xs ys
theorem I1 (x:Int) (xs:List Int):Is (x :: xs)=[iV x] :: Is xs:=rfl
theorem LA (xs ys:List (List Int)):Ls (xs++ys)=Ls xs++Ls ys:=Ls_append xs ys
theorem L1 (x:List Int) (xs:List (List Int)):Ls (x :: xs)=[lI x] :: Ls xs:=rfl
theorem BA (xs ys:List Bool):Bs (xs++ys)=Bs xs++Bs ys:=Bs_append xs ys
theorem B1 (x:Bool) (xs:List Bool):Bs (x :: xs)=[.val (.bool x)] :: Bs xs:=rfl
theorem EA {α:Type} {c:α→List AV} (xs ys:List α):Es c (xs++ys)=Es c xs++Es c ys:=Es_append xs ys
theorem E1 {α:Type} {c:α→List AV} (x:α) (xs:List α):Es c (x :: xs)=c x :: Es c xs:=rfl
theorem E2 {α:Type} {c:α→List AV} (xs:List α) (i:Nat) (x:α):Es c (xs.set i x)=(Es c xs).set i (c x):=Es_set' xs i x
theorem rlLL_c {α:Type} {m:List (Nat × Nat)} {c:α→List AV} (h:∀ x,rlL m (c x)=c x):∀ xs:List α,rlLL m (xs.map c)=xs.map c:=by
 intro xs
 induction xs with
 | nil=>rfl
 | cons a r ih=>simp only [List.map_cons,rlLL,h,ih]
@[simp] theorem Q1a {α:Type} (m:List (Nat × Nat)) (c:α→List AV) (xs:List α) (h:∀ x,rlL m (c x)=c x):rlLL m (Es c xs)=Es c xs:=rlLL_c h xs
theorem Ls_st {xss:List (List Int)} {i:Nat} {x:List Int}:(Ls xss).set i (((Ls xss).getD i []).set 0 (lI x))=Ls (xss.set i x):=by
 by_cases h:i<xss.length
 ·rw [← Ls_set];congr 1;simp [Ls,List.getD_eq_getElem?_getD,h]
 rw [List.set_eq_of_length_le (by simp;omega),List.set_eq_of_length_le (by omega)]
def Q2p (x:Cat):List AV:=[.rptr (x.cells true)]
def eP_Fn (x:Fn):List AV:=[.rptr (x.cells true)]
def Q7c (x:SF):List AV:=[.rptr (x.cells true)]
def eP_SM (x:SM):List AV:=[.rptr (x.cells true)]
instance:Inhabited Cat:=⟨⟨0,[],[],[],[]⟩⟩
instance:Inhabited Fn:=⟨⟨default,default,[],[]⟩⟩
instance:Inhabited SF:=⟨⟨default,[],[]⟩⟩
instance:Inhabited SM:=⟨⟨default,default,[]⟩⟩
structure Cone where
 a:Int
 l:List Int
def Cone.cells (u:Bool) (f:Cone):List AV:=[iV f.a,.lst u 1 (Is f.l)]
structure Ends where
 a:Int
 b:Int
def Ends.cells (u:Bool) (f:Ends):List AV:=[iV f.a,iV f.b]
structure XCocones where
 opposite_:Fn
def XCocones.cells (u:Bool) (f:XCocones):List AV:=[.rptr (Fn.cells true f.opposite_)]
structure XGrothendieck where
 category_:Cat
 objects_:List (List Int)
 arrows_:List (List Int)
 objectAt_:List (ByteArray × Int)
 arrowAt_:List (ByteArray × Int)
def XGrothendieck.cells (u:Bool) (f:XGrothendieck):List AV:=[iV f.category_.n,.lst u 1 (Is f.category_.fr),.lst u 1 (Is f.category_.to),.lst u 1 (Is f.category_.id),.lst u 1 (Ls f.category_.cs),.lst u 1 (Ls f.objects_),.lst u 1 (Ls f.arrows_),.cmap .str (Msi f.objectAt_),.cmap .str (Msi f.arrowAt_)]
instance:Inhabited XGrothendieck:=⟨⟨default,default,default,default,default⟩⟩
def Q1z (x:XGrothendieck):List AV:=[.rptr (x.cells true)]
structure XL07State where
 f_:Fn
 g_:Fn
 iso_:Bool
 most_:Int
 found_:List (List Int)
def XL07State.cells (u:Bool) (f:XL07State):List AV:=[iV f.f_.s.n,.lst u 1 (Is f.f_.s.fr),.lst u 1 (Is f.f_.s.to),.lst u 1 (Is f.f_.s.id),.lst u 1 (Ls f.f_.s.cs),iV f.f_.t.n,.lst u 1 (Is f.f_.t.fr),.lst u 1 (Is f.f_.t.to),.lst u 1 (Is f.f_.t.id),.lst u 1 (Ls f.f_.t.cs),.lst u 1 (Is f.f_.ob),.lst u 1 (Is f.f_.ar),iV f.g_.s.n,.lst u 1 (Is f.g_.s.fr),.lst u 1 (Is f.g_.s.to),.lst u 1 (Is f.g_.s.id),.lst u 1 (Ls f.g_.s.cs),iV f.g_.t.n,.lst u 1 (Is f.g_.t.fr),.lst u 1 (Is f.g_.t.to),.lst u 1 (Is f.g_.t.id),.lst u 1 (Ls f.g_.t.cs),.lst u 1 (Is f.g_.ob),.lst u 1 (Is f.g_.ar),.val (.bool f.iso_),iV f.most_,.lst u 1 (Ls f.found_)]
structure XL20Space where
 c_:Cat
 objects_:List (List Int)
 arrows_:List (List Int)
def XL20Space.cells (u:Bool) (f:XL20Space):List AV:=[iV f.c_.n,.lst u 1 (Is f.c_.fr),.lst u 1 (Is f.c_.to),.lst u 1 (Is f.c_.id),.lst u 1 (Ls f.c_.cs),.lst u 1 (Ls f.objects_),.lst u 1 (Ls f.arrows_)]
instance:Inhabited XL20Space:=⟨⟨default,default,default⟩⟩
def Qu (x:XL20Space):List AV:=[.rptr (x.cells true)]
structure XMoved where
 d_:Fn
 image_:Fn
 f_:Fn
 all_:List Cone
 more_:List Cone
def XMoved.cells (u:Bool) (f:XMoved):List AV:=[iV f.d_.s.n,.lst u 1 (Is f.d_.s.fr),.lst u 1 (Is f.d_.s.to),.lst u 1 (Is f.d_.s.id),.lst u 1 (Ls f.d_.s.cs),iV f.d_.t.n,.lst u 1 (Is f.d_.t.fr),.lst u 1 (Is f.d_.t.to),.lst u 1 (Is f.d_.t.id),.lst u 1 (Ls f.d_.t.cs),.lst u 1 (Is f.d_.ob),.lst u 1 (Is f.d_.ar),iV f.image_.s.n,.lst u 1 (Is f.image_.s.fr),.lst u 1 (Is f.image_.s.to),.lst u 1 (Is f.image_.s.id),.lst u 1 (Ls f.image_.s.cs),iV f.image_.t.n,.lst u 1 (Is f.image_.t.fr),.lst u 1 (Is f.image_.t.to),.lst u 1 (Is f.image_.t.id),.lst u 1 (Ls f.image_.t.cs),.lst u 1 (Is f.image_.ob),.lst u 1 (Is f.image_.ar),.rptr (Fn.cells true f.f_),.lst u 2 (Es (Cone.cells true) f.all_),.lst u 2 (Es (Cone.cells true) f.more_)]
@[simp] theorem bf_136_9:byS Try.prog 136 9=some 5:=by kernel_rfl
@[simp] theorem ef_136:elm Try.prog 136=some 5:=by kernel_rfl
@[simp] theorem ff_33_0:fld Try.prog 33 0=some (0,5,true):=by kernel_rfl
@[simp] theorem ff_33_1:fld Try.prog 33 1=some (5,5,true):=by kernel_rfl
@[simp] theorem ff_33_2:fld Try.prog 33 2=some (10,1,false):=by kernel_rfl
@[simp] theorem ff_33_3:fld Try.prog 33 3=some (11,1,false):=by kernel_rfl
@[simp] theorem ff_77_0:fld Try.prog 77 0=some (0,5,true):=by kernel_rfl
@[simp] theorem ff_77_1:fld Try.prog 77 1=some (5,1,false):=by kernel_rfl
@[simp] theorem ff_77_2:fld Try.prog 77 2=some (6,1,false):=by kernel_rfl
@[simp] theorem ff_90_0:fld Try.prog 90 0=some (0,5,true):=by kernel_rfl
@[simp] theorem ff_90_1:fld Try.prog 90 1=some (5,1,false):=by kernel_rfl
@[simp] theorem ff_90_2:fld Try.prog 90 2=some (6,1,false):=by kernel_rfl
@[simp] theorem ff_90_3:fld Try.prog 90 3=some (7,1,false):=by kernel_rfl
@[simp] theorem ff_90_4:fld Try.prog 90 4=some (8,1,false):=by kernel_rfl
@[simp] theorem kf_2:intk Try.prog 2=some .i64:=by kernel_rfl
@[simp] theorem kf_5:intk Try.prog 5=some .u8:=by kernel_rfl
@[simp] theorem mf_88:mty Try.prog 88=some (.str,.int .i64 0):=by kernel_rfl
@[simp] theorem pf_33:Q2P Try.prog 33=some [(0,5),(5,5),(10,1),(11,1)]:=by kernel_rfl
@[simp] theorem pf_77:Q2P Try.prog 77=some [(0,5),(5,1),(6,1)]:=by kernel_rfl
@[simp] theorem pf_90:Q2P Try.prog 90=some [(0,5),(5,1),(6,1),(7,1),(8,1)]:=by kernel_rfl
@[simp] theorem tf_5:tyi Try.prog 5=some ⟨false,1,1,[.int .u8 0]⟩:=by kernel_rfl
@[simp] theorem tf_22:tyi Try.prog 22=some ⟨false,1,24,[.slice none 0 0]⟩:=by kernel_rfl
@[simp] theorem Q4q:tyi Try.prog 33=some ⟨true,12,256,[.int .i64 0,.slice none 0 0,.slice none 0 0,.slice none 0 0,.slice none 0 0,.int .i64 0,.slice none 0 0,.slice none 0 0,.slice none 0 0,.slice none 0 0,.slice none 0 0,.slice none 0 0]⟩:=by kernel_rfl
@[simp] theorem tf_77:tyi Try.prog 77=some ⟨true,7,152,[.int .i64 0,.slice none 0 0,.slice none 0 0,.slice none 0 0,.slice none 0 0,.slice none 0 0,.slice none 0 0]⟩:=by kernel_rfl
@[simp] theorem tf_85:tyi Try.prog 85=some ⟨false,1,8,[.pointer none]⟩:=by kernel_rfl
@[simp] theorem tf_88:tyi Try.prog 88=some ⟨false,1,8,[.map none]⟩:=by kernel_rfl
@[simp] theorem tf_90:tyi Try.prog 90=some ⟨true,9,168,[.int .i64 0,.slice none 0 0,.slice none 0 0,.slice none 0 0,.slice none 0 0,.slice none 0 0,.slice none 0 0,.map none,.map none]⟩:=by kernel_rfl
@[simp] theorem tf_93:tyi Try.prog 93=some ⟨false,1,8,[.pointer none]⟩:=by kernel_rfl
theorem mu_len {ms:List Mu} (h:∀ u∈ms,u.fs.length=u.es.length):∀ j,j<ms.length→(ms.getD j .none).fs.length=(ms.getD j .none).es.length:=fun j hj=>by rw [List.getD_eq_getElem?_getD,List.getElem?_eq_getElem hj];exact h _ (List.getElem_mem hj)
theorem markCat (f:Cat) (k:Int) (hf:f.ok) (h2:0≤k) (h3:k+f.size≤576460752303423488):MContract Try.prog 65 [.agg [iV f.n,.own 0 0 f.fr.length,.own 1 0 f.to.length,.own 2 0 f.id.length,.own 3 0 f.cs.length],iV k] (f.mu k) (iV (k+f.size)):=by
 have q:=m31 f k hf h2 (by omega)
 rwa [show k+f.fr.length+f.to.length+f.id.length+sumL f.cs=k+f.size by simp [Cat.size,Int.add_assoc]] at q
def Fn.mu (f:Fn) (k:Int):List Mu:=[⟨1,Is f.s.fr,Is (f.mark k).s.fr⟩,⟨1,Is f.s.to,Is (f.mark k).s.to⟩,⟨1,Is f.s.id,Is (f.mark k).s.id⟩,⟨1,Ls f.s.cs,Ls (f.mark k).s.cs⟩,⟨1,Is f.t.fr,Is (f.mark k).t.fr⟩,⟨1,Is f.t.to,Is (f.mark k).t.to⟩,⟨1,Is f.t.id,Is (f.mark k).t.id⟩,⟨1,Ls f.t.cs,Ls (f.mark k).t.cs⟩,⟨1,Is f.ob,Is (f.mark k).ob⟩,⟨1,Is f.ar,Is (f.mark k).ar⟩]
theorem eqFn (u v:Bool) (f:Fn):Contract Try.prog 16 [.agg (f.cells u),.agg (f.cells v)] (.val (.bool true)):=by
 refine Q6 (rs:=[.val (.bool true)]) Try.func16 rfl rfl rfl rfl (by simp [Try.f16]) fun F hN hP=>?_;refine srQ hN fun K hK=>?_;simp [Fn.cells];refine hK _ ?_;clear hK K;refine Q2 ?_;refine srQ hN fun K hK=>?_;simp;refine Q1 (c26 u v f.s) (.cons (.aggL Cat.pur) (.cons (.aggL Cat.pur) .nil)) ?_;simp [unk,unA,unE,flat];refine hK _ ?_;clear hK K;refine Q8 rfl (fun h=>by simp at h) fun _=>?_;refine Q9 ?_;refine Q2 ?_;refine srQ hN fun K hK=>?_;simp;refine Q1 (c26 u v f.t) (.cons (.aggL Cat.pur) (.cons (.aggL Cat.pur) .nil)) ?_;simp [unk,unA,unE,flat];refine hK _ ?_;clear hK K;refine Q8 rfl (fun h=>by simp at h) fun _=>?_;refine Q9 ?_;refine Q2 ?_;refine srQ hN fun K hK=>?_;simp;refine Q1 (c29 u v f.ob f.ob) (.cons .lst (.cons .lst .nil)) ?_;simp [unk,unA,unE,flat];refine hK _ ?_;clear hK K;refine Q8 rfl (fun h=>by simp at h) fun _=>?_;refine Q9 ?_;refine Q2 ?_;refine srQ hN fun K hK=>?_;simp;refine Q1 (c29 u v f.ar f.ar) (.cons .lst (.cons .lst .nil)) ?_;simp [unk,unA,unE,flat];refine hK _ ?_;clear hK K;refine Q8 rfl (fun h=>by simp at h) fun _=>?_;refine Q9 ?_;refine srQ hN fun K hK=>?_;simp;refine hK _ ?_;clear hK K;refine Qh (Qf rfl rfl)
theorem heldFn (u:Bool) (f:Fn) (k:Int) (hf:f.ok) (h2:0≤k) (h3:k+f.size≤1152921504606846976):Contract Try.prog 20 [.agg ((f.mark k).cells u),iV k] (iV (k+f.size)):=by
 obtain ⟨hs,ht,hob,har⟩:=hf;have hz:f.size=f.s.size+f.t.size+f.ob.length+f.ar.length:=rfl;refine Q6 (rs:=[iV (k+f.size)]) Try.func20 rfl rfl rfl rfl (by simp [Try.f20]) fun F hN hP=>?_;refine srQ hN fun K hK=>?_;simp [Fn.cells,Cat.mark,Fn.mark];refine hK _ ?_;clear hK K;refine srQ hN fun K hK=>?_;simp;refine Q1 (c36 u f.s (k) hs (by omega) (by omega)) (.cons (.aggL (.cons .val (.cons .lst (.cons .lst (.cons .lst (.cons .lst .nil)))))) (.cons .val .nil)) ?_;simp [unk,unA,unE,flat];refine hK _ ?_;clear hK K;refine Q2 ?_;refine srQ hN fun K hK=>?_;simp;refine hK _ ?_;clear hK K;refine Q8 rfl (fun g=>?_) fun g=>?_
 ·simp at g;omega
 refine Q9 ?_;refine srQ hN fun K hK=>?_;simp;refine Q1 (c36 u f.t (k+f.s.size) ht (by omega) (by omega)) (.cons (.aggL (.cons .val (.cons .lst (.cons .lst (.cons .lst (.cons .lst .nil)))))) (.cons .val .nil)) ?_;simp [unk,unA,unE,flat];refine hK _ ?_;clear hK K;refine Q2 ?_;refine srQ hN fun K hK=>?_;simp;refine hK _ ?_;clear hK K;refine Q8 rfl (fun g=>?_) fun g=>?_
 ·simp at g;omega
 refine Q9 ?_;refine srQ hN fun K hK=>?_;simp;refine Q1 (c53 u (run (k+f.s.size+f.t.size) f.ob.length) (k+f.s.size+f.t.size) (by simpa using hob) (by omega) (by omega)) (.cons .lst (.cons .val .nil)) ?_;simp [unk,unA,unE,flat];refine hK _ ?_;clear hK K;refine Q2 ?_;refine srQ hN fun K hK=>?_;simp;refine hK _ ?_;clear hK K;refine Q8 rfl (fun g=>?_) fun g=>?_
 ·simp at g;omega
 refine Q9 ?_;refine srQ hN fun K hK=>?_;simp;refine Q1 (c53 u (run (k+f.s.size+f.t.size+f.ob.length) f.ar.length) (k+f.s.size+f.t.size+f.ob.length) (by simpa using har) (by omega) (by omega)) (.cons .lst (.cons .val .nil)) ?_;simp [unk,unA,unE,flat];refine hK _ ?_;clear hK K;refine Q2 ?_;refine srQ hN fun K hK=>?_;simp;refine hK _ ?_;clear hK K;refine Q8 rfl (fun g=>?_) fun g=>?_
 ·simp at g;omega
 refine Q9 ?_;refine srQ hN fun K hK=>?_;simp;refine hK _ ?_;clear hK K;refine Qh (Qf rfl ?_);simp [hz,Int.add_assoc]
theorem markFn (f:Fn) (k:Int) (hf:f.ok) (h2:0≤k) (h3:k+f.size≤576460752303423488) :
  MContract Try.prog 19 [.agg [iV f.s.n,.own 0 0 f.s.fr.length,.own 1 0 f.s.to.length,.own 2 0 f.s.id.length,.own 3 0 f.s.cs.length,iV f.t.n,.own 4 0 f.t.fr.length,.own 5 0 f.t.to.length,.own 6 0 f.t.id.length,.own 7 0 f.t.cs.length,.own 8 0 f.ob.length,.own 9 0 f.ar.length],iV k] (f.mu k) (iV (k+f.size)):=by
 obtain ⟨hs,ht,hob,har⟩:=hf;have hz:f.size=f.s.size+f.t.size+f.ob.length+f.ar.length:=rfl;refine QW (ts:=[4]) (rv:=.int .i64 (k+f.size)) Try.func19 rfl rfl ?_ rfl (by simp [Try.f19]) ?_ fun F hN hP=>?_
 ·have:(-9223372036854775808≤k+f.size)∧k+f.size≤9223372036854775807:=by omega
  simp [resV,this]
 ·exact mu_len (by simp [Fn.mu,Fn.mark,Cat.mark])
 refine srQ hN fun K hK=>?_;simp [Q39,Fn.mu];refine hK _ ?_;clear hK K;refine Q2K mo (by rw [hN];decide) fun K hK=>?_;simp;refine Q1f (m:=[0,1,2,3]) (markCat f.s (k) hs (by omega) (by omega)) (by decide) (.cons rfl (.cons rfl (.cons rfl (.cons rfl .nil)))) (.cons (.aggL (.cons .val (.cons (.own (j:=0) (by decide)) (.cons (.own (j:=1) (by decide)) (.cons (.own (j:=2) (by decide)) (.cons (.own (j:=3) (by decide)) .nil)))))) (.cons .val .nil)) rfl (by simp) ?_;simp [Q2I,Cat.mu];refine hK _ ?_;clear hK K;refine Q2K mo (by rw [hN];decide) fun K hK=>?_;simp;refine Q1f (m:=[4,5,6,7]) (markCat f.t (k+f.s.size) ht (by omega) (by omega)) (by decide) (.cons rfl (.cons rfl (.cons rfl (.cons rfl .nil)))) (.cons (.aggL (.cons .val (.cons (.own (j:=0) (by decide)) (.cons (.own (j:=1) (by decide)) (.cons (.own (j:=2) (by decide)) (.cons (.own (j:=3) (by decide)) .nil)))))) (.cons .val .nil)) rfl (by simp) ?_;simp [Q2I,Cat.mu];refine hK _ ?_;clear hK K;refine Q2K mo (by rw [hN];decide) fun K hK=>?_;simp;refine Q17 (m32 f.ob (k+f.s.size+f.t.size) hob (by omega) (by omega)) rfl (by simp) ?_;simp;refine hK _ ?_;clear hK K;refine Q2K mo (by rw [hN];decide) fun K hK=>?_;simp;refine Q17 (m32 f.ar (k+f.s.size+f.t.size+f.ob.length) har (by omega) (by omega)) rfl (by simp) ?_;simp;refine hK _ ?_;clear hK K;refine srQ hN fun K hK=>?_;simp;refine hK _ ?_;clear hK K;refine Qh (mret ?_ ?_)
 ·simp [hz,Int.add_assoc]
 exact (.cons rfl (.cons rfl (.cons rfl (.cons rfl (.cons rfl (.cons rfl (.cons rfl (.cons rfl (.cons rfl (.cons rfl .nil))))))))))
noncomputable def Q26 (xs:List Int):Option (List Int) :=
 ass (xs.length≤1048576) <| some (xs)
theorem Q4K (xs:List Int) (r:List Int) (h:Q26 xs=some r):Contract Try.prog 98 [lI xs] (lI r):=by
 unfold Q26 at h;replace h:=Q5 h;obtain ⟨hx,h⟩:=h;cases h;exact c58 true xs hx
noncomputable def Q2y (xs:List Int):Option (List Int) :=
 ass (xs.length≤1048576) <| some (xs)
theorem Q5R (xs:List Int) (r:List Int) (h:Q2y xs=some r):Contract Try.prog 110 [lI xs] (lI r):=by
 unfold Q2y at h;replace h:=Q5 h;obtain ⟨hx,h⟩:=h;cases h;exact c47 true xs hx
noncomputable def Q11 (c:Cat):Option (Int) :=
 some (c.fr.length)
theorem Q31 (c:Cat) (r:Int) (h:Q11 c=some r):Contract Try.prog 140 [.rptr (c.cells true)] (iV r):=by
 unfold Q11 at h;cases h;have q:=c61 true c [];simp only [List.append_nil] at q;exact q
noncomputable def Q27 (c:Cat):Option (Cat) :=
 ass (c.ok) <| some (c)
theorem Q4L (c:Cat) (r:Cat) (h:Q27 c=some r):Contract Try.prog 97 [.agg (c.cells true)] (.agg (r.cells true)):=by
 unfold Q27 at h;replace h:=Q5 h;obtain ⟨hc,h⟩:=h;cases h;exact c41 true c hc
noncomputable def QX (c:Cat):Option (Cat) :=
 ass (c.ok) <| some (c)
theorem Q29 (c:Cat) (r:Cat) (h:QX c=some r):Contract Try.prog 109 [.rptr (c.cells true)] (.agg (r.cells true)):=by
 unfold QX at h;replace h:=Q5 h;obtain ⟨hc,h⟩:=h;cases h;have q:=c23 true c [] hc;simp only [List.append_nil] at q;exact q
noncomputable def QF (c:Cat) (f:Int) (g:Int):Option (Int) :=
 ass (0≤f) <| ass (f<c.cs.length) <| ass (0≤g) <| ass (g<(rx c.cs f).length) <| some ((ix (rx c.cs f) g))
theorem Q3p (c:Cat) (f:Int) (g:Int) (r:Int) (h:QF c f g=some r):Contract Try.prog 108 [.rptr (c.cells true),iV f,iV g] (iV r):=by
 unfold QF at h;replace h:=Q5 h;obtain ⟨h1,h⟩:=h;replace h:=Q5 h;obtain ⟨h2,h⟩:=h;replace h:=Q5 h;obtain ⟨h3,h⟩:=h;replace h:=Q5 h;obtain ⟨h4,h⟩:=h;cases h;have q:=c69 true c [] f g h1 h2 h3 h4;simp only [List.append_nil] at q;exact q
noncomputable def Q2i (xs:List Int) (ys:List Int):Option (Bool) :=
 some ((decide (xs=ys)))
theorem Q6x (xs:List Int) (ys:List Int) (r:Bool) (h:Q2i xs ys=some r):Contract Try.prog 96 [lI xs,lI ys] (.val (.bool r)):=by
 unfold Q2i at h;cases h;exact n54 true true xs ys
noncomputable def Q1X (m:SM):Option (Bool) :=
 some ((bo m.Is))
theorem Q5S (m:SM) (r:Bool) (h:Q1X m=some r):Contract Try.prog 49 [.agg (m.cells true)] (.val (.bool r)):=by
 unfold Q1X at h;cases h;exact n19 true m
noncomputable def QT (m:SM):Option (Bool) :=
 some ((bo m.Is))
theorem Q2J (m:SM) (r:Bool) (h:QT m=some r):Contract Try.prog 55 [.rptr (m.cells true)] (.val (.bool r)):=by
 unfold QT at h;cases h;exact n37 true m
@[simp] theorem ass_true {α:Type} {k:Option α}:ass True k=k:=Qe trivial
theorem bo_tt (p:Prop):(bo p=true)=p:=by simp [bo]
theorem bo_pos {p:Prop} (h:p):bo p=true:=by simp [bo,h]
theorem Q5a {p:Prop} (h:¬ p):bo p=false:=by simp [bo,h]
theorem loop_go {σ ε:Type} {body:σ→Option (Ctl σ ε)} (g:Nat→σ) (m:Nat):∀ (k:Nat),m≤k→(∀ i,i<m→body (g i)=some (.next (g (i+1))))→QQ body k (g 0)=QQ body (k - m) (g m):=by
 induction m with
 | zero=>intro k _ _;rfl
 | succ m ih =>
  intro k hk h;rw [ih k (by omega) fun i hi=>h i (by omega)];obtain ⟨j,hj⟩:∃ j,k - m=j+1:=⟨k - m - 1,by omega⟩;rw [hj,show k - (m+1)=j by omega];simp only [QQ,h m (by omega)]
theorem Q3M {σ ε:Type} {body:σ→Option (Ctl σ ε)} (g:Nat→σ) (n:Nat) {e:ε} {s0:σ} (h0:s0=g 0) (hn:n<4611686018427387904) (h:∀ i,i<n→body (g i)=some (.next (g (i+1)))) (he:body (g n)=some (.ret e)):QQ body fuel s0=some e:=by
 subst h0;rw [loop_go g n fuel (by unfold fuel;omega) h];obtain ⟨j,hj⟩:∃ j,fuel - n=j+1:=⟨fuel - n - 1,by unfold fuel;omega⟩;rw [hj];simp only [QQ,he]
theorem loop_fst {ε:Type} {body:Int→Option (Ctl Int ε)} (n:Nat) (p:Nat→Prop) {eb:Nat→ε} {eg:ε} (hn:n<4611686018427387904) (h1:∀ i:Nat,i<n→p i→body (i:Int)=some (.next ((i:Int)+1))) (h2:∀ i:Nat,i<n→¬ p i→body (i:Int)=some (.ret (eb i))) (h3:body (n:Int)=some (.ret eg)) :
  ((∀ i:Nat,i<n→p i)∧QQ body fuel 0=some eg)∨∃ m,m<n∧¬ p m∧(∀ k,k<m→p k)∧QQ body fuel 0=some (eb m):=by
 by_cases hall:∀ i:Nat,i<n→p i
 ·exact .inl ⟨hall,Q3M (fun i:Nat=>(i:Int)) n rfl hn (fun i hi=>h1 i hi (hall i hi)) h3⟩
 right;have hex:∃ i,i<n∧¬ p i:=Classical.byContradiction fun hx=>hall fun i hi=>Classical.byContradiction fun hp=>hx ⟨i,hi,hp⟩;obtain ⟨m,⟨hm,hp⟩,hmin⟩:∃ m,(m<n∧¬ p m)∧∀ k,k<m→¬ (k<n∧¬ p k):=by
  obtain ⟨i,hi⟩:=hex
  induction i using Nat.strongRecOn with
  | _ i ih =>
   by_cases h:∃ k,k<i∧k<n∧¬ p k
   ·obtain ⟨k,h1,h2⟩:=h;exact ih k h1 h2
   exact ⟨i,hi,fun k hk hh=>h ⟨k,hk,hh⟩⟩
 have hlt:∀ k,k<m→p k:=fun k hk=>Classical.byContradiction fun hh=>hmin k hk ⟨by omega,hh⟩;exact ⟨m,hm,hp,hlt,Q3M (fun i:Nat=>(i:Int)) m rfl (by omega) (fun i hi=>h1 i (by omega) (hlt i hi)) (h2 m hm hp)⟩
theorem loop_acc {α ε:Type} {body:α × Int→Option (Ctl (α × Int) ε)} (g:Nat→α) (n:Nat) {e:ε} {a0:α} (h0:a0=g 0) (hn:n<4611686018427387904) (h:∀ i:Nat,i<n→body (g i,(i:Int))=some (.next (g (i+1),(i:Int)+1))) (he:body (g n,(n:Int))=some (.ret e)):QQ body fuel (a0,0)=some e:=by
 subst h0;exact Q3M (fun i:Nat=>(g i,(i:Int))) n rfl hn h he
theorem QI {α ε β:Type} {body:α × Int→Option (Ctl (α × Int) ε)} {K:ε→Option β} {r:Option β} {a0:α} (n:Nat) (g:Nat→α) {e:ε} (h0:a0=g 0) (hn:n<4611686018427387904) (h:∀ i:Nat,i<n→body (g i,(i:Int))=some (.next (g (i+1),(i:Int)+1))) (he:body (g n,(n:Int))=some (.ret e)) (hk:K e=r):(QQ body fuel (a0,0)).bind K=r:=by
 rw [loop_acc g n h0 hn h he];exact hk
theorem Cat.Sh.cmp {c:Cat} (h:c.Sh) {f g:Int} (h0:0≤f) (h1:f<c.fr.length) (h2:0≤g) (h3:g<c.fr.length) (e:ix c.to f=ix c.fr g):0≤ix (rx c.cs f) g∧ix (rx c.cs f) g<c.fr.length:=by
 have:=(h.cell' h0 h1 h2 h3).2 e;omega
attribute [local simp] eL eI QH Q2p eP_Fn Cat.cells Fn.cells
noncomputable def Q1O (c_:Cat) (d_:Cat) (objects_:List Int) (arrows_:List Int):Option Fn :=
 (QX c_).bind fun v1 =>
 (QX d_).bind fun v2 =>
 (Q2y objects_).bind fun v3 =>
 (Q2y arrows_).bind fun v4 =>
 some (⟨v1,v2,v3,v4⟩:Fn)
theorem wkQ8 {F : Fx} {st st' : St} (m : List (Nat × Nat)) (h : (m.map Prod.fst).Nodup ∧ (m.map Prod.snd).Nodup ∧ (∀ id, id < F.pins → look id m = some id) ∧ (∀ p ∈ m, p.2 < st'.n) ∧ (∀ p ∈ st'.h, p.1 < st'.n) ∧ (∀ p ∈ st'.s, p.2 = rl m (st.get p.1) ∨ p.2 = .bot) ∧ ∀ p ∈ st'.h, hhOk m st.h p.1 p.2 := by simp [hP, hhOk, back, Cat.cells, Fn.cells, UA, U1, IA, I1, LA, L1, BA, B1, EA, E1, E2, eB, eI, eL, SF.cells, XGrothendieck.cells, Q1a _ Q1z _ (fun _=>rfl)]) : Wk F st st' := Wk.r1 m h
theorem Q6v (c_:Cat) (d_:Cat) (objects_:List Int) (arrows_:List Int) (r:Fn) (h:Q1O c_ d_ objects_ arrows_=some r):Contract Try.prog 58 [.rptr (c_.cells true),.rptr (d_.cells true),lI objects_,lI arrows_] (.agg (r.cells true)):=by
 refine Qp (rvs:=[.cell 8 33]) (rs:=[.agg (r.cells true)]) Try.func58 rfl rfl rfl rfl (by simp [Try.f58]) fun F hN hP=>?_;unfold Q1O at h;refine Q2 ?_;refine runQ hN fun K hK=>?_;simp [-Q0,-Qc,-Q3,-Qd,-Q4];repeat refine sdQ ?_
 refine hK _ ?_;clear hK K;refine tn ?_;refine Qa (st':=⟨[(0,.rptr (Cat.cells true c_)),(1,.rptr (Cat.cells true d_)),(2,lI objects_),(3,lI arrows_),(8,.adr 0 0 0)],[(0,.mix 12 [[iV 0,.val (.slice none 0 0),.val (.slice none 0 0),.val (.slice none 0 0),.val (.slice none 0 0),iV 0,.val (.slice none 0 0),.val (.slice none 0 0),.val (.slice none 0 0),.val (.slice none 0 0),.val (.slice none 0 0),.val (.slice none 0 0)]])],1⟩) (wkQ8 [(0,0)]) ?_;refine Q2 ?_;refine runQ hN fun K hK=>?_;simp [-Q0,-Qc,-Q3,-Qd,-Q4];repeat with_reducible refine sdQ ?_
 replace h:=bind_some h;obtain ⟨v1,hv1,h⟩:=h;refine Q1 (Q29 _ v1 hv1) (.cons (.preT (by simp [Cat.cells])) .nil) ?_;simp [-Q0,-Qc,-Q3,-Qd,-Q4,unk,unA,unE,unT,unC,flat];repeat with_reducible refine sdQ ?_
 replace h:=bind_some h;obtain ⟨v2,hv2,h⟩:=h;refine Q1 (Q29 _ v2 hv2) (.cons (.preT (by simp [Cat.cells])) .nil) ?_;simp [-Q0,-Qc,-Q3,-Qd,-Q4,unk,unA,unE,unT,unC,flat];repeat with_reducible refine sdQ ?_
 replace h:=bind_some h;obtain ⟨v3,hv3,h⟩:=h;refine Q1 (Q5R _ v3 hv3) (.cons .lst .nil) ?_;simp [-Q0,-Qc,-Q3,-Qd,-Q4,unk,unA,unE,unT,unC,flat];repeat with_reducible refine sdQ ?_
 replace h:=bind_some h;obtain ⟨v4,hv4,h⟩:=h;refine Q1 (Q5R _ v4 hv4) (.cons .lst .nil) ?_;simp [-Q0,-Qc,-Q3,-Qd,-Q4,unk,unA,unE,unT,unC,flat];repeat refine sdQ ?_
 refine hK _ ?_;clear hK K;refine tn ?_;refine Qa (st':=⟨[(8,.adr 0 0 0)],[(0,.mix 12 [[iV v1.n,.own 1 0 v1.fr.length,.own 2 0 v1.to.length,.own 3 0 v1.id.length,.own 4 0 v1.cs.length,iV v2.n,.own 5 0 v2.fr.length,.own 6 0 v2.to.length,.own 7 0 v2.id.length,.own 8 0 v2.cs.length,.own 9 0 v3.length,.own 10 0 v4.length]]),(1,rI v1.fr),(2,rI v1.to),(3,rI v1.id),(4,.row 1 (Ls v1.cs)),(5,rI v2.fr),(6,rI v2.to),(7,rI v2.id),(8,.row 1 (Ls v2.cs)),(9,rI v3),(10,rI v4)],11⟩) (wkQ8 [(0,0),(2,1),(3,2),(4,3),(5,4),(7,5),(8,6),(9,7),(10,8),(11,9),(12,10)]) ?_;refine Qh ?_;have hr:=Option.some.inj h;rw [← hr];refine ⟨_,(.cell Q4q rfl rfl rfl (by simp) (by simp) .nil),?_⟩;refine ⟨(.agg rfl .nil),[iV v1.n,lI v1.fr,lI v1.to,lI v1.id,.lst true 1 (Ls v1.cs),iV v2.n,lI v2.fr,lI v2.to,lI v2.id,.lst true 1 (Ls v2.cs),lI v3,lI v4],[1,2,3,4,5,6,7,8,9,10],by simp [Cat.cells,Fn.cells,UA,U1,IA,I1,LA,L1,BA,B1,EA,E1,E2,eB,eI,eL],by simp,(UpL.refl _)⟩
attribute [local simp] eL eI QH Q2p eP_Fn Cat.cells Fn.cells
noncomputable def Q1P (c_:Cat) (d_:Cat) (objects_:List Int) (arrows_:List Int):Option Fn :=
 (Q27 c_).bind fun v1 =>
 (Q27 d_).bind fun v2 =>
 (Q26 objects_).bind fun v3 =>
 (Q26 arrows_).bind fun v4 =>
 some (⟨v1,v2,v3,v4⟩:Fn)
theorem Q6z (c_:Cat) (d_:Cat) (objects_:List Int) (arrows_:List Int) (r:Fn) (h:Q1P c_ d_ objects_ arrows_=some r):Contract Try.prog 52 [.agg (c_.cells true),.agg (d_.cells true),lI objects_,lI arrows_] (.agg (r.cells true)):=by
 refine Qp (rvs:=[.cell 8 33]) (rs:=[.agg (r.cells true)]) Try.func52 rfl rfl rfl rfl (by simp [Try.f52]) fun F hN hP=>?_;unfold Q1P at h;refine Q2 ?_;refine runQ hN fun K hK=>?_;simp [-Q0,-Qc,-Q3,-Qd,-Q4];repeat refine sdQ ?_
 refine hK _ ?_;clear hK K;refine tn ?_;refine Qa (st':=⟨[(2,lI objects_),(3,lI arrows_),(4,.adr 0 0 0),(5,.adr 1 0 0),(8,.adr 2 0 0)],[(0,.mix 5 [(Cat.cells true c_)]),(1,.mix 5 [(Cat.cells true d_)]),(2,.mix 12 [[iV 0,.val (.slice none 0 0),.val (.slice none 0 0),.val (.slice none 0 0),.val (.slice none 0 0),iV 0,.val (.slice none 0 0),.val (.slice none 0 0),.val (.slice none 0 0),.val (.slice none 0 0),.val (.slice none 0 0),.val (.slice none 0 0)]])],3⟩) (wkQ8 [(0,0),(1,1),(2,2)]) ?_;refine Q2 ?_;refine runQ hN fun K hK=>?_;simp [-Q0,-Qc,-Q3,-Qd,-Q4];repeat with_reducible refine sdQ ?_
 replace h:=bind_some h;obtain ⟨v1,hv1,h⟩:=h;refine Q1 (Q4L _ v1 hv1) (.cons (.aggL (.cons .val (.cons .lst (.cons .lst (.cons .lst (.cons .lst .nil)))))) .nil) ?_;simp [-Q0,-Qc,-Q3,-Qd,-Q4,unk,unA,unE,unT,unC,flat];repeat with_reducible refine sdQ ?_
 replace h:=bind_some h;obtain ⟨v2,hv2,h⟩:=h;refine Q1 (Q4L _ v2 hv2) (.cons (.aggL (.cons .val (.cons .lst (.cons .lst (.cons .lst (.cons .lst .nil)))))) .nil) ?_;simp [-Q0,-Qc,-Q3,-Qd,-Q4,unk,unA,unE,unT,unC,flat];repeat with_reducible refine sdQ ?_
 replace h:=bind_some h;obtain ⟨v3,hv3,h⟩:=h;refine Q1 (Q4K _ v3 hv3) (.cons .lst .nil) ?_;simp [-Q0,-Qc,-Q3,-Qd,-Q4,unk,unA,unE,unT,unC,flat];repeat with_reducible refine sdQ ?_
 replace h:=bind_some h;obtain ⟨v4,hv4,h⟩:=h;refine Q1 (Q4K _ v4 hv4) (.cons .lst .nil) ?_;simp [-Q0,-Qc,-Q3,-Qd,-Q4,unk,unA,unE,unT,unC,flat];repeat refine sdQ ?_
 refine hK _ ?_;clear hK K;refine tn ?_;refine Qa (st':=⟨[(8,.adr 0 0 0)],[(0,.mix 12 [[iV v1.n,.own 1 0 v1.fr.length,.own 2 0 v1.to.length,.own 3 0 v1.id.length,.own 4 0 v1.cs.length,iV v2.n,.own 5 0 v2.fr.length,.own 6 0 v2.to.length,.own 7 0 v2.id.length,.own 8 0 v2.cs.length,.own 9 0 v3.length,.own 10 0 v4.length]]),(1,rI v1.fr),(2,rI v1.to),(3,rI v1.id),(4,.row 1 (Ls v1.cs)),(5,rI v2.fr),(6,rI v2.to),(7,rI v2.id),(8,.row 1 (Ls v2.cs)),(9,rI v3),(10,rI v4)],11⟩) (wkQ8 [(2,0),(4,1),(5,2),(6,3),(7,4),(9,5),(10,6),(11,7),(12,8),(13,9),(14,10)]) ?_;refine Qh ?_;have hr:=Option.some.inj h;rw [← hr];refine ⟨_,(.cell Q4q rfl rfl rfl (by simp) (by simp) .nil),?_⟩;refine ⟨(.agg rfl .nil),[iV v1.n,lI v1.fr,lI v1.to,lI v1.id,.lst true 1 (Ls v1.cs),iV v2.n,lI v2.fr,lI v2.to,lI v2.id,.lst true 1 (Ls v2.cs),lI v3,lI v4],[1,2,3,4,5,6,7,8,9,10],by simp [Cat.cells,Fn.cells,UA,U1,IA,I1,LA,L1,BA,B1,EA,E1,E2,eB,eI,eL],by simp,(UpL.refl _)⟩
theorem e_l06Make {c d:Cat} {ob ar:List Int} (hc:c.ok) (hd:d.ok) (ho:ob.length≤1048576) (ha:ar.length≤1048576):Q1P c d ob ar=some ⟨c,d,ob,ar⟩:=by
 simp [Q1P,Q27,Q26,hc,hd,ho,ha]
theorem e_functor {c d:Cat} {ob ar:List Int} (hc:c.ok) (hd:d.ok) (ho:ob.length≤1048576) (ha:ar.length≤1048576):Q1O c d ob ar=some ⟨c,d,ob,ar⟩:=by
 simp [Q1O,QX,Q2y,hc,hd,ho,ha]
noncomputable def Q1g (c_:Cat) (f_:Int) (g_:Int):Option Int :=
 ass (0≤f_∧f_<(c_.cs.length:Int)) <|
 ass (0≤g_∧g_<((rx c_.cs f_).length:Int)) <|
 some (ix (rx c_.cs f_) g_)
theorem Q6y (c_:Cat) (f_:Int) (g_:Int) (r:Int) (h:Q1g c_ f_ g_=some r):Contract Try.prog 95 [.agg (c_.cells true),iV f_,iV g_] (iV r):=by
 refine Qp (rvs:=[.tmp 6]) (rs:=[iV r]) Try.func95 rfl rfl rfl rfl (by simp [Try.f95]) fun F hN hP=>?_;unfold Q1g at h;refine Q2 ?_;refine runQ hN fun K hK=>?_;simp [-Q0,-Qc,-Q3,-Qd,-Q4,eL,eI,QH,Q2p,Cat.cells];repeat refine sdQ ?_
 refine hK _ ?_;clear hK K;refine tn ?_;refine Qa (st':=⟨[(1,iV f_),(2,iV g_),(3,.adr 0 0 0)],[(0,.mix 5 [(Cat.cells true c_)])],1⟩) (wkQ8 [(0,0)]) ?_;refine Q2 ?_;refine runQ hN fun K hK=>?_;replace h:=Q5 h;obtain ⟨a1,h⟩:=h;replace h:=Q5 h;obtain ⟨a2,h⟩:=h;simp [-Q0,-Qc,-Q3,-Qd,-Q4,eL,eI,QH,Q2p,Cat.cells,at_L a1,at_I a2];repeat refine sdQ ?_
 refine hK _ ?_;clear hK K;refine tn ?_;refine Qa (st':=⟨[(6,iV (ix (rx c_.cs f_) g_))],[],0⟩) (wkQ8 []) ?_;refine Qh ?_;have hr:=Option.some.inj h;rw [← hr];refine ⟨_,(.tmp .nil),?_⟩;refine ⟨(.one rfl rfl .nil),[iV (ix (rx c_.cs f_) g_)],[],by simp [Cat.cells,UA,U1,IA,I1,LA,L1,BA,B1,EA,E1,E2,eB,eI,eL],by simp,(UpL.refl _)⟩
theorem e_l02Then {c:Cat} {f g:Int} (h0:0≤f∧f<(c.cs.length:Int)) (h1:0≤g∧g<((rx c.cs f).length:Int)):Q1g c f g=some (ix (rx c.cs f) g):=by
 unfold Q1g;rw [Qe h0,Qe h1]
theorem e_Cthen {c:Cat} {f g:Int} (h0:0≤f∧f<(c.cs.length:Int)) (h1:0≤g∧g<((rx c.cs f).length:Int)):QF c f g=some (ix (rx c.cs f) g):=by
 unfold QF;rw [Qe h0.1,Qe h0.2,Qe h1.1,Qe h1.2]
def tab {α:Type} (n:Nat) (g:Nat→α):List α:=(List.range n).map g
@[simp] theorem Q7H {α:Type} (n:Nat) (g:Nat→α):(tab n g).length=n:=by simp [tab]
theorem Q58 {α:Type} (n:Nat) (g:Nat→α):tab (n+1) g=tab n g++[g n]:=by simp [tab,List.range_succ]
theorem ix_tab (n:Nat) (g:Nat→Int) {i:Nat} (h:i<n):ix (tab n g) i=g i:=by
 rw [← QK _ _ (show i<(tab n g).length by simpa using h)];simp [tab]
def zeroF:Fn:=⟨⟨0,[],[],[],[]⟩,⟨0,[],[],[],[]⟩,[],[]⟩
attribute [local simp] eL eI QH Q2p Cat.cells
noncomputable def QA (c_:Cat) (x_:Int) (y_:Int):Option (List Int) :=
 (QQ (σ:=List Int × Int) (ε:=List Int) (fun s11 =>
  if s11.2<(c_.fr.length:Int) then
   (
    (
     ass (0≤s11.2∧s11.2<(c_.fr.length:Int)) <|
     if (ix c_.fr s11.2)=x_ then
      ass (0≤s11.2∧s11.2<(c_.to.length:Int)) <|
      some ((ix c_.to s11.2) == y_)
     else
      some false:Option (Bool)).bind fun b14 =>
    if b14=true then
     ass ((s11.1++[s11.2]).length≤1073741824) <|
     some (s11.1++[s11.2])
    else
     some s11.1:Option (List Int)).bind fun b13 =>
   ass (B64 (s11.2+1)) <|
   some (Ctl.next (b13,s11.2+1))
  else
   some (Ctl.ret s11.1)) fuel ([],0)).bind fun b1 =>
 some b1
theorem Q3I (c_:Cat) (x_:Int) (y_:Int) (r:List Int) (h:QA c_ x_ y_=some r):Contract Try.prog 103 [.rptr (c_.cells true),iV x_,iV y_] (lI r):=by
 refine Qp (rvs:=[.tmp 6]) (rs:=[lI r]) Try.func103 rfl rfl rfl rfl (by simp [Try.f103]) fun F hN hP=>?_;unfold QA at h;refine Q2 ?_;refine runQ hN fun K hK=>?_;simp [-Q0,-Qc,-Q3,-Qd,-Q4];repeat refine sdQ ?_
 refine hK _ ?_;clear hK K;refine tn ?_;refine Qa (st':=⟨[(0,.rptr (Cat.cells true c_)),(1,iV x_),(2,iV y_)],[],0⟩) (wkQ8 []) ?_;refine Q2 ?_;refine runQ hN fun K hK=>?_;simp [-Q0,-Qc,-Q3,-Qd,-Q4];repeat refine sdQ ?_
 refine hK _ ?_;clear hK K;refine tn ?_;refine Qa (st':=⟨[(0,.rptr (Cat.cells true c_)),(1,iV x_),(2,iV y_),(7,.own 0 0 0)],[(0,.mix 1 [])],1⟩) (wkQ8 [(0,0)]) ?_;refine Q2 ?_;refine Q2 ?_;refine runQ hN fun K hK=>?_;simp [-Q0,-Qc,-Q3,-Qd,-Q4];repeat refine sdQ ?_
 refine hK _ ?_;clear hK K;refine tn ?_;refine Qa (st':=⟨[(0,.rptr (Cat.cells true c_)),(1,iV x_),(2,iV y_),(7,.own 0 0 0),(14,iV (c_.fr.length:Int)),(15,iV 0)],[(0,.mix 1 [])],1⟩) (wkQ8 [(0,0)]) ?_;replace h:=bind_some h;obtain ⟨e1,h,h1⟩:=h;refine Qq (fun b1:List Int=>⟨[(7,.own 0 0 b1.length)],[(0,rI b1)],1⟩) (fun b1=>b1=e1) ?_ ?_
 ·refine Q7 ?_;refine QB h (fun s11:List Int × Int=>⟨[(0,.rptr (Cat.cells true c_)),(1,iV x_),(2,iV y_),(7,.own 0 0 s11.1.length),(14,iV (c_.fr.length:Int)),(15,iV s11.2)],[(0,rI s11.1)],1⟩) (Q2L ⟨[(0,.rptr (Cat.cells true c_)),(1,iV x_),(2,iV y_),(7,.own 0 0 0),(14,iV (c_.fr.length:Int)),(15,iV 0)],[(0,rI [])],1⟩ (Wk.nils [] (by simp) (by simp) (by simp [nlA]) (by simp [entN,nlL,nlA,Cat.cells,UA,U1,IA,I1,LA,L1,BA,B1,EA,E1,E2,eB,eI,eL]) (by simp)) (wkQ8 [(0,0)])) ?_;clear h;intro k11 s11 c11 h hk11;refine Q2 ?_;refine runQ hN fun K hK=>?_;simp [-Q0,-Qc,-Q3,-Qd,-Q4];repeat refine sdQ ?_
  refine hK _ ?_;clear hK K;refine tn ?_;refine Qa (st':=⟨[(0,.rptr (Cat.cells true c_)),(1,iV x_),(2,iV y_),(7,.own 0 0 s11.1.length),(14,iV (c_.fr.length:Int)),(15,iV s11.2),(16,.val (.bool (decide (s11.2<(c_.fr.length:Int)))))],[(0,rI s11.1)],1⟩) (wkQ8 [(0,0)]) ?_;refine Q2 ?_;refine Q8 rfl (fun g=>?_) fun g=>?_
  ·have g12:s11.2<(c_.fr.length:Int):=gQ;clear g;replace h:=if_l g12 h;refine Q9 ?_;refine tn ?_;refine Q2 ?_;replace h:=bind_some h;obtain ⟨e13,h,h13⟩:=h;refine Qq (fun b13:List Int=>⟨[(0,.rptr (Cat.cells true c_)),(1,iV x_),(2,iV y_),(7,.own 0 0 b13.length),(14,iV (c_.fr.length:Int)),(15,iV s11.2)],[(0,rI b13)],1⟩) (fun b13=>b13=e13) ?_ ?_
   ·refine Q7 ?_;refine Q2 ?_;refine runQ hN fun K hK=>?_;simp [-Q0,-Qc,-Q3,-Qd,-Q4];(repeat refine sdQ ?_);refine hK _ ?_;clear hK K;refine tn ?_;refine Qa (st':=⟨[(0,.rptr (Cat.cells true c_)),(1,iV x_),(2,iV y_),(7,.own 0 0 s11.1.length),(8,iV s11.2),(14,iV (c_.fr.length:Int)),(15,iV s11.2)],[(0,rI s11.1)],1⟩) (wkQ8 [(0,0)]) ?_;refine Q2 ?_;replace h:=bind_some h;obtain ⟨e14,h,h14⟩:=h;refine Qq (fun b14:Bool=>⟨[(0,.rptr (Cat.cells true c_)),(1,iV x_),(2,iV y_),(7,.own 0 0 s11.1.length),(8,iV s11.2),(14,iV (c_.fr.length:Int)),(15,iV s11.2),(37,.val (.bool b14))],[(0,rI s11.1)],1⟩) (fun b14=>b14=e14) ?_ ?_
    ·refine runQ hN fun K hK=>?_;replace h:=Q5 h;obtain ⟨a15,h⟩:=h;simp [-Q0,-Qc,-Q3,-Qd,-Q4,at_I a15];(repeat with_reducible refine sdQ ?_);refine Q2U (fun g=>?_) (fun g=>?_)
     ·have g16:(ix c_.fr s11.2)=x_:=gQ;clear g;replace h:=if_l g16 h;replace h:=Q5 h;obtain ⟨a17,h⟩:=h;simp [-Q0,-Qc,-Q3,-Qd,-Q4,at_I a15,at_I a17];(repeat refine sdQ ?_);refine hK _ ?_;exact jn (b:=(ix c_.to s11.2) == y_) (Option.some.inj h) (wkQ8 [(0,0)])
     have g16:¬ ((ix c_.fr s11.2)=x_):=gQ;clear g;replace h:=if_r g16 h;simp [-Q0,-Qc,-Q3,-Qd,-Q4,at_I a15];(repeat refine sdQ ?_);refine hK _ ?_;exact jn (b:=false) (Option.some.inj h) (wkQ8 [(0,0)])
    intro b14 hb14;have h:=h14;(try rw [← hb14] at h);clear h14;(try dsimp only at h);refine Q8 rfl (fun g=>?_) fun g=>?_
    ·have g18:b14=true:=gQ;clear g;replace h:=if_l g18 h;refine runQ hN fun K hK=>?_;replace h:=Q5 h;obtain ⟨a19,h⟩:=h;(try simp only [List.length_append,List.length_cons,List.length_nil] at a19);simp [-Q0,-Qc,-Q3,-Qd,-Q4,a19];(repeat refine sdQ ?_);refine hK _ ?_;clear hK K;refine bn ?_;exact jn (b:=s11.1++[s11.2]) (Option.some.inj h) (wkQ8 [(2,0)])
    have g18:¬ (b14=true):=gQ;clear g;replace h:=if_r g18 h;refine Q9 ?_;refine bn ?_;exact jn (b:=s11.1) (Option.some.inj h) (wkQ8 [(0,0)])
   intro b13 hb13;have h:=h13;(try rw [← hb13] at h);clear h13;(try dsimp only at h);refine runQ hN fun K hK=>?_;replace h:=Q5 h;obtain ⟨a20,h⟩:=h;simp [-Q0,-Qc,-Q3,-Qd,-Q4,Qv a20];(repeat refine sdQ ?_);refine hK _ ?_;clear hK K;cases h;exact rn (s':=(b13,s11.2+1)) hk11 (wkQ8 [(0,0)])
  have g12:¬ (s11.2<(c_.fr.length:Int)):=gQ;clear g;replace h:=if_r g12 h;refine Qi ?_;refine tx ?_;refine lx ?_;refine bh ?_;cases h;exact jn (b:=s11.1) hk11 (wkQ8 [(0,0)])
 intro b1 hb1;have h:=h1;try rw [← hb1] at h
 clear h1;try dsimp only at h
 refine Q2 ?_;refine runQ hN fun K hK=>?_;simp [-Q0,-Qc,-Q3,-Qd,-Q4];repeat refine sdQ ?_
 refine hK _ ?_;clear hK K;refine tn ?_;refine Qa (st':=⟨[(6,.own 0 0 b1.length)],[(0,rI b1)],1⟩) (wkQ8 [(0,0)]) ?_;refine Qh ?_;have hr:=Option.some.inj h;rw [← hr];refine ⟨_,(.tmp .nil),?_⟩;refine ⟨(.one rfl rfl .nil),[lI b1],[0],by simp [Cat.cells,UA,U1,IA,I1,LA,L1,BA,B1,EA,E1,E2,eB,eI,eL],by simp,(UpL.refl _)⟩
attribute [local simp] eL eI QH Q2p Cat.cells
noncomputable def Q1J (c_:Cat) (x_:Int) (y_:Int):Option (List Int) :=
 (QQ (σ:=List Int × Int) (ε:=List Int) (fun s11 =>
  if s11.2<(c_.fr.length:Int) then
   (
    (
     ass (0≤s11.2∧s11.2<(c_.fr.length:Int)) <|
     if (ix c_.fr s11.2)=x_ then
      ass (0≤s11.2∧s11.2<(c_.to.length:Int)) <|
      some ((ix c_.to s11.2) == y_)
     else
      some false:Option (Bool)).bind fun b14 =>
    if b14=true then
     ass ((s11.1++[s11.2]).length≤1073741824) <|
     some (s11.1++[s11.2])
    else
     some s11.1:Option (List Int)).bind fun b13 =>
   ass (B64 (s11.2+1)) <|
   some (Ctl.next (b13,s11.2+1))
  else
   some (Ctl.ret s11.1)) fuel ([],0)).bind fun b1 =>
 some b1
theorem Q7J (c_:Cat) (x_:Int) (y_:Int) (r:List Int) (h:Q1J c_ x_ y_=some r):Contract Try.prog 94 [.agg (c_.cells true),iV x_,iV y_] (lI r):=by
 refine Qp (rvs:=[.tmp 6]) (rs:=[lI r]) Try.func94 rfl rfl rfl rfl (by simp [Try.f94]) fun F hN hP=>?_;unfold Q1J at h;refine Q2 ?_;refine runQ hN fun K hK=>?_;simp [-Q0,-Qc,-Q3,-Qd,-Q4];repeat refine sdQ ?_
 refine hK _ ?_;clear hK K;refine tn ?_;refine Qa (st':=⟨[(1,iV x_),(2,iV y_),(3,.adr 0 0 0)],[(0,.mix 5 [(Cat.cells true c_)])],1⟩) (wkQ8 [(0,0)]) ?_;refine Q2 ?_;refine runQ hN fun K hK=>?_;simp [-Q0,-Qc,-Q3,-Qd,-Q4];repeat refine sdQ ?_
 refine hK _ ?_;clear hK K;refine tn ?_;refine Qa (st':=⟨[(1,iV x_),(2,iV y_),(3,.adr 0 0 0),(7,.own 1 0 0)],[(0,.mix 5 [(Cat.cells true c_)]),(1,.mix 1 [])],2⟩) (wkQ8 [(0,0),(1,1)]) ?_;refine Q2 ?_;refine Q2 ?_;refine runQ hN fun K hK=>?_;simp [-Q0,-Qc,-Q3,-Qd,-Q4];repeat refine sdQ ?_
 refine hK _ ?_;clear hK K;refine tn ?_;refine Qa (st':=⟨[(1,iV x_),(2,iV y_),(3,.adr 0 0 0),(7,.own 1 0 0),(8,iV 0)],[(0,.mix 5 [(Cat.cells true c_)]),(1,.mix 1 [])],2⟩) (wkQ8 [(0,0),(1,1)]) ?_;replace h:=bind_some h;obtain ⟨e1,h,h1⟩:=h;refine Qq (fun b1:List Int=>⟨[(7,.own 0 0 b1.length)],[(0,rI b1)],1⟩) (fun b1=>b1=e1) ?_ ?_
 ·refine Q7 ?_;refine QB h (fun s11:List Int × Int=>⟨[(1,iV x_),(2,iV y_),(3,.adr 0 0 0),(7,.own 1 0 s11.1.length),(8,iV s11.2)],[(0,.mix 5 [(Cat.cells true c_)]),(1,rI s11.1)],2⟩) (Q2L ⟨[(1,iV x_),(2,iV y_),(3,.adr 0 0 0),(7,.own 1 0 0),(8,iV 0)],[(0,.mix 5 [(Cat.cells true c_)]),(1,rI [])],2⟩ (Wk.nils [] (by simp) (by simp) (by simp [nlA]) (by simp [entN,nlL,nlA,Cat.cells,UA,U1,IA,I1,LA,L1,BA,B1,EA,E1,E2,eB,eI,eL]) (by simp)) (wkQ8 [(0,0),(1,1)])) ?_;clear h;intro k11 s11 c11 h hk11;refine Q2 ?_;refine Q2 ?_;refine runQ hN fun K hK=>?_;simp [-Q0,-Qc,-Q3,-Qd,-Q4];repeat refine sdQ ?_
  refine hK _ ?_;clear hK K;refine tn ?_;refine Qa (st':=⟨[(1,iV x_),(2,iV y_),(3,.adr 0 0 0),(7,.own 1 0 s11.1.length),(8,iV s11.2),(14,.val (.bool (decide (s11.2<(c_.fr.length:Int)))))],[(0,.mix 5 [(Cat.cells true c_)]),(1,rI s11.1)],2⟩) (wkQ8 [(0,0),(1,1)]) ?_;refine Q8 rfl (fun g=>?_) fun g=>?_
  ·have g12:s11.2<(c_.fr.length:Int):=gQ;clear g;replace h:=if_l g12 h;refine Q9 ?_;refine tn ?_;refine Q2 ?_;replace h:=bind_some h;obtain ⟨e13,h,h13⟩:=h;refine Qq (fun b13:List Int=>⟨[(1,iV x_),(2,iV y_),(3,.adr 0 0 0),(7,.own 1 0 b13.length),(8,iV s11.2)],[(0,.mix 5 [(Cat.cells true c_)]),(1,rI b13)],2⟩) (fun b13=>b13=e13) ?_ ?_
   ·refine Q7 ?_;refine Q2 ?_;replace h:=bind_some h;obtain ⟨e14,h,h14⟩:=h;refine Qq (fun b14:Bool=>⟨[(1,iV x_),(2,iV y_),(3,.adr 0 0 0),(7,.own 1 0 s11.1.length),(8,iV s11.2),(32,.val (.bool b14))],[(0,.mix 5 [(Cat.cells true c_)]),(1,rI s11.1)],2⟩) (fun b14=>b14=e14) ?_ ?_
    ·refine runQ hN fun K hK=>?_;replace h:=Q5 h;obtain ⟨a15,h⟩:=h;simp [-Q0,-Qc,-Q3,-Qd,-Q4,at_I a15];(repeat with_reducible refine sdQ ?_);refine Q2U (fun g=>?_) (fun g=>?_)
     ·have g16:(ix c_.fr s11.2)=x_:=gQ;clear g;replace h:=if_l g16 h;replace h:=Q5 h;obtain ⟨a17,h⟩:=h;simp [-Q0,-Qc,-Q3,-Qd,-Q4,at_I a15,at_I a17];(repeat refine sdQ ?_);refine hK _ ?_;exact jn (b:=(ix c_.to s11.2) == y_) (Option.some.inj h) (wkQ8 [(0,0),(1,1)])
     have g16:¬ ((ix c_.fr s11.2)=x_):=gQ;clear g;replace h:=if_r g16 h;simp [-Q0,-Qc,-Q3,-Qd,-Q4,at_I a15];(repeat refine sdQ ?_);refine hK _ ?_;exact jn (b:=false) (Option.some.inj h) (wkQ8 [(0,0),(1,1)])
    intro b14 hb14;have h:=h14;(try rw [← hb14] at h);clear h14;(try dsimp only at h);refine Q8 rfl (fun g=>?_) fun g=>?_
    ·have g18:b14=true:=gQ;clear g;replace h:=if_l g18 h;refine runQ hN fun K hK=>?_;replace h:=Q5 h;obtain ⟨a19,h⟩:=h;(try simp only [List.length_append,List.length_cons,List.length_nil] at a19);simp [-Q0,-Qc,-Q3,-Qd,-Q4,a19];(repeat refine sdQ ?_);refine hK _ ?_;clear hK K;refine bn ?_;exact jn (b:=s11.1++[s11.2]) (Option.some.inj h) (wkQ8 [(0,0),(3,1)])
    have g18:¬ (b14=true):=gQ;clear g;replace h:=if_r g18 h;refine Q9 ?_;refine bn ?_;exact jn (b:=s11.1) (Option.some.inj h) (wkQ8 [(0,0),(1,1)])
   intro b13 hb13;have h:=h13;(try rw [← hb13] at h);clear h13;(try dsimp only at h);refine runQ hN fun K hK=>?_;replace h:=Q5 h;obtain ⟨a20,h⟩:=h;simp [-Q0,-Qc,-Q3,-Qd,-Q4,Qv a20];(repeat refine sdQ ?_);refine hK _ ?_;clear hK K;cases h;exact rn (s':=(b13,s11.2+1)) hk11 (wkQ8 [(0,0),(1,1)])
  have g12:¬ (s11.2<(c_.fr.length:Int)):=gQ;clear g;replace h:=if_r g12 h;refine Qi ?_;refine tx ?_;refine lx ?_;refine bh ?_;cases h;exact jn (b:=s11.1) hk11 (wkQ8 [(1,0)])
 intro b1 hb1;have h:=h1;try rw [← hb1] at h
 clear h1;try dsimp only at h
 refine Q2 ?_;refine runQ hN fun K hK=>?_;simp [-Q0,-Qc,-Q3,-Qd,-Q4];repeat refine sdQ ?_
 refine hK _ ?_;clear hK K;refine tn ?_;refine Qa (st':=⟨[(6,.own 0 0 b1.length)],[(0,rI b1)],1⟩) (wkQ8 [(0,0)]) ?_;refine Qh ?_;have hr:=Option.some.inj h;rw [← hr];refine ⟨_,(.tmp .nil),?_⟩;refine ⟨(.one rfl rfl .nil),[lI b1],[0],by simp [Cat.cells,UA,U1,IA,I1,LA,L1,BA,B1,EA,E1,E2,eB,eI,eL],by simp,(UpL.refl _)⟩
noncomputable def flt (n:Nat) (p:Nat→Prop):List Int:=((List.range n).filter fun i=>bo (p i)).map Int.ofNat
noncomputable def fstN (n:Nat) (p:Nat→Prop):Int:=(((List.range n).find? fun i=>bo (p i)).map Int.ofNat).getD (-1)
theorem flt_pos {n:Nat} {p:Nat→Prop} (h:p n):flt (n+1) p=flt n p++[(n:Int)]:=by simp [flt,List.range_succ,bo_pos h]
theorem flt_neg {n:Nat} {p:Nat→Prop} (h:¬ p n):flt (n+1) p=flt n p:=by simp [flt,List.range_succ,Q5a h]
theorem flt_len (n:Nat) (p:Nat→Prop):(flt n p).length≤n:=by
 unfold flt;rw [List.length_map];exact Nat.le_trans (List.length_filter_le _ _) (by simp)
theorem mem_flt {n:Nat} {p:Nat→Prop} {x:Int}:x∈flt n p↔∃ i:Nat,i<n∧p i∧x=(i:Int):=by
 simp only [flt,List.mem_map,List.mem_filter,List.mem_range,bo_tt];constructor
 ·rintro ⟨i,⟨h1,h2⟩,rfl⟩;exact ⟨i,h1,h2,rfl⟩
 rintro ⟨i,h1,h2,rfl⟩;exact ⟨i,⟨h1,h2⟩,rfl⟩
theorem Q6O (n:Nat) (p:Nat→Prop):(fstN n p = -1∧∀ i,i<n→¬ p i)∨∃ k:Nat,k<n∧p k∧fstN n p=(k:Int):=by
 unfold fstN;cases h:(List.range n).find? fun i=>bo (p i) with
 | none =>
  refine .inl ⟨rfl,fun i hi=>?_⟩;have:=List.find?_eq_none.1 h i (by simpa using hi);simpa [bo_tt] using this
 | some k =>
  have h1:=List.find?_some h;have h2:=List.mem_of_find?_eq_some h;exact .inr ⟨k,by simpa using h2,by simpa [bo_tt] using h1,rfl⟩
theorem e_hom {c:Cat} (h:c.Is) (x y:Int):QA c x y=some (flt c.fr.length fun a=>ix c.fr a=x∧ix c.to a=y):=by
 have k1:=h.1.lt;have k2:=h.1.m40;unfold QA;refine QI c.fr.length (fun i=>flt i fun a=>ix c.fr a=x∧ix c.to a=y) (e:=flt c.fr.length fun a=>ix c.fr a=x∧ix c.to a=y) rfl (by omega) (fun i hi=>?_) (by simp) rfl;have hl:=flt_len i fun a=>ix c.fr a=x∧ix c.to a=y
 by_cases h1:ix c.fr i=x
 ·by_cases h2:ix c.to i=y
  ·rw [flt_pos ⟨h1,h2⟩];simp (disch:=omega) [Qe,B64,h1,h2];try omega
  rw [flt_neg fun q=>h2 q.2];simp (disch:=omega) [Qe,B64,h1,h2];try omega
 rw [flt_neg fun q=>h1 q.1];simp (disch:=omega) [Qe,B64,h1];try omega
theorem e_l02Hom (c:Cat) (x y:Int):Q1J c x y=QA c x y:=rfl
theorem Cat.Is.two {c:Cat} (h:c.Is) {f g:Int} (f0:0≤f∧f<c.fr.length) (g0:0≤g∧g<c.fr.length) (e:ix c.to f=ix c.fr g):(0≤ix (rx c.cs f) g∧ix (rx c.cs f) g<c.fr.length)∧ix c.fr (ix (rx c.cs f) g)=ix c.fr f∧ix c.to (ix (rx c.cs f) g)=ix c.to g:=by
 have:=(h.1.cell' f0.1 f0.2 g0.1 g0.2).2 e;exact ⟨⟨this.1,this.2.1⟩,this.2.2⟩
theorem e_Then {c:Cat} (h:c.Is) {f g:Int} (f0:0≤f∧f<c.fr.length) (g0:0≤g∧g<c.fr.length):Q1g c f g=some (ix (rx c.cs f) g)∧QF c f g=some (ix (rx c.cs f) g):=by
 have h1:=h.1.lc;have h2:=h.1.row' f0.1 f0.2;exact ⟨e_l02Then (by omega) (by omega),e_Cthen (by omega) (by omega)⟩
abbrev Ar (c:Cat) (f x y:Int):Prop:=(0≤f∧f<(c.fr.length:Int))∧ix c.fr f=x∧ix c.to f=y
theorem Ar.two {c:Cat} (hc:c.Is) {f g x y z:Int} (h1:Ar c f x y) (h2:Ar c g y z):Ar c (ix (rx c.cs f) g) x z:=by
 have:=hc.two h1.1 h2.1 (by rw [h1.2.2,h2.2.1]);exact ⟨this.1,by rw [this.2.1,h1.2.1],by rw [this.2.2,h2.2.2]⟩
theorem Ar.thn {c:Cat} (hc:c.Is) {f g x y z:Int} (h1:Ar c f x y) (h2:Ar c g y z):Q1g c f g=some (ix (rx c.cs f) g)∧QF c f g=some (ix (rx c.cs f) g):=e_Then hc h1.1 h2.1
theorem mem_ix {xs:List Int} {P:Int→Prop} (h:∀ x∈xs,P x) {i:Nat} (hi:i<xs.length):P (ix xs i):=by
 rw [← QK _ _ hi];exact h _ (List.getElem_mem hi)
noncomputable def homL (c:Cat) (x y:Int):List Int:=flt c.fr.length fun a=>ix c.fr a=x∧ix c.to a=y
theorem Q4X {c:Cat} {x y:Int}:∀ f∈homL c x y,Ar c f x y:=by
 intro f hf;obtain ⟨i,h1,h2,rfl⟩:=mem_flt.1 hf;exact ⟨by omega,h2⟩
theorem homL_len (c:Cat) (x y:Int):(homL c x y).length≤c.fr.length:=flt_len _ _
theorem e_homs {c:Cat} (h:c.Is) (x y:Int):Q1J c x y=some (homL c x y)∧QA c x y=some (homL c x y):=⟨by rw [e_l02Hom,e_hom h];rfl,e_hom h x y⟩
attribute [local simp] eL eI QH
noncomputable def Q2h (lists_:List (List Int)):Option ByteArray :=
 (QQ (σ:=List Int × Int) (ε:=List Int) (fun s16 =>
  if s16.2<(lists_.length:Int) then
   ass (0≤s16.2∧s16.2<(lists_.length:Int)) <|
   (QQ (σ:=List Int × Int) (ε:=List Int) (fun s24 =>
    if s24.2<((rx lists_ s16.2).length:Int) then
     ass (0≤s24.2∧s24.2<((rx lists_ s16.2).length:Int)) <|
     ass ((s24.1++[IntKind.u8.wrap (ix (rx lists_ s16.2) s24.2)]).length≤1073741824) <|
     ass (B64 (s24.2+1)) <|
     some (Ctl.next (s24.1++[IntKind.u8.wrap (ix (rx lists_ s16.2) s24.2)],s24.2+1))
    else
     some (Ctl.ret s24.1)) fuel (s16.1,0)).bind fun b19 =>
   ass ((b19++[255]).length≤1073741824) <|
   ass (B64 (s16.2+1)) <|
   some (Ctl.next (b19++[255],s16.2+1))
  else
   some (Ctl.ret s16.1)) fuel ([],0)).bind fun b1 =>
 some (Q1j b1)
theorem Q4i (lists_:List (List Int)) (r:ByteArray) (h:Q2h lists_=some r):Contract Try.prog 57 [.lst true 1 (Ls lists_)] (.val (.string r)):=by
 refine Qp (rvs:=[.tmp 2]) (rs:=[.val (.string r)]) Try.func57 rfl rfl rfl rfl (by simp [Try.f57]) fun F hN hP=>?_;unfold Q2h at h;refine Q2 ?_;refine runQ hN fun K hK=>?_;simp [-Q0,-Qc,-Q3,-Qd,-Q4];repeat refine sdQ ?_
 refine hK _ ?_;clear hK K;refine tn ?_;refine Qa (st':=⟨[(0,.lst true 1 (Ls lists_))],[],0⟩) (wkQ8 []) ?_;refine Q2 ?_;refine runQ hN fun K hK=>?_;simp [-Q0,-Qc,-Q3,-Qd,-Q4];repeat refine sdQ ?_
 refine hK _ ?_;clear hK K;refine tn ?_;refine Qa (st':=⟨[(0,.lst true 1 (Ls lists_)),(3,.own 0 0 0)],[(0,.mix 1 [])],1⟩) (wkQ8 [(0,0)]) ?_;refine Q2 ?_;refine Q2 ?_;refine runQ hN fun K hK=>?_;simp [-Q0,-Qc,-Q3,-Qd,-Q4];repeat refine sdQ ?_
 refine hK _ ?_;clear hK K;refine tn ?_;refine Qa (st':=⟨[(3,.own 0 0 0),(9,.lst true 1 (Ls lists_)),(10,iV (lists_.length:Int)),(11,iV 0)],[(0,.mix 1 [])],1⟩) (wkQ8 [(0,0)]) ?_;replace h:=bind_some h;obtain ⟨e1,h,h1⟩:=h;refine Qq (fun b1:List Int=>⟨[(3,.own 0 0 b1.length)],[(0,.row 1 (Us b1))],1⟩) (fun b1=>b1=e1) ?_ ?_
 ·refine Q7 ?_;refine QB h (fun s16:List Int × Int=>⟨[(3,.own 0 0 s16.1.length),(9,.lst true 1 (Ls lists_)),(10,iV (lists_.length:Int)),(11,iV s16.2)],[(0,.row 1 (Us s16.1))],1⟩) (Q2L ⟨[(3,.own 0 0 0),(9,.lst true 1 (Ls lists_)),(10,iV (lists_.length:Int)),(11,iV 0)],[(0,.row 1 (Us []))],1⟩ (Wk.nils [] (by simp) (by simp) (by simp [nlA]) (by simp [entN,nlL,nlA,UA,U1,IA,I1,LA,L1,BA,B1,EA,E1,E2,eB,eI,eL]) (by simp)) (wkQ8 [(0,0)])) ?_;clear h;intro k16 s16 c16 h hk16;refine Q2 ?_;refine runQ hN fun K hK=>?_;simp [-Q0,-Qc,-Q3,-Qd,-Q4];repeat refine sdQ ?_
  refine hK _ ?_;clear hK K;refine tn ?_;refine Qa (st':=⟨[(3,.own 0 0 s16.1.length),(9,.lst true 1 (Ls lists_)),(10,iV (lists_.length:Int)),(11,iV s16.2),(12,.val (.bool (decide (s16.2<(lists_.length:Int)))))],[(0,.row 1 (Us s16.1))],1⟩) (wkQ8 [(0,0)]) ?_;refine Q2 ?_;refine Q8 rfl (fun g=>?_) fun g=>?_
  ·have g17:s16.2<(lists_.length:Int):=gQ;clear g;replace h:=if_l g17 h;refine Q9 ?_;refine tn ?_;refine Q2 ?_;refine Q7 ?_;refine Q2 ?_;refine runQ hN fun K hK=>?_;replace h:=Q5 h;obtain ⟨a18,h⟩:=h;simp [-Q0,-Qc,-Q3,-Qd,-Q4,at_L a18];(repeat refine sdQ ?_);refine hK _ ?_;clear hK K;refine tn ?_;refine Qa (st':=⟨[(3,.own 0 0 s16.1.length),(5,lI (rx lists_ s16.2)),(9,.lst true 1 (Ls lists_)),(10,iV (lists_.length:Int)),(11,iV s16.2)],[(0,.row 1 (Us s16.1))],1⟩) (wkQ8 [(0,0)]) ?_;refine Q2 ?_;refine Q2 ?_;refine runQ hN fun K hK=>?_;simp [-Q0,-Qc,-Q3,-Qd,-Q4];(repeat refine sdQ ?_);refine hK _ ?_;clear hK K;refine tn ?_;refine Qa (st':=⟨[(3,.own 0 0 s16.1.length),(9,.lst true 1 (Ls lists_)),(10,iV (lists_.length:Int)),(11,iV s16.2),(15,lI (rx lists_ s16.2)),(16,iV ((rx lists_ s16.2).length:Int)),(17,iV 0)],[(0,.row 1 (Us s16.1))],1⟩) (wkQ8 [(0,0)]) ?_;replace h:=bind_some h;obtain ⟨e19,h,h19⟩:=h;refine Qq (fun b19:List Int=>⟨[(3,.own 0 0 b19.length),(9,.lst true 1 (Ls lists_)),(10,iV (lists_.length:Int)),(11,iV s16.2)],[(0,.row 1 (Us b19))],1⟩) (fun b19=>b19=e19) ?_ ?_
   ·refine Q7 ?_;refine QB h (fun s24:List Int × Int=>⟨[(3,.own 0 0 s24.1.length),(9,.lst true 1 (Ls lists_)),(10,iV (lists_.length:Int)),(11,iV s16.2),(15,lI (rx lists_ s16.2)),(16,iV ((rx lists_ s16.2).length:Int)),(17,iV s24.2)],[(0,.row 1 (Us s24.1))],1⟩) (wkQ8 [(0,0)]) ?_;clear h;intro k24 s24 c24 h hk24;refine Q2 ?_;refine runQ hN fun K hK=>?_;simp [-Q0,-Qc,-Q3,-Qd,-Q4];(repeat refine sdQ ?_);refine hK _ ?_;clear hK K;refine tn ?_;refine Qa (st':=⟨[(3,.own 0 0 s24.1.length),(9,.lst true 1 (Ls lists_)),(10,iV (lists_.length:Int)),(11,iV s16.2),(15,lI (rx lists_ s16.2)),(16,iV ((rx lists_ s16.2).length:Int)),(17,iV s24.2),(18,.val (.bool (decide (s24.2<((rx lists_ s16.2).length:Int)))))],[(0,.row 1 (Us s24.1))],1⟩) (wkQ8 [(0,0)]) ?_;refine Q2 ?_;refine Q8 rfl (fun g=>?_) fun g=>?_
    ·have g25:s24.2<((rx lists_ s16.2).length:Int):=gQ;clear g;replace h:=if_l g25 h;refine Q9 ?_;refine tn ?_;refine Q2 ?_;refine Q7 ?_;refine Q2 ?_;refine runQ hN fun K hK=>?_;replace h:=Q5 h;obtain ⟨a26,h⟩:=h;simp [-Q0,-Qc,-Q3,-Qd,-Q4,at_I a26];(repeat refine sdQ ?_);refine hK _ ?_;clear hK K;refine tn ?_;refine Qa (st':=⟨[(3,.own 0 0 s24.1.length),(7,iV (ix (rx lists_ s16.2) s24.2)),(9,.lst true 1 (Ls lists_)),(10,iV (lists_.length:Int)),(11,iV s16.2),(15,lI (rx lists_ s16.2)),(16,iV ((rx lists_ s16.2).length:Int)),(17,iV s24.2)],[(0,.row 1 (Us s24.1))],1⟩) (wkQ8 [(0,0)]) ?_;refine runQ hN fun K hK=>?_;replace h:=Q5 h;obtain ⟨a27,h⟩:=h;(try simp only [List.length_append,List.length_cons,List.length_nil] at a27);simp [-Q0,-Qc,-Q3,-Qd,-Q4,a27];(repeat refine sdQ ?_);refine hK _ ?_;clear hK K;refine bn ?_;refine tn ?_;refine Qa (st':=⟨[(3,.own 0 0 ((s24.1++[IntKind.u8.wrap (ix (rx lists_ s16.2) s24.2)]).length)),(9,.lst true 1 (Ls lists_)),(10,iV (lists_.length:Int)),(11,iV s16.2),(15,lI (rx lists_ s16.2)),(16,iV ((rx lists_ s16.2).length:Int)),(17,iV s24.2)],[(0,.row 1 (Us (s24.1++[IntKind.u8.wrap (ix (rx lists_ s16.2) s24.2)])))],1⟩) (wkQ8 [(2,0)]) ?_;refine runQ hN fun K hK=>?_;replace h:=Q5 h;obtain ⟨a28,h⟩:=h;simp [-Q0,-Qc,-Q3,-Qd,-Q4,Qv a28];(repeat refine sdQ ?_);refine hK _ ?_;clear hK K;cases h;exact rn (s':=(s24.1++[IntKind.u8.wrap (ix (rx lists_ s16.2) s24.2)],s24.2+1)) hk24 (wkQ8 [(0,0)])
    have g25:¬ (s24.2<((rx lists_ s16.2).length:Int)):=gQ;clear g;replace h:=if_r g25 h;refine Qi ?_;refine tx ?_;refine lx ?_;refine bh ?_;cases h;exact jn (b:=s24.1) hk24 (wkQ8 [(0,0)])
   intro b19 hb19;have h:=h19;(try rw [← hb19] at h);clear h19;(try dsimp only at h);refine runQ hN fun K hK=>?_;replace h:=Q5 h;obtain ⟨a29,h⟩:=h;(try simp only [List.length_append,List.length_cons,List.length_nil] at a29);simp [-Q0,-Qc,-Q3,-Qd,-Q4,a29];(repeat refine sdQ ?_);refine hK _ ?_;clear hK K;refine bn ?_;refine tn ?_;refine Qa (st':=⟨[(3,.own 0 0 ((b19++[255]).length)),(9,.lst true 1 (Ls lists_)),(10,iV (lists_.length:Int)),(11,iV s16.2)],[(0,.row 1 (Us (b19++[255])))],1⟩) (wkQ8 [(2,0)]) ?_;refine runQ hN fun K hK=>?_;replace h:=Q5 h;obtain ⟨a30,h⟩:=h;simp [-Q0,-Qc,-Q3,-Qd,-Q4,Qv a30];(repeat refine sdQ ?_);refine hK _ ?_;clear hK K;cases h;exact rn (s':=(b19++[255],s16.2+1)) hk16 (wkQ8 [(0,0)])
  have g17:¬ (s16.2<(lists_.length:Int)):=gQ;clear g;replace h:=if_r g17 h;refine Qi ?_;refine tx ?_;refine lx ?_;refine bh ?_;cases h;exact jn (b:=s16.1) hk16 (wkQ8 [(0,0)])
 intro b1 hb1;have h:=h1;try rw [← hb1] at h
 clear h1;try dsimp only at h
 refine Q2 ?_;refine Qr [32] mo (by rw [hN];decide) fun K hK=>?_;simp [-Q0,-Qc,-Q3,-Qd,-Q4];repeat refine sdQ ?_
 refine hK _ ?_;clear hK K;refine tn ?_;refine Qa (st':=⟨[(2,.val (.string (Q1j b1)))],[],0⟩) (wkQ8 []) ?_;refine Qh ?_;have hr:=Option.some.inj h;rw [← hr];refine ⟨_,(.tmp .nil),?_⟩;refine ⟨(.one rfl rfl .nil),[.val (.string (Q1j b1))],[],by simp [UA,U1,IA,I1,LA,L1,BA,B1,EA,E1,E2,eB,eI,eL],by simp,(UpL.refl _)⟩
attribute [local simp] eL eI QH
noncomputable def Q1I (list_:List (List Int)):Option (List (ByteArray × Int)) :=
 (QQ (σ:=(List (ByteArray × Int)) × Int) (ε:=List (ByteArray × Int)) (fun s7 =>
  if s7.2<(list_.length:Int) then
   ass (0≤s7.2∧s7.2<(list_.length:Int)) <|
   (Q2h [rx list_ s7.2]).bind fun v10 =>
   ass (s7.1.length<1099511627776) <|
   ass (B64 (s7.2+1)) <|
   some (Ctl.next (tset v10 s7.2 s7.1,s7.2+1))
  else
   some (Ctl.ret s7.1)) fuel ([],0)).bind fun b1 =>
 some b1
theorem Q4J (list_:List (List Int)) (r:List (ByteArray × Int)) (h:Q1I list_=some r):FContract Try.prog false 104 [.lst true 1 (Ls list_)] (.cmap .str (Msi r)):=by
 refine Q3W false (ts:=[2]) (rs:=[.cmap .str (Msi r)]) Try.func104 rfl rfl rfl rfl (by simp [Try.f104]) fun F hN hP=>?_;unfold Q1I at h;refine Q2 ?_;refine Qr [] mo (by rw [hN];decide) fun K hK=>?_;simp [-Q0,-Qc,-Q3,-Qd,-Q4];repeat refine sdQ ?_
 refine hK _ ?_;clear hK K;refine tn ?_;refine Qa (st':=⟨[(0,.lst true 1 (Ls list_))],[],0⟩) (wkQ8 []) ?_;refine Q2 ?_;refine Qr [] mo (by rw [hN];decide) fun K hK=>?_;simp [-Q0,-Qc,-Q3,-Qd,-Q4];repeat refine sdQ ?_
 refine hK _ ?_;clear hK K;refine tn ?_;refine Qa (st':=⟨[(0,.lst true 1 (Ls list_)),(3,.mp 0)],[(0,.mapE .str (Msi []))],1⟩) (wkQ8 [(0,0)]) ?_;refine Q2 ?_;refine Q2 ?_;refine Qr [] mo (by rw [hN];decide) fun K hK=>?_;simp [-Q0,-Qc,-Q3,-Qd,-Q4];repeat refine sdQ ?_
 refine hK _ ?_;clear hK K;refine tn ?_;refine Qa (st':=⟨[(3,.mp 0),(7,.lst true 1 (Ls list_)),(8,iV (list_.length:Int)),(9,iV 0)],[(0,.mapE .str (Msi []))],1⟩) (wkQ8 [(0,0)]) ?_;replace h:=bind_some h;obtain ⟨e1,h,h1⟩:=h;refine Qq (fun b1:List (ByteArray × Int)=>⟨[(3,.mp 0)],[(0,.mapE .str (Msi b1))],1⟩) (fun b1=>b1=e1) ?_ ?_
 ·refine Q7 ?_;refine QB h (fun s7:(List (ByteArray × Int)) × Int=>⟨[(3,.mp 0),(7,.lst true 1 (Ls list_)),(8,iV (list_.length:Int)),(9,iV s7.2)],[(0,.mapE .str (Msi s7.1))],1⟩) (wkQ8 [(0,0)]) ?_;clear h;intro k7 s7 c7 h hk7;refine Q2 ?_;refine Qr [] mo (by rw [hN];decide) fun K hK=>?_;simp [-Q0,-Qc,-Q3,-Qd,-Q4];repeat refine sdQ ?_
  refine hK _ ?_;clear hK K;refine tn ?_;refine Qa (st':=⟨[(3,.mp 0),(7,.lst true 1 (Ls list_)),(8,iV (list_.length:Int)),(9,iV s7.2),(10,.val (.bool (decide (s7.2<(list_.length:Int)))))],[(0,.mapE .str (Msi s7.1))],1⟩) (wkQ8 [(0,0)]) ?_;refine Q2 ?_;refine Q8 rfl (fun g=>?_) fun g=>?_
  ·have g8:s7.2<(list_.length:Int):=gQ;clear g;replace h:=if_l g8 h;refine Q9 ?_;refine tn ?_;refine Q2 ?_;refine Q7 ?_;refine Q2 ?_;refine Qr [] mo (by rw [hN];decide) fun K hK=>?_;replace h:=Q5 h;obtain ⟨a9,h⟩:=h;simp [-Q0,-Qc,-Q3,-Qd,-Q4,at_L a9];(repeat refine sdQ ?_);refine hK _ ?_;clear hK K;refine tn ?_;refine Qa (st':=⟨[(3,.mp 0),(4,iV s7.2),(5,lI (rx list_ s7.2)),(7,.lst true 1 (Ls list_)),(8,iV (list_.length:Int)),(9,iV s7.2)],[(0,.mapE .str (Msi s7.1))],1⟩) (wkQ8 [(0,0)]) ?_;refine Qr [] mo (by rw [hN];decide) fun K hK=>?_;simp [-Q0,-Qc,-Q3,-Qd,-Q4];(repeat with_reducible refine sdQ ?_);replace h:=bind_some h;obtain ⟨v10,hv10,h⟩:=h;refine QC (fz:=[]) (Q4i _ v10 hv10) (.cons (.lits (es:=_) rfl (.cons rfl (.cons .lst .nil) .nil) rfl) .nil) ?_;replace h:=Q5 h;obtain ⟨a11,h⟩:=h;simp [-Q0,-Qc,-Q3,-Qd,-Q4,unk,unA,unE,unT,unC,flat,a11];(repeat refine sdQ ?_);refine hK _ ?_;clear hK K;refine bn ?_;refine tn ?_;refine Qa (st':=⟨[(3,.mp 0),(7,.lst true 1 (Ls list_)),(8,iV (list_.length:Int)),(9,iV s7.2)],[(0,.mapE .str (Msi (tset v10 s7.2 s7.1)))],1⟩) (wkQ8 [(0,0)]) ?_;refine Qr [] mo (by rw [hN];decide) fun K hK=>?_;replace h:=Q5 h;obtain ⟨a12,h⟩:=h;simp [-Q0,-Qc,-Q3,-Qd,-Q4,Qv a12];(repeat refine sdQ ?_);refine hK _ ?_;clear hK K;cases h;exact rn (s':=(tset v10 s7.2 s7.1,s7.2+1)) hk7 (wkQ8 [(0,0)])
  have g8:¬ (s7.2<(list_.length:Int)):=gQ;clear g;replace h:=if_r g8 h;refine Qi ?_;refine tx ?_;refine lx ?_;refine bh ?_;cases h;exact jn (b:=s7.1) hk7 (wkQ8 [(0,0)])
 intro b1 hb1;have h:=h1;try rw [← hb1] at h
 clear h1;try dsimp only at h
 refine Q2 ?_;refine Qr [] mo (by rw [hN];decide) fun K hK=>?_;simp [-Q0,-Qc,-Q3,-Qd,-Q4];repeat refine sdQ ?_
 refine hK _ ?_;clear hK K;refine tn ?_;refine Qa (st':=⟨[(2,.mp 0)],[(0,.mapE .str (Msi b1))],1⟩) (wkQ8 [(0,0)]) ?_;refine Qh ?_;have hr:=Option.some.inj h;rw [← hr];exact (.one (by simp [ownB]) (.mp rfl) .nil)
theorem Q7I {α β:Type} [DecidableEq α] (k k':α) (v:β) (m:List (α × β)):Q1b k (tset k' v m)=if k'=k then some v else Q1b k m:=by
 induction m with
 | nil=>simp [tset,Q1b]
 | cons p r ih =>
  obtain ⟨a,x⟩:=p;unfold tset
  by_cases h:a=k'
  ·subst h;rw [if_pos rfl]
   by_cases h2:a=k<;>simp [Q1b,h2]
  rw [if_neg h];simp only [Q1b,ih]
  by_cases h2:a=k
  ·subst h2;rw [if_pos rfl,if_pos rfl,if_neg (fun e=>h e.symm)]
  rw [if_neg h2,if_neg h2]
theorem tset_len {α β:Type} [DecidableEq α] (k:α) (v:β) (m:List (α × β)):(tset k v m).length≤m.length+1:=by
 induction m with
 | nil=>simp [tset]
 | cons p r ih =>
  obtain ⟨a,x⟩:=p;unfold tset;split<;>simp;exact ih
def plM {α:Type} [DecidableEq α] (k:Nat→α):Nat→List (α × Int)
 | 0=>[]
 | n+1=>tset (k n) (n:Int) (plM k n)
theorem plM_len {α:Type} [DecidableEq α] (k:Nat→α) (n:Nat):(plM k n).length≤n:=by
 induction n with
 | zero=>simp [plM]
 | succ n ih=>exact Nat.le_trans (tset_len _ _ _) (by omega)
theorem plM_find {α:Type} [DecidableEq α] {k:Nat→α} {n:Nat} (h:∀ a b,a<n→b<n→k a=k b→a=b) {j:Nat} (hj:j<n):Q1b (k j) (plM k n)=some (j:Int):=by
 induction n with
 | zero=>omega
 | succ n ih =>
  rw [plM,Q7I]
  by_cases e:k n=k j
  ·rw [if_pos e,h n j (by omega) hj e]
  rw [if_neg e];have:j ≠ n:=fun q=>e (by rw [q]);exact ih (fun a b ha hb=>h a b (by omega) (by omega)) (by omega)
theorem Q5X (ns:List Int):(Q1j ns).data.toList=ns.map fun n=>UInt8.ofNat n.toNat:=by
 have:∀ (ns:List Int) (s:ByteArray),(ns.foldl (fun r n=>r.push (UInt8.ofNat n.toNat)) s).data.toList=s.data.toList++ns.map fun n=>UInt8.ofNat n.toNat:=by
  intro ns
  induction ns with
  | nil=>intro s;simp
  | cons n ns ih=>intro s;simp only [List.foldl_cons,ih,List.map_cons];simp [ByteArray.push]
 simpa [Q1j] using this ns ByteArray.empty
theorem Q5B {α β:Type} {f:α→β}:∀ {a b:List α},(∀ x∈a,∀ y∈b,f x=f y→x=y)→a.map f=b.map f→a=b:=by
 intro a
 induction a with
 | nil=>intro b _ h;cases b with|nil=>rfl|cons=>simp at h
 | cons x a ih =>
  intro b hi h;cases b with
  | nil=>simp at h
  | cons y b =>
   simp only [List.map_cons,List.cons.injEq] at h;rw [hi x (by simp) y (by simp) h.1,ih (fun u hu v hv=>hi u (by simp [hu]) v (by simp [hv])) h.2]
theorem Q7a {a b:List Int} (ha:∀ x∈a,0≤x∧x<256) (hb:∀ x∈b,0≤x∧x<256) (h:Q1j a=Q1j b):a=b:=by
 have h1:=congrArg (fun s=>s.data.toList) h;simp only [Q5X] at h1;refine Q5B (fun x hx y hy e=>?_) h1;have e2:=congrArg UInt8.toNat e;have p1:=ha x hx;have p2:=hb y hy;simp only [UInt8.toNat_ofNat'] at e2;omega
theorem wrap8 {n:Int} (h0:0≤n) (h1:n<256):IntKind.u8.wrap n=n:=by
 simp [IntKind.wrap,IntKind.signed,IntKind.bits];omega
theorem wrap8_b (n:Int):0≤IntKind.u8.wrap n∧IntKind.u8.wrap n<256:=by
 simp [IntKind.wrap,IntKind.signed,IntKind.bits];omega
def keyB (x:List Int):ByteArray:=Q1j (x.map IntKind.u8.wrap++[255])
theorem keyB_inj {x y:List Int} (hx:∀ a∈x,0≤a∧a<256) (hy:∀ a∈y,0≤a∧a<256) (h:keyB x=keyB y):x=y:=by
 have hw:∀ x:List Int,∀ a∈x.map IntKind.u8.wrap++[255],0≤a∧a<256:=by
  intro x a ha;rcases List.mem_append.1 ha with ha|ha
  ·obtain ⟨b,_,rfl⟩:=List.mem_map.1 ha;exact wrap8_b b
  rw [List.mem_singleton.1 ha];omega
 have h1:=Q7a (hw x) (hw y) h;have h2:=(List.append_inj' h1 rfl).1;refine Q5B (fun a ha b hb e=>?_) h2
 rwa [wrap8 (hx a ha).1 (hx a ha).2,wrap8 (hy b hb).1 (hy b hb).2] at e
structure Keyed (L:List (List Int)):Prop where
 nd:L.Nodup
 sm:∀ x∈L,∀ a∈x,0≤a∧a<256
noncomputable def posL (L:List (List Int)) (x:List Int):Int:=fstN L.length fun i=>rx L i=x
theorem Q1B {L:List (List Int)} {i:Nat} (h:i<L.length):rx L i∈L:=by
 rw [← QJ _ _ h];exact List.getElem_mem h
theorem Keyed.inj {L:List (List Int)} (h:Keyed L) {i j:Nat} (hi:i<L.length) (hj:j<L.length) (e:rx L i=rx L j):i=j:=by
 rw [← QJ _ _ hi,← QJ _ _ hj] at e;rcases Nat.lt_trichotomy i j with q|q|q
 ·exact absurd e (List.pairwise_iff_getElem.1 h.nd i j hi hj q)
 ·exact q
 exact absurd e.symm (List.pairwise_iff_getElem.1 h.nd j i hj hi q)
theorem Keyed.at {L:List (List Int)} (h:Keyed L) {x:List Int} (hx:x∈L):∃ j:Nat,j<L.length∧rx L j=x∧posL L x=j∧Q1b (keyB x) (plM (fun i=>keyB (rx L i)) L.length)=some (j:Int):=by
 obtain ⟨j,hj,rfl⟩:=List.getElem_of_mem hx;refine ⟨j,hj,(QJ _ _ hj).symm,?_,?_⟩
 ·unfold posL;rcases Q6O L.length (fun i=>rx L i=L[j]) with ⟨_,h2⟩|⟨k,hk,h2,h3⟩
  ·exact absurd (QJ _ _ hj).symm (h2 j hj)
  rw [h3,h.inj hk hj (by rw [h2,QJ _ _ hj])]
 have:=plM_find (k:=fun i=>keyB (rx L i)) (n:=L.length) (fun a b ha hb e=>h.inj ha hb (keyB_inj (h.sm _ (Q1B ha)) (h.sm _ (Q1B hb)) e)) hj;rw [QJ _ _ hj];exact this
theorem flt_nodup (n:Nat) (p:Nat→Prop):(flt n p).Nodup:=by
 unfold flt;refine List.Pairwise.map (R:=fun a b=>a ≠ b) Int.ofNat (fun a b h e=>h (Int.ofNat.inj e)) ?_;exact List.nodup_range.filter _
theorem Q2W {α β:Type} {xs:List α} {f:α→List β} (h1:∀ x∈xs,(f x).Nodup) (h2:xs.Nodup) (h3:∀ x y,x ≠ y→∀ a∈f x,∀ b∈f y,a ≠ b):(xs.flatMap f).Nodup:=by
 refine List.pairwise_flatMap.2 ⟨h1,?_⟩;exact List.Pairwise.imp (fun {a b} hne=>h3 a b hne) h2
theorem fstN_at {n:Nat} {p:Nat→Prop} {m:Nat} (hm:m<n) (hp:p m) (hlt:∀ k,k<m→¬ p k):fstN n p=(m:Int):=by
 unfold fstN;rw [show ((List.range n).find? fun i=>bo (p i))=some m from List.find?_eq_some_iff_getElem.2 ⟨by rw [bo_tt];exact hp,m,by simpa using hm,by simp,fun j hj=>by simp [Q5a (hlt j hj)]⟩];rfl
theorem fstN_no {n:Nat} {p:Nat→Prop} (h:∀ i,i<n→¬ p i):fstN n p = -1:=by
 rcases Q6O n p with ⟨h1,_⟩|⟨k,h1,h2,_⟩
 ·exact h1
 exact absurd h2 (h k h1)
theorem fst_bind {ε β:Type} {body:Int→Option (Ctl Int ε)} {K:ε→Option β} {r:Option β} (n:Nat) (p:Nat→Prop) {eb:Nat→ε} {eg:ε} (hn:n<4611686018427387904) (h1:∀ i:Nat,i<n→¬ p i→body (i:Int)=some (.next ((i:Int)+1))) (h2:∀ i:Nat,i<n→p i→body (i:Int)=some (.ret (eb i))) (h3:body (n:Int)=some (.ret eg))
  (hb:∀ m,m<n→p m→(∀ k,k<m→¬ p k)→K (eb m)=r) (hg:(∀ i,i<n→¬ p i)→K eg=r):(QQ body fuel 0).bind K=r:=by
 rcases loop_fst n (fun i=>¬ p i) hn h1 (fun i hi h=>h2 i hi (Classical.byContradiction h)) h3 with ⟨h,e⟩|⟨m,hm,hq,hlt,e⟩
 ·rw [e];exact hg h
 rw [e];exact hb m hm (Classical.byContradiction hq) hlt
theorem take_rx {L:List (List Int)} {i:Nat} (h:i<L.length):L.take (i+1)=L.take i++[rx L i]:=by rw [List.take_succ_eq_append_getElem h,QJ _ _ h]
theorem e_key {x:List Int} (h:x.length≤1000):Q2h [x]=some (keyB x):=by
 unfold Q2h keyB;refine QI 1 (fun i=>if i=0 then [] else x.map IntKind.u8.wrap++[255]) (e:=x.map IntKind.u8.wrap++[255]) (by simp) (by omega) (fun i hi=>?_) (by simp) rfl;have:i=0:=by omega
 subst this;have hx:rx [x] ((0:Nat):Int)=x:=by simp [rx]
 simp only [hx];rw [if_pos (by simp),Qe (by simp)];refine QI x.length (fun k=>(x.take k).map IntKind.u8.wrap) (e:=x.map IntKind.u8.wrap) (by simp) (by omega) (fun k hk=>?_) (by simp) ?_
 ·have hs:x.take (k+1)=x.take k++[ix x k]:=by rw [List.take_succ_eq_append_getElem hk,QK _ _ hk]
  simp (disch:=omega) [Qe,B64,hs];try omega
 simp (disch:=omega) [Qe,B64];try omega
noncomputable def plL (L:List (List Int)):List (ByteArray × Int):=plM (fun i=>keyB (rx L i)) L.length
theorem Q6H {L:List (List Int)} (hn:L.length<1000000) (hx:∀ x∈L,x.length≤1000):Q1I L=some (plL L):=by
 unfold Q1I plL;refine QI L.length (fun i=>plM (fun i=>keyB (rx L i)) i) (e:=plM (fun i=>keyB (rx L i)) L.length) rfl (by omega) (fun i hi=>?_) (by simp) rfl;have h1:=plM_len (fun i:Nat=>keyB (rx L i)) i;simp only;rw [if_pos (by omega),Qe (by omega),e_key (hx _ (Q1B hi))];simp only [Option.bind_some];rw [Qe (by omega),Qe (by unfold B64;omega)];rfl
theorem homL_in {c:Cat} {f x y:Int} (h:Ar c f x y):f∈homL c x y:=by
 unfold homL;rw [mem_flt];refine ⟨f.toNat,by omega,?_,by omega⟩;rw [Int.toNat_of_nonneg h.1.1];exact h.2
noncomputable def bC (n:Int) (L:List (List Int)) (idv:Nat→Int) (cmp:List Int→List Int→Int):Cat :=
 ⟨n,L.map (ix · 0),L.map (ix · 1),tab n.toNat fun x=>posL L [(x:Int),(x:Int),idv x],
  tab L.length fun i=>tab L.length fun j=>if ix (rx L i) 1=ix (rx L j) 0 then posL L [ix (rx L i) 0,ix (rx L j) 1,cmp (rx L i) (rx L j)] else -1⟩
theorem bC_ok {n:Int} {L:List (List Int)} {idv:Nat→Int} {cmp:List Int→List Int→Int} (hn:n≤8) (hl:L.length≤40):(bC n L idv cmp).ok∧(bC n L idv cmp).size≤2000:=by
 have hr:∀ xs∈(bC n L idv cmp).cs,xs.length≤40:=by
  intro xs hx;obtain ⟨i,hi,rfl⟩:=List.mem_map.1 hx;simpa using hl
 have h7:=sumL_b hr;have h8:(bC n L idv cmp).cs.length=L.length:=by simp [bC]
 have h9:(bC n L idv cmp).cs.length * 40≤40 * 40:=Nat.mul_le_mul_right _ (by omega);have e1:(bC n L idv cmp).fr.length=L.length:=by simp [bC]
 have e2:(bC n L idv cmp).to.length=L.length:=by simp [bC]
 have e3:(bC n L idv cmp).id.length=n.toNat:=by simp [bC]
 refine ⟨⟨by omega,by omega,by omega,by omega,fun xs hx=>by have:=hr xs hx;omega,by omega⟩,?_⟩;simp only [Cat.size];omega
def mixr {α:Type} (m g:Nat) (v:Nat→α) (z:α):List α:=tab m fun j=>if j<g then v j else z
@[simp] theorem mixr_length {α:Type} (m g:Nat) (v:Nat→α) (z:α):(mixr m g v z).length=m:=by simp [mixr]
theorem Q4Z {α:Type} {m g:Nat} {v:Nat→α} {z:α}:(mixr m g v z).set g (v g)=mixr m (g+1) v z:=by
 refine List.ext_getElem (by simp) fun j h1 h2=>?_;simp only [mixr,tab,List.getElem_set,List.getElem_map,List.getElem_range]
 by_cases h:g=j
 ·subst h;simp
 have:(j<g)=(j<g+1):=propext ⟨fun _=>by omega,fun _=>by omega⟩;simp [h,this]
theorem Q5G {α:Type} (m:Nat) (v:Nat→α) (z:α):mixr m 0 v z=List.replicate m z:=by
 refine List.ext_getElem (by simp) fun j h1 h2=>?_;simp [mixr,tab]
theorem Q6Y {α:Type} (m:Nat) (v:Nat→α) (z:α):mixr m m v z=tab m v:=by
 refine List.ext_getElem (by simp) fun j h1 h2=>?_;have:j<m:=by simpa using h1
 simp [mixr,tab,this]
theorem rx_set {xs:List (List Int)} {i:Nat} (h:i<xs.length) (r:List Int):rx (xs.set i r) (i:Int)=r:=by
 simp [rx,List.getD_eq_getElem?_getD,h]
theorem Q4M {L:List (List Int)} (h:Keyed L) {x:List Int} (hx:x∈L):(Q1b (keyB x) (plL L)).getD 0=posL L x:=by
 obtain ⟨j,_,_,h3,h4⟩:=h.at hx;unfold plL;rw [h3,h4];rfl
theorem Cat.Is.Ai {c:Cat} (h:c.Is) {x:Int} (hx:0≤x∧x<c.n):Ar c (ix c.id x) x x:=by
 have h1:=h.1.li;obtain ⟨i,rfl⟩:=Int.eq_ofNat_of_zero_le hx.1;have h2:=h.1.ids i (by omega);exact ⟨h.1.id' (by omega) (by omega),h2.1,h2.2⟩
theorem Q2E {ε β:Type} {body:List Int × Int→Option (Ctl (List Int × Int) ε)} {K:ε→Option β} {r:Option β} (n:Nat) (v:Nat→Int) {e:ε} (hn:n<1000000)
  (h:∀ i:Nat,i<n→body (tab i v,(i:Int))=(ass ((tab i v++[v i]).length≤1073741824) <| ass (B64 ((i:Int)+1)) <| some (.next (tab i v++[v i],(i:Int)+1))))
  (he:body (tab n v,(n:Int))=some (.ret e)) (hk:K e=r):(QQ body fuel ([],0)).bind K=r:=by
 refine QI n (fun i=>tab i v) (e:=e) rfl (by omega) (fun i hi=>?_) he hk;rw [h i hi,Qe (by simp;omega),Qe (by unfold B64;omega),Q58]
noncomputable def bRow (L:List (List Int)) (cmp:List Int→List Int→Int) (i j:Nat):Int:=if ix (rx L i) 1=ix (rx L j) 0 then posL L [ix (rx L i) 0,ix (rx L j) 1,cmp (rx L i) (rx L j)] else -1
theorem run_bind {σ ε β:Type} {body:σ→Option (Ctl σ ε)} {K:ε→Option β} {r:Option β} {s0:σ} (n:Nat) (g:Nat→σ) {e:ε} (h0:s0=g 0) (hn:n<4611686018427387904) (h:∀ i:Nat,i<n→body (g i)=some (.next (g (i+1)))) (he:body (g n)=some (.ret e)) (hk:K e=r):(QQ body fuel s0).bind K=r:=by
 rw [Q3M g n h0 hn h he];exact hk
attribute [local simp] eL eI QH Q7c SF.cells
noncomputable def Qw (f_:SF):Option (List (List Int)) :=
 (QQ (σ:=List (List Int) × Int) (ε:=List (List Int)) (fun s13 =>
  if s13.2<(f_.sz.length:Int) then
   (
    ass (0≤s13.2∧s13.2<(f_.sz.length:Int)) <|
    (QQ (σ:=List (List Int) × Int) (ε:=List (List Int)) (fun s20 =>
     if s20.2<(ix f_.sz s13.2) then
      ass ((s20.1++[[s13.2,s20.2]]).length≤1073741824) <|
      ass (B64 (s20.2+1)) <|
      some (Ctl.next (s20.1++[[s13.2,s20.2]],s20.2+1))
     else
      some (Ctl.ret s20.1)) fuel (s13.1,0)).bind fun p20 =>
    some p20:Option (List (List Int))).bind fun b15 =>
   ass (B64 (s13.2+1)) <|
   some (Ctl.next (b15,s13.2+1))
  else
   some (Ctl.ret s13.1)) fuel ([],0)).bind fun b1 =>
 some b1
theorem Q1Q (f_:SF) (r:List (List Int)) (h:Qw f_=some r):Contract Try.prog 102 [.rptr (f_.cells true)] (.lst true 1 (Ls r)):=by
 refine Qp (rvs:=[.tmp 2]) (rs:=[.lst true 1 (Ls r)]) Try.func102 rfl rfl rfl rfl (by simp [Try.f102]) fun F hN hP=>?_;unfold Qw at h;refine Q2 ?_;refine runQ hN fun K hK=>?_;simp [-Q0,-Qc,-Q3,-Qd,-Q4];repeat refine sdQ ?_
 refine hK _ ?_;clear hK K;refine tn ?_;refine Qa (st':=⟨[(0,.rptr (SF.cells true f_))],[],0⟩) (wkQ8 []) ?_;refine Q2 ?_;refine runQ hN fun K hK=>?_;simp [-Q0,-Qc,-Q3,-Qd,-Q4];repeat refine sdQ ?_
 refine hK _ ?_;clear hK K;refine tn ?_;refine Qa (st':=⟨[(0,.rptr (SF.cells true f_)),(3,.own 0 0 0)],[(0,.mix 1 [])],1⟩) (wkQ8 [(0,0)]) ?_;refine Q2 ?_;refine Q2 ?_;refine runQ hN fun K hK=>?_;simp [-Q0,-Qc,-Q3,-Qd,-Q4];repeat refine sdQ ?_
 refine hK _ ?_;clear hK K;refine tn ?_;refine Qa (st':=⟨[(3,.own 0 0 0),(11,lI f_.sz),(12,iV (f_.sz.length:Int)),(13,iV 0)],[(0,.mix 1 [])],1⟩) (wkQ8 [(0,0)]) ?_;replace h:=bind_some h;obtain ⟨e1,h,h1⟩:=h;refine Qq (fun b1:List (List Int)=>⟨[(3,.own 0 0 b1.length)],[(0,.row 1 (Ls b1))],1⟩) (fun b1=>b1=e1) ?_ ?_
 ·refine Q7 ?_;refine QB h (fun s13:List (List Int) × Int=>⟨[(3,.own 0 0 s13.1.length),(11,lI f_.sz),(12,iV (f_.sz.length:Int)),(13,iV s13.2)],[(0,.row 1 (Ls s13.1))],1⟩) (Q2L ⟨[(3,.own 0 0 0),(11,lI f_.sz),(12,iV (f_.sz.length:Int)),(13,iV 0)],[(0,.row 1 (Ls []))],1⟩ (Wk.nils [] (by simp) (by simp) (by simp [nlA]) (by simp [entN,nlL,nlA,SF.cells,UA,U1,IA,I1,LA,L1,BA,B1,EA,E1,E2,eB,eI,eL]) (by simp)) (wkQ8 [(0,0)])) ?_;clear h;intro k13 s13 c13 h hk13;refine Q2 ?_;refine runQ hN fun K hK=>?_;simp [-Q0,-Qc,-Q3,-Qd,-Q4];repeat refine sdQ ?_
  refine hK _ ?_;clear hK K;refine tn ?_;refine Qa (st':=⟨[(3,.own 0 0 s13.1.length),(11,lI f_.sz),(12,iV (f_.sz.length:Int)),(13,iV s13.2),(14,.val (.bool (decide (s13.2<(f_.sz.length:Int)))))],[(0,.row 1 (Ls s13.1))],1⟩) (wkQ8 [(0,0)]) ?_;refine Q2 ?_;refine Q8 rfl (fun g=>?_) fun g=>?_
  ·have g14:s13.2<(f_.sz.length:Int):=gQ;clear g;replace h:=if_l g14 h;refine Q9 ?_;refine tn ?_;refine Q2 ?_;replace h:=bind_some h;obtain ⟨e15,h,h15⟩:=h;refine Qq (fun b15:List (List Int)=>⟨[(3,.own 0 0 b15.length),(11,lI f_.sz),(12,iV (f_.sz.length:Int)),(13,iV s13.2)],[(0,.row 1 (Ls b15))],1⟩) (fun b15=>b15=e15) ?_ ?_
   ·refine Q7 ?_;refine Q2 ?_;refine runQ hN fun K hK=>?_;replace h:=Q5 h;obtain ⟨a16,h⟩:=h;simp [-Q0,-Qc,-Q3,-Qd,-Q4,at_I a16];(repeat refine sdQ ?_);refine hK _ ?_;clear hK K;refine tn ?_;refine Qa (st':=⟨[(3,.own 0 0 s13.1.length),(4,iV s13.2),(5,iV (ix f_.sz s13.2)),(11,lI f_.sz),(12,iV (f_.sz.length:Int)),(13,iV s13.2)],[(0,.row 1 (Ls s13.1))],1⟩) (wkQ8 [(0,0)]) ?_;refine Q2 ?_;refine runQ hN fun K hK=>?_;simp [-Q0,-Qc,-Q3,-Qd,-Q4];(repeat refine sdQ ?_);refine hK _ ?_;clear hK K;refine tn ?_;refine Qa (st':=⟨[(3,.own 0 0 s13.1.length),(4,iV s13.2),(5,iV (ix f_.sz s13.2)),(6,iV 0),(11,lI f_.sz),(12,iV (f_.sz.length:Int)),(13,iV s13.2)],[(0,.row 1 (Ls s13.1))],1⟩) (wkQ8 [(0,0)]) ?_;refine Q7 ?_;replace h:=bind_some h;obtain ⟨e20,he20,h20⟩:=h;refine QB he20 (fun s20:List (List Int) × Int=>⟨[(3,.own 0 0 s20.1.length),(4,iV s13.2),(5,iV (ix f_.sz s13.2)),(6,iV s20.2),(11,lI f_.sz),(12,iV (f_.sz.length:Int)),(13,iV s13.2)],[(0,.row 1 (Ls s20.1))],1⟩) (wkQ8 [(0,0)]) ?_;intro k20 s20 c20 h hk20;refine Q2 ?_;refine Q2 ?_;refine runQ hN fun K hK=>?_;simp [-Q0,-Qc,-Q3,-Qd,-Q4];(repeat refine sdQ ?_);refine hK _ ?_;clear hK K;refine tn ?_;refine Qa (st':=⟨[(3,.own 0 0 s20.1.length),(4,iV s13.2),(5,iV (ix f_.sz s13.2)),(6,iV s20.2),(11,lI f_.sz),(12,iV (f_.sz.length:Int)),(13,iV s13.2),(20,.val (.bool (decide (s20.2<(ix f_.sz s13.2)))))],[(0,.row 1 (Ls s20.1))],1⟩) (wkQ8 [(0,0)]) ?_;refine Q8 rfl (fun g=>?_) fun g=>?_
    ·have g21:s20.2<(ix f_.sz s13.2):=gQ;clear g;replace h:=if_l g21 h;refine Q9 ?_;refine tn ?_;refine Q2 ?_;refine Q7 ?_;refine runQ hN fun K hK=>?_;replace h:=Q5 h;obtain ⟨a22,h⟩:=h;(try simp only [List.length_append,List.length_cons,List.length_nil] at a22);simp [-Q0,-Qc,-Q3,-Qd,-Q4,a22];(repeat refine sdQ ?_);refine hK _ ?_;clear hK K;refine bn ?_;refine tn ?_;refine Qa (st':=⟨[(3,.own 0 0 ((s20.1++[[s13.2,s20.2]]).length)),(4,iV s13.2),(5,iV (ix f_.sz s13.2)),(6,iV s20.2),(11,lI f_.sz),(12,iV (f_.sz.length:Int)),(13,iV s13.2)],[(0,.row 1 (Ls (s20.1++[[s13.2,s20.2]])))],1⟩) (wkQ8 [(3,0)]) ?_;refine runQ hN fun K hK=>?_;replace h:=Q5 h;obtain ⟨a23,h⟩:=h;simp [-Q0,-Qc,-Q3,-Qd,-Q4,Qv a23];(repeat refine sdQ ?_);refine hK _ ?_;clear hK K;cases h;exact rn (s':=(s20.1++[[s13.2,s20.2]],s20.2+1)) hk20 (wkQ8 [(0,0)])
    have g21:¬ (s20.2<(ix f_.sz s13.2)):=gQ;clear g;replace h:=if_r g21 h;refine Qi ?_;refine tx ?_;refine lx ?_;refine bh ?_;refine bn ?_;cases h;have q:_=e20:=hk20;have h:=h20;rw [← q] at h;clear q;(try dsimp only at h);exact jn (b:=s20.1) (Option.some.inj h) (wkQ8 [(0,0)])
   intro b15 hb15;have h:=h15;(try rw [← hb15] at h);clear h15;(try dsimp only at h);refine runQ hN fun K hK=>?_;replace h:=Q5 h;obtain ⟨a24,h⟩:=h;simp [-Q0,-Qc,-Q3,-Qd,-Q4,Qv a24];(repeat refine sdQ ?_);refine hK _ ?_;clear hK K;cases h;exact rn (s':=(b15,s13.2+1)) hk13 (wkQ8 [(0,0)])
  have g14:¬ (s13.2<(f_.sz.length:Int)):=gQ;clear g;replace h:=if_r g14 h;refine Qi ?_;refine tx ?_;refine lx ?_;refine bh ?_;cases h;exact jn (b:=s13.1) hk13 (wkQ8 [(0,0)])
 intro b1 hb1;have h:=h1;try rw [← hb1] at h
 clear h1;try dsimp only at h
 refine Q2 ?_;refine runQ hN fun K hK=>?_;simp [-Q0,-Qc,-Q3,-Qd,-Q4];repeat refine sdQ ?_
 refine hK _ ?_;clear hK K;refine tn ?_;refine Qa (st':=⟨[(2,.own 0 0 b1.length)],[(0,.row 1 (Ls b1))],1⟩) (wkQ8 [(0,0)]) ?_;refine Qh ?_;have hr:=Option.some.inj h;rw [← hr];refine ⟨_,(.tmp .nil),?_⟩;refine ⟨(.one rfl rfl .nil),[.lst true 1 (Ls b1)],[0],by simp [SF.cells,UA,U1,IA,I1,LA,L1,BA,B1,EA,E1,E2,eB,eI,eL],by simp,(UpL.refl _)⟩
attribute [local simp] eL eI QH Q7c SF.cells
noncomputable def Qz (f_:SF):Option Int :=
 (QQ (σ:=Int × Int) (ε:=Int) (fun s6 =>
  if s6.2<(f_.sz.length:Int) then
   ass (0≤s6.2∧s6.2<(f_.sz.length:Int)) <|
   ass (B64 (s6.1+(ix f_.sz s6.2))) <|
   ass (B64 (s6.2+1)) <|
   some (Ctl.next (s6.1+(ix f_.sz s6.2),s6.2+1))
  else
   some (Ctl.ret s6.1)) fuel (0,0)).bind fun b1 =>
 some b1
theorem Q2k (f_:SF) (r:Int) (h:Qz f_=some r):Contract Try.prog 101 [.rptr (f_.cells true)] (iV r):=by
 refine Qp (rvs:=[.tmp 2]) (rs:=[iV r]) Try.func101 rfl rfl rfl rfl (by simp [Try.f101]) fun F hN hP=>?_;unfold Qz at h;refine Q2 ?_;refine runQ hN fun K hK=>?_;simp [-Q0,-Qc,-Q3,-Qd,-Q4];repeat refine sdQ ?_
 refine hK _ ?_;clear hK K;refine tn ?_;refine Qa (st':=⟨[(0,.rptr (SF.cells true f_))],[],0⟩) (wkQ8 []) ?_;refine Q2 ?_;refine runQ hN fun K hK=>?_;simp [-Q0,-Qc,-Q3,-Qd,-Q4];repeat refine sdQ ?_
 refine hK _ ?_;clear hK K;refine tn ?_;refine Qa (st':=⟨[(0,.rptr (SF.cells true f_)),(3,iV 0)],[],0⟩) (wkQ8 []) ?_;refine Q2 ?_;refine Q2 ?_;refine runQ hN fun K hK=>?_;simp [-Q0,-Qc,-Q3,-Qd,-Q4];repeat refine sdQ ?_
 refine hK _ ?_;clear hK K;refine tn ?_;refine Qa (st':=⟨[(3,iV 0),(9,lI f_.sz),(10,iV (f_.sz.length:Int)),(11,iV 0)],[],0⟩) (wkQ8 []) ?_;replace h:=bind_some h;obtain ⟨e1,h,h1⟩:=h;refine Qq (fun b1:Int=>⟨[(3,iV b1)],[],0⟩) (fun b1=>b1=e1) ?_ ?_
 ·refine Q7 ?_;refine QB h (fun s6:Int × Int=>⟨[(3,iV s6.1),(9,lI f_.sz),(10,iV (f_.sz.length:Int)),(11,iV s6.2)],[],0⟩) (wkQ8 []) ?_;clear h;intro k6 s6 c6 h hk6;refine Q2 ?_;refine runQ hN fun K hK=>?_;simp [-Q0,-Qc,-Q3,-Qd,-Q4];repeat refine sdQ ?_
  refine hK _ ?_;clear hK K;refine tn ?_;refine Qa (st':=⟨[(3,iV s6.1),(9,lI f_.sz),(10,iV (f_.sz.length:Int)),(11,iV s6.2),(12,.val (.bool (decide (s6.2<(f_.sz.length:Int)))))],[],0⟩) (wkQ8 []) ?_;refine Q2 ?_;refine Q8 rfl (fun g=>?_) fun g=>?_
  ·have g7:s6.2<(f_.sz.length:Int):=gQ;clear g;replace h:=if_l g7 h;refine Q9 ?_;refine tn ?_;refine Q2 ?_;refine Q7 ?_;refine Q2 ?_;refine runQ hN fun K hK=>?_;replace h:=Q5 h;obtain ⟨a8,h⟩:=h;simp [-Q0,-Qc,-Q3,-Qd,-Q4,at_I a8];(repeat refine sdQ ?_);refine hK _ ?_;clear hK K;refine tn ?_;refine Qa (st':=⟨[(3,iV s6.1),(5,iV (ix f_.sz s6.2)),(9,lI f_.sz),(10,iV (f_.sz.length:Int)),(11,iV s6.2)],[],0⟩) (wkQ8 []) ?_;refine runQ hN fun K hK=>?_;replace h:=Q5 h;obtain ⟨a9,h⟩:=h;simp [-Q0,-Qc,-Q3,-Qd,-Q4,Qv a9];(repeat refine sdQ ?_);refine hK _ ?_;clear hK K;refine bn ?_;refine tn ?_;refine Qa (st':=⟨[(3,iV (s6.1+(ix f_.sz s6.2))),(9,lI f_.sz),(10,iV (f_.sz.length:Int)),(11,iV s6.2)],[],0⟩) (wkQ8 []) ?_;refine runQ hN fun K hK=>?_;replace h:=Q5 h;obtain ⟨a10,h⟩:=h;simp [-Q0,-Qc,-Q3,-Qd,-Q4,Qv a10];(repeat refine sdQ ?_);refine hK _ ?_;clear hK K;cases h;exact rn (s':=(s6.1+(ix f_.sz s6.2),s6.2+1)) hk6 (wkQ8 [])
  have g7:¬ (s6.2<(f_.sz.length:Int)):=gQ;clear g;replace h:=if_r g7 h;refine Qi ?_;refine tx ?_;refine lx ?_;refine bh ?_;cases h;exact jn (b:=s6.1) hk6 (wkQ8 [])
 intro b1 hb1;have h:=h1;try rw [← hb1] at h
 clear h1;try dsimp only at h
 refine Q2 ?_;refine runQ hN fun K hK=>?_;simp [-Q0,-Qc,-Q3,-Qd,-Q4];repeat refine sdQ ?_
 refine hK _ ?_;clear hK K;refine tn ?_;refine Qa (st':=⟨[(2,iV b1)],[],0⟩) (wkQ8 []) ?_;refine Qh ?_;have hr:=Option.some.inj h;rw [← hr];refine ⟨_,(.tmp .nil),?_⟩;refine ⟨(.one rfl rfl .nil),[iV b1],[],by simp [SF.cells,UA,U1,IA,I1,LA,L1,BA,B1,EA,E1,E2,eB,eI,eL],by simp,(UpL.refl _)⟩
attribute [local simp] eL eI QH Q2p Q1z Cat.cells XGrothendieck.cells
noncomputable def Qo (f_:Int) (g_:Int) (c0_:XGrothendieck) (c1_:Cat):Option Int :=
 ass (0≤f_∧f_<(c0_.arrows_.length:Int)) <|
 ass (0≤g_∧g_<(c0_.arrows_.length:Int)) <|
 ass ((0:Int)≤0∧0<((rx c0_.arrows_ f_).length:Int)) <|
 ass ((0:Int)≤1∧1<((rx c0_.arrows_ g_).length:Int)) <|
 ass ((0:Int)≤2∧2<((rx c0_.arrows_ f_).length:Int)) <|
 ass ((0:Int)≤2∧2<((rx c0_.arrows_ g_).length:Int)) <|
 (QF c1_ (ix (rx c0_.arrows_ f_) 2) (ix (rx c0_.arrows_ g_) 2)).bind fun v7 =>
 (Q2h [[ix (rx c0_.arrows_ f_) 0,ix (rx c0_.arrows_ g_) 1,v7]]).bind fun v8 =>
 some ((Q1b v8 c0_.arrowAt_).getD 0)
theorem Q14 (f_:Int) (g_:Int) (c0_:XGrothendieck) (c1_:Cat) (r:Int) (h:Qo f_ g_ c0_ c1_=some r):Contract Try.prog 107 [iV f_,iV g_,.rptr [.rptr [iV c0_.category_.n,lI c0_.category_.fr,lI c0_.category_.to,lI c0_.category_.id,.lst true 1 (Ls c0_.category_.cs),.lst true 1 (Ls c0_.objects_),.lst true 1 (Ls c0_.arrows_),.cmap .str (Msi c0_.objectAt_),.cmap .str (Msi c0_.arrowAt_)]],.rptr [.rptr (Cat.cells true c1_)]] (iV r):=by
 refine Qp (rvs:=[.tmp 6]) (rs:=[iV r]) Try.func107 rfl rfl rfl rfl (by simp [Try.f107]) fun F hN hP=>?_;unfold Qo at h;refine Q2 ?_;refine runQ hN fun K hK=>?_;simp [-Q0,-Qc,-Q3,-Qd,-Q4];repeat refine sdQ ?_
 refine hK _ ?_;clear hK K;refine tn ?_;refine Qa (st':=⟨[(0,iV f_),(1,iV g_),(2,.rptr [.rptr [iV c0_.category_.n,lI c0_.category_.fr,lI c0_.category_.to,lI c0_.category_.id,.lst true 1 (Ls c0_.category_.cs),.lst true 1 (Ls c0_.objects_),.lst true 1 (Ls c0_.arrows_),.cmap .str (Msi c0_.objectAt_),.cmap .str (Msi c0_.arrowAt_)]]),(3,.rptr [.rptr (Cat.cells true c1_)])],[],0⟩) (wkQ8 []) ?_;refine Q2 ?_;refine runQ hN fun K hK=>?_;replace h:=Q5 h;obtain ⟨a1,h⟩:=h;replace h:=Q5 h;obtain ⟨a2,h⟩:=h;simp [-Q0,-Qc,-Q3,-Qd,-Q4,at_L a1,at_L a2];repeat refine sdQ ?_
 refine hK _ ?_;clear hK K;refine tn ?_;refine Qa (st':=⟨[(2,.rptr [.rptr [iV c0_.category_.n,lI c0_.category_.fr,lI c0_.category_.to,lI c0_.category_.id,.lst true 1 (Ls c0_.category_.cs),.lst true 1 (Ls c0_.objects_),.lst true 1 (Ls c0_.arrows_),.cmap .str (Msi c0_.objectAt_),.cmap .str (Msi c0_.arrowAt_)]]),(3,.rptr [.rptr (Cat.cells true c1_)]),(7,lI (rx c0_.arrows_ f_)),(8,lI (rx c0_.arrows_ g_))],[],0⟩) (wkQ8 []) ?_;refine Q2 ?_;refine Qr [] mo (by rw [hN];decide) fun K hK=>?_;replace h:=Q5 h;obtain ⟨a3,h⟩:=h;replace h:=Q5 h;obtain ⟨a4,h⟩:=h;replace h:=Q5 h;obtain ⟨a5,h⟩:=h;replace h:=Q5 h;obtain ⟨a6,h⟩:=h;simp [-Q0,-Qc,-Q3,-Qd,-Q4,(show (Is (rx c0_.arrows_ f_))[0]? = some [iV (ix (rx c0_.arrows_ f_) 0)] from at_I (j:=0) a3),(show (Is (rx c0_.arrows_ g_))[1]? = some [iV (ix (rx c0_.arrows_ g_) 1)] from at_I (j:=1) a4),(show (Is (rx c0_.arrows_ f_))[2]? = some [iV (ix (rx c0_.arrows_ f_) 2)] from at_I (j:=2) a5),(show (Is (rx c0_.arrows_ g_))[2]? = some [iV (ix (rx c0_.arrows_ g_) 2)] from at_I (j:=2) a6)];repeat with_reducible refine sdQ ?_
 replace h:=bind_some h;obtain ⟨v7,hv7,h⟩:=h;refine QC (fz:=[]) (Q3p _ _ _ v7 hv7) (.cons (.preT (by simp [Cat.cells,XGrothendieck.cells])) (.cons .val (.cons .val .nil))) ?_;simp [-Q0,-Qc,-Q3,-Qd,-Q4,unk,unA,unE,unT,unC,flat];repeat with_reducible refine sdQ ?_
 replace h:=bind_some h;obtain ⟨v8,hv8,h⟩:=h;refine QC (fz:=[]) (Q4i _ v8 hv8) (.cons (.lits (es:=_) rfl (.cons rfl (.cons (.lits (es:=_) rfl (.cons rfl (.cons .val .nil) (.cons rfl (.cons .val .nil) (.cons rfl (.cons .val .nil) .nil))) rfl) .nil) .nil) rfl) .nil) ?_;simp [-Q0,-Qc,-Q3,-Qd,-Q4,unk,unA,unE,unT,unC,flat];repeat refine sdQ ?_
 refine hK _ ?_;clear hK K;refine tn ?_;refine Qa (st':=⟨[(6,iV ((Q1b v8 c0_.arrowAt_).getD 0))],[],0⟩) (wkQ8 []) ?_;refine Qh ?_;have hr:=Option.some.inj h;rw [← hr];refine ⟨_,(.tmp .nil),?_⟩;refine ⟨(.one rfl rfl .nil),[iV ((Q1b v8 c0_.arrowAt_).getD 0)],[],by simp [Cat.cells,XGrothendieck.cells,UA,U1,IA,I1,LA,L1,BA,B1,EA,E1,E2,eB,eI,eL,Q1a _ Q1z _ (fun _=>rfl)],by simp,(UpL.refl _)⟩
attribute [local simp] eL eI QH
noncomputable def Q1H (list_:List (List Int)) (i_:Int):Option (List Int) :=
 (QQ (σ:=List Int × Int) (ε:=List Int) (fun s7 =>
  if s7.2<(list_.length:Int) then
   ass (0≤s7.2∧s7.2<(list_.length:Int)) <|
   ass (0≤i_∧i_<((rx list_ s7.2).length:Int)) <|
   ass ((s7.1++[ix (rx list_ s7.2) i_]).length≤1073741824) <|
   ass (B64 (s7.2+1)) <|
   some (Ctl.next (s7.1++[ix (rx list_ s7.2) i_],s7.2+1))
  else
   some (Ctl.ret s7.1)) fuel ([],0)).bind fun b1 =>
 some b1
theorem Q4I (list_:List (List Int)) (i_:Int) (r:List Int) (h:Q1H list_ i_=some r):Contract Try.prog 105 [.lst true 1 (Ls list_),iV i_] (lI r):=by
 refine Qp (rvs:=[.tmp 4]) (rs:=[lI r]) Try.func105 rfl rfl rfl rfl (by simp [Try.f105]) fun F hN hP=>?_;unfold Q1H at h;refine Q2 ?_;refine runQ hN fun K hK=>?_;simp [-Q0,-Qc,-Q3,-Qd,-Q4];repeat refine sdQ ?_
 refine hK _ ?_;clear hK K;refine tn ?_;refine Qa (st':=⟨[(0,.lst true 1 (Ls list_)),(1,iV i_)],[],0⟩) (wkQ8 []) ?_;refine Q2 ?_;refine runQ hN fun K hK=>?_;simp [-Q0,-Qc,-Q3,-Qd,-Q4];repeat refine sdQ ?_
 refine hK _ ?_;clear hK K;refine tn ?_;refine Qa (st':=⟨[(0,.lst true 1 (Ls list_)),(1,iV i_),(5,.own 0 0 0)],[(0,.mix 1 [])],1⟩) (wkQ8 [(0,0)]) ?_;refine Q2 ?_;refine Q2 ?_;refine runQ hN fun K hK=>?_;simp [-Q0,-Qc,-Q3,-Qd,-Q4];repeat refine sdQ ?_
 refine hK _ ?_;clear hK K;refine tn ?_;refine Qa (st':=⟨[(1,iV i_),(5,.own 0 0 0),(9,.lst true 1 (Ls list_)),(10,iV (list_.length:Int)),(11,iV 0)],[(0,.mix 1 [])],1⟩) (wkQ8 [(0,0)]) ?_;replace h:=bind_some h;obtain ⟨e1,h,h1⟩:=h;refine Qq (fun b1:List Int=>⟨[(5,.own 0 0 b1.length)],[(0,rI b1)],1⟩) (fun b1=>b1=e1) ?_ ?_
 ·refine Q7 ?_;refine QB h (fun s7:List Int × Int=>⟨[(1,iV i_),(5,.own 0 0 s7.1.length),(9,.lst true 1 (Ls list_)),(10,iV (list_.length:Int)),(11,iV s7.2)],[(0,rI s7.1)],1⟩) (Q2L ⟨[(1,iV i_),(5,.own 0 0 0),(9,.lst true 1 (Ls list_)),(10,iV (list_.length:Int)),(11,iV 0)],[(0,rI [])],1⟩ (Wk.nils [] (by simp) (by simp) (by simp [nlA]) (by simp [entN,nlL,nlA,UA,U1,IA,I1,LA,L1,BA,B1,EA,E1,E2,eB,eI,eL]) (by simp)) (wkQ8 [(0,0)])) ?_;clear h;intro k7 s7 c7 h hk7;refine Q2 ?_;refine runQ hN fun K hK=>?_;simp [-Q0,-Qc,-Q3,-Qd,-Q4];repeat refine sdQ ?_
  refine hK _ ?_;clear hK K;refine tn ?_;refine Qa (st':=⟨[(1,iV i_),(5,.own 0 0 s7.1.length),(9,.lst true 1 (Ls list_)),(10,iV (list_.length:Int)),(11,iV s7.2),(12,.val (.bool (decide (s7.2<(list_.length:Int)))))],[(0,rI s7.1)],1⟩) (wkQ8 [(0,0)]) ?_;refine Q2 ?_;refine Q8 rfl (fun g=>?_) fun g=>?_
  ·have g8:s7.2<(list_.length:Int):=gQ;clear g;replace h:=if_l g8 h;refine Q9 ?_;refine tn ?_;refine Q2 ?_;refine Q7 ?_;refine Q2 ?_;refine runQ hN fun K hK=>?_;replace h:=Q5 h;obtain ⟨a9,h⟩:=h;simp [-Q0,-Qc,-Q3,-Qd,-Q4,at_L a9];(repeat refine sdQ ?_);refine hK _ ?_;clear hK K;refine tn ?_;refine Qa (st':=⟨[(1,iV i_),(5,.own 0 0 s7.1.length),(7,lI (rx list_ s7.2)),(9,.lst true 1 (Ls list_)),(10,iV (list_.length:Int)),(11,iV s7.2)],[(0,rI s7.1)],1⟩) (wkQ8 [(0,0)]) ?_;refine runQ hN fun K hK=>?_;replace h:=Q5 h;obtain ⟨a10,h⟩:=h;replace h:=Q5 h;obtain ⟨a11,h⟩:=h;(try simp only [List.length_append,List.length_cons,List.length_nil] at a11);simp [-Q0,-Qc,-Q3,-Qd,-Q4,at_I a10,a11];(repeat refine sdQ ?_);refine hK _ ?_;clear hK K;refine bn ?_;refine tn ?_;refine Qa (st':=⟨[(1,iV i_),(5,.own 0 0 ((s7.1++[ix (rx list_ s7.2) i_]).length)),(9,.lst true 1 (Ls list_)),(10,iV (list_.length:Int)),(11,iV s7.2)],[(0,rI (s7.1++[ix (rx list_ s7.2) i_]))],1⟩) (wkQ8 [(2,0)]) ?_;refine runQ hN fun K hK=>?_;replace h:=Q5 h;obtain ⟨a12,h⟩:=h;simp [-Q0,-Qc,-Q3,-Qd,-Q4,Qv a12];(repeat refine sdQ ?_);refine hK _ ?_;clear hK K;cases h;exact rn (s':=(s7.1++[ix (rx list_ s7.2) i_],s7.2+1)) hk7 (wkQ8 [(0,0)])
  have g8:¬ (s7.2<(list_.length:Int)):=gQ;clear g;replace h:=if_r g8 h;refine Qi ?_;refine tx ?_;refine lx ?_;refine bh ?_;cases h;exact jn (b:=s7.1) hk7 (wkQ8 [(0,0)])
 intro b1 hb1;have h:=h1;try rw [← hb1] at h
 clear h1;try dsimp only at h
 refine Q2 ?_;refine runQ hN fun K hK=>?_;simp [-Q0,-Qc,-Q3,-Qd,-Q4];repeat refine sdQ ?_
 refine hK _ ?_;clear hK K;refine tn ?_;refine Qa (st':=⟨[(4,.own 0 0 b1.length)],[(0,rI b1)],1⟩) (wkQ8 [(0,0)]) ?_;refine Qh ?_;have hr:=Option.some.inj h;rw [← hr];refine ⟨_,(.tmp .nil),?_⟩;refine ⟨(.one rfl rfl .nil),[lI b1],[0],by simp [UA,U1,IA,I1,LA,L1,BA,B1,EA,E1,E2,eB,eI,eL],by simp,(UpL.refl _)⟩
attribute [local simp] eL eI QH Q2p Q7c Cat.cells SF.cells
noncomputable def Ql (f_:SF):Option (Unit ⊕ (Int × List Int × List Int × List Int × List (List Int) × List (List Int) × List (List Int) × (List (ByteArray × Int)) × (List (ByteArray × Int)))) :=
 (Qz f_).bind fun v2 =>
 if v2 > 8 then
  some (Sum.inl ())
 else
  (Qw f_).bind fun v4 =>
  (QQ (σ:=List (List Int) × Int) (ε:=List (List Int)) (fun s67 =>
   if s67.2<(v4.length:Int) then
    (
     ass (0≤s67.2∧s67.2<(v4.length:Int)) <|
     (QQ (σ:=List (List Int) × Int) (ε:=List (List Int)) (fun s99 =>
      if s99.2<(v4.length:Int) then
       (
        ass (0≤s99.2∧s99.2<(v4.length:Int)) <|
        ass ((0:Int)≤0∧0<((rx v4 s67.2).length:Int)) <|
        ass ((0:Int)≤0∧0<((rx v4 s99.2).length:Int)) <|
        (QA f_.s (ix (rx v4 s67.2) 0) (ix (rx v4 s99.2) 0)).bind fun v105 =>
        (QQ (σ:=List (List Int) × Int) (ε:=List (List Int)) (fun s116 =>
         if s116.2<(v105.length:Int) then
          (
           ass (0≤s116.2∧s116.2<(v105.length:Int)) <|
           ass (0≤ix v105 s116.2∧ix v105 s116.2<(f_.ac.length:Int)) <|
           ass ((0:Int)≤1∧1<((rx v4 s67.2).length:Int)) <|
           ass (0≤ix (rx v4 s67.2) 1∧ix (rx v4 s67.2) 1<((rx f_.ac (ix v105 s116.2)).length:Int)) <|
           ass ((0:Int)≤1∧1<((rx v4 s99.2).length:Int)) <|
           if (ix (rx f_.ac (ix v105 s116.2)) (ix (rx v4 s67.2) 1))=(ix (rx v4 s99.2) 1) then
            ass ((s116.1++[[s67.2,s99.2,ix v105 s116.2]]).length≤1073741824) <|
            some (s116.1++[[s67.2,s99.2,ix v105 s116.2]])
           else
            some s116.1:Option (List (List Int))).bind fun b118 =>
          ass (B64 (s116.2+1)) <|
          some (Ctl.next (b118,s116.2+1))
         else
          some (Ctl.ret s116.1)) fuel (s99.1,0)).bind fun p116 =>
        some p116:Option (List (List Int))).bind fun b101 =>
       ass (B64 (s99.2+1)) <|
       some (Ctl.next (b101,s99.2+1))
      else
       some (Ctl.ret s99.1)) fuel (s67.1,0)).bind fun p99 =>
     some p99:Option (List (List Int))).bind fun b69 =>
    ass (B64 (s67.2+1)) <|
    some (Ctl.next (b69,s67.2+1))
   else
    some (Ctl.ret s67.1)) fuel ([],0)).bind fun b5 =>
  if (b5.length:Int) > 40 then
   some (Sum.inl ())
  else
   (Q1I v4).bind fun v130 =>
   (Q1I b5).bind fun v131 =>
   (Q1H b5 0).bind fun v132 =>
   (Q1H b5 1).bind fun v133 =>
   (QQ (σ:=List Int × Int) (ε:=List Int) (fun s142 =>
    if s142.2<(v4.length:Int) then
     ass (0≤s142.2∧s142.2<(v4.length:Int)) <|
     ass ((0:Int)≤0∧0<((rx v4 s142.2).length:Int)) <|
     ass (0≤ix (rx v4 s142.2) 0∧ix (rx v4 s142.2) 0<(f_.s.id.length:Int)) <|
     (Q2h [[s142.2,s142.2,ix f_.s.id (ix (rx v4 s142.2) 0)]]).bind fun v147 =>
     ass ((s142.1++[(Q1b v147 v131).getD 0]).length≤1073741824) <|
     ass (B64 (s142.2+1)) <|
     some (Ctl.next (s142.1++[(Q1b v147 v131).getD 0],s142.2+1))
    else
     some (Ctl.ret s142.1)) fuel ([],0)).bind fun b134 =>
   (
    (Q11 (⟨(v4.length:Int),v132,v133,b134,[]⟩:Cat)).bind fun v151 =>
    ass (0≤v151∧v151≤1073741824) <|
    (QQ (σ:=List (List Int) × Int) (ε:=List (List Int)) (fun s182 =>
     if s182.2<((List.replicate v151.toNat ([]:List Int)).length:Int) then
      (
       ass (0≤v151∧v151≤1073741824) <|
       ass (0≤s182.2∧s182.2<(s182.1.length:Int)) <|
       ass (0≤s182.2∧s182.2<((s182.1.set s182.2.toNat (List.replicate v151.toNat 0)).length:Int)) <|
       (QQ (σ:=List (List Int) × Int) (ε:=List (List Int)) (fun s199 =>
        if s199.2<((rx (s182.1.set s182.2.toNat (List.replicate v151.toNat 0)) s182.2).length:Int) then
         (
          ass (0≤s182.2∧s182.2<(s199.1.length:Int)) <|
          ass (0≤s199.2∧s199.2<((rx s199.1 s182.2).length:Int)) <|
          ass (0≤s182.2∧s182.2<(v133.length:Int)) <|
          ass (0≤s199.2∧s199.2<(v132.length:Int)) <|
          if (ix v133 s182.2)=(ix v132 s199.2) then
           ass (0≤s182.2∧s182.2<((s199.1.set s182.2.toNat ((rx s199.1 s182.2).set s199.2.toNat (-1))).length:Int)) <|
           (Qo s182.2 s199.2 (⟨(⟨(v4.length:Int),v132,v133,b134,s199.1.set s182.2.toNat ((rx s199.1 s182.2).set s199.2.toNat (-1))⟩:Cat),v4,b5,v130,v131⟩:XGrothendieck) f_.s).bind fun v208 =>
           ass (0≤s199.2∧s199.2<((rx (s199.1.set s182.2.toNat ((rx s199.1 s182.2).set s199.2.toNat (-1))) s182.2).length:Int)) <|
           some ((s199.1.set s182.2.toNat ((rx s199.1 s182.2).set s199.2.toNat (-1))).set s182.2.toNat ((rx (s199.1.set s182.2.toNat ((rx s199.1 s182.2).set s199.2.toNat (-1))) s182.2).set s199.2.toNat v208))
          else
           some (s199.1.set s182.2.toNat ((rx s199.1 s182.2).set s199.2.toNat (-1))):Option (List (List Int))).bind fun b201 =>
         ass (B64 (s199.2+1)) <|
         some (Ctl.next (b201,s199.2+1))
        else
         some (Ctl.ret s199.1)) fuel (s182.1.set s182.2.toNat (List.replicate v151.toNat 0),0)).bind fun p199 =>
       some p199:Option (List (List Int))).bind fun b184 =>
      ass (B64 (s182.2+1)) <|
      some (Ctl.next (b184,s182.2+1))
     else
      some (Ctl.ret s182.1)) fuel (List.replicate v151.toNat ([]:List Int),0)).bind fun p182 =>
    some p182:Option (List (List Int))).bind fun v212 =>
   some (Sum.inr ((v4.length:Int),v132,v133,b134,v212,v4,b5,v130,v131))
theorem QG (f_:SF) (v213:Unit ⊕ (Int × List Int × List Int × List Int × List (List Int) × List (List Int) × List (List Int) × (List (ByteArray × Int)) × (List (ByteArray × Int)))) (h:Ql f_=some v213):ICon Try.prog 56 [.rptr (f_.cells true)] (fun _=>none) 0 (match v213 with|.inl v213=>({ v:=.tup [.val (.pointer none),.val (.bool false)],set:=[],del:=[],new:=[],cnt:=0 }:Eff)|.inr v213=>({ v:=.tup [.adr 0 0 0,.val (.bool true)],set:=[],del:=[],new:=[(0,.mix 9 [[iV v213.1,.own 1 0 v213.2.1.length,.own 2 0 v213.2.2.1.length,.own 3 0 v213.2.2.2.1.length,.own 4 0 v213.2.2.2.2.1.length,.own 5 0 v213.2.2.2.2.2.1.length,.own 6 0 v213.2.2.2.2.2.2.1.length,.cmap .str (Msi v213.2.2.2.2.2.2.2.1),.cmap .str (Msi v213.2.2.2.2.2.2.2.2)]]),(1,rI v213.2.1),(2,rI v213.2.2.1),(3,rI v213.2.2.2.1),(4,.row 1 (Ls v213.2.2.2.2.1)),(5,.row 1 (Ls v213.2.2.2.2.2.1)),(6,.row 1 (Ls v213.2.2.2.2.2.2.1))],cnt:=7 }:Eff)):=by
 refine Q3Z (ts:=[2,3]) (H:=[]) Try.func56 rfl rfl rfl (by simp [Try.f56]) (by simp) (fineI (by rcases v213 with v213|v213<;>simp)) (newI (by rcases v213 with v213|v213<;>rfl)) fun F hN hP=>?_;unfold Ql at h;refine Q2 ?_;refine Qr [] mo (by rw [hN];decide) fun K hK=>?_;simp [-Q0,-Qc,-Q3,-Qd,-Q4];repeat refine sdQ ?_
 refine hK _ ?_;clear hK K;refine tn ?_;refine Qa (st':=⟨[(0,.rptr (SF.cells true f_))],[],0⟩) (wkQ8 []) ?_;refine Q2 ?_;refine Q2 ?_;refine Qr [] mo (by rw [hN];decide) fun K hK=>?_;simp [-Q0,-Qc,-Q3,-Qd,-Q4];repeat with_reducible refine sdQ ?_
 replace h:=bind_some h;obtain ⟨v2,hv2,h⟩:=h;refine QC (fz:=[]) (Q2k _ v2 hv2) (.cons (.preT (by simp [SF.cells])) .nil) ?_;simp [-Q0,-Qc,-Q3,-Qd,-Q4,unk,unA,unE,unT,unC,flat];repeat refine sdQ ?_
 refine hK _ ?_;clear hK K;refine tn ?_;refine Qa (st':=⟨[(0,.rptr (SF.cells true f_)),(16,.val (.bool (decide (v2 > 8))))],[],0⟩) (wkQ8 []) ?_;refine Q8 rfl (fun g=>?_) fun g=>?_
 ·have g3:v2 > 8:=gQ;clear g;replace h:=if_l g3 h;refine Q2 ?_;refine Qr [] mo (by rw [hN];decide) fun K hK=>?_;simp [-Q0,-Qc,-Q3,-Qd,-Q4];repeat refine sdQ ?_
  refine hK _ ?_;clear hK K;refine tn ?_;refine Qa (st':=⟨[(2,.val (.pointer none)),(3,.val (.bool false))],[],0⟩) (wkQ8 []) ?_;refine Qh ?_;refine tr ?_;cases h;try dsimp only
  first|refine iw_r (st':=⟨[(2,.val (.pointer none)),(3,.val (.bool false))],[],0⟩) ?_ ?_|refine iw_n (st':=⟨[(2,.val (.pointer none)),(3,.val (.bool false))],[],0⟩) ?_ ?_
  ·exact Wk.r1 [] (by simp [hP,hhOk,back,Cat.cells,SF.cells,UA,U1,IA,I1,LA,L1,BA,B1,EA,E1,E2,eB,eI,eL])
  exact ⟨by simp [Q15],by simp,by simp [Cat.cells,SF.cells]⟩
 have g3:¬ (v2 > 8):=gQ;clear g;replace h:=if_r g3 h;refine Q9 ?_;refine tn ?_;refine Q2 ?_;refine Qr [] mo (by rw [hN];decide) fun K hK=>?_;simp [-Q0,-Qc,-Q3,-Qd,-Q4];repeat refine sdQ ?_
 refine hK _ ?_;clear hK K;refine tn ?_;refine Qa (st':=⟨[(0,.rptr (SF.cells true f_)),(4,.adr 0 0 0)],[(0,.mix 1 [[.rptr (SF.cells true f_)]])],1⟩) (wkQ8 [(0,0)]) ?_;refine Q2 ?_;refine Qr [] mo (by rw [hN];decide) fun K hK=>?_;simp [-Q0,-Qc,-Q3,-Qd,-Q4];repeat with_reducible refine sdQ ?_
 replace h:=bind_some h;obtain ⟨v4,hv4,h⟩:=h;refine QC (fz:=[]) (Q1Q _ v4 hv4) (.cons (.preT (by simp [SF.cells])) .nil) ?_;simp [-Q0,-Qc,-Q3,-Qd,-Q4,unk,unA,unE,unT,unC,flat];repeat refine sdQ ?_
 refine hK _ ?_;clear hK K;refine tn ?_;refine Qa (st':=⟨[(0,.rptr (SF.cells true f_)),(4,.adr 0 0 0),(5,.adr 1 0 0)],[(0,.mix 1 [[.rptr (SF.cells true f_)]]),(1,.mix 1 [[.adr 2 0 0]]),(2,.mix 9 [[iV 0,.val (.slice none 0 0),.val (.slice none 0 0),.val (.slice none 0 0),.val (.slice none 0 0),.own 3 0 v4.length,.val (.slice none 0 0),.val (.map none),.val (.map none)]]),(3,.row 1 (Ls v4))],4⟩) (wkQ8 [(0,0),(3,1),(2,2),(1,3)]) ?_;refine Q2 ?_;refine Q2 ?_;refine Qr [] mo (by rw [hN];decide) fun K hK=>?_;simp [-Q0,-Qc,-Q3,-Qd,-Q4];repeat refine sdQ ?_
 refine hK _ ?_;clear hK K;refine tn ?_;refine Qa (st':=⟨[(0,.rptr (SF.cells true f_)),(4,.adr 0 0 0),(5,.adr 1 0 0),(27,.own 3 0 v4.length),(28,iV (v4.length:Int)),(29,iV 0)],[(0,.mix 1 [[.rptr (SF.cells true f_)]]),(1,.mix 1 [[.adr 2 0 0]]),(2,.mix 9 [[iV 0,.val (.slice none 0 0),.val (.slice none 0 0),.val (.slice none 0 0),.val (.slice none 0 0),.own 3 0 v4.length,.val (.slice none 0 0),.val (.map none),.val (.map none)]]),(3,.row 1 (Ls v4))],4⟩) (wkQ8 [(0,0),(1,1),(2,2),(3,3)]) ?_;replace h:=bind_some h;obtain ⟨e5,h,h5⟩:=h;refine Qq (fun b5:List (List Int)=>⟨[(4,.adr 0 0 0),(5,.adr 1 0 0)],[(0,.mix 1 [[.rptr (SF.cells true f_)]]),(1,.mix 1 [[.adr 2 0 0]]),(2,.mix 9 [[iV 0,.val (.slice none 0 0),.val (.slice none 0 0),.val (.slice none 0 0),.val (.slice none 0 0),.own 3 0 v4.length,.own 4 0 b5.length,.val (.map none),.val (.map none)]]),(3,.row 1 (Ls v4)),(4,.row 1 (Ls b5))],5⟩) (fun b5=>b5=e5) ?_ ?_
 ·refine Q7 ?_;refine QB h (fun s67:List (List Int) × Int=>⟨[(0,.rptr (SF.cells true f_)),(4,.adr 0 0 0),(5,.adr 1 0 0),(27,.own 3 0 v4.length),(28,iV (v4.length:Int)),(29,iV s67.2)],[(0,.mix 1 [[.rptr (SF.cells true f_)]]),(1,.mix 1 [[.adr 2 0 0]]),(2,.mix 9 [[iV 0,.val (.slice none 0 0),.val (.slice none 0 0),.val (.slice none 0 0),.val (.slice none 0 0),.own 3 0 v4.length,.own 4 0 s67.1.length,.val (.map none),.val (.map none)]]),(3,.row 1 (Ls v4)),(4,.row 1 (Ls s67.1))],5⟩) (Q2L ⟨[(0,.rptr (SF.cells true f_)),(4,.adr 0 0 0),(5,.adr 1 0 0),(27,.own 3 0 v4.length),(28,iV (v4.length:Int)),(29,iV 0)],[(0,.mix 1 [[.rptr (SF.cells true f_)]]),(1,.mix 1 [[.adr 2 0 0]]),(2,.mix 9 [[iV 0,.val (.slice none 0 0),.val (.slice none 0 0),.val (.slice none 0 0),.val (.slice none 0 0),.own 3 0 v4.length,.own 4 0 0,.val (.map none),.val (.map none)]]),(3,.row 1 (Ls v4)),(4,.row 1 (Ls []))],5⟩ (Wk.nils [(4,1)] (by simp) (by simp) (by simp [nlA]) (by simp [entN,nlL,nlA,Cat.cells,SF.cells,UA,U1,IA,I1,LA,L1,BA,B1,EA,E1,E2,eB,eI,eL]) (by simp)) (wkQ8 [(0,0),(1,1),(2,2),(3,3),(4,4)])) ?_;clear h;intro k67 s67 c67 h hk67;refine Q2 ?_;refine Qr [] mo (by rw [hN];decide) fun K hK=>?_;simp [-Q0,-Qc,-Q3,-Qd,-Q4];repeat refine sdQ ?_
  refine hK _ ?_;clear hK K;refine tn ?_;refine Qa (st':=⟨[(0,.rptr (SF.cells true f_)),(4,.adr 0 0 0),(5,.adr 1 0 0),(27,.own 3 0 v4.length),(28,iV (v4.length:Int)),(29,iV s67.2),(30,.val (.bool (decide (s67.2<(v4.length:Int)))))],[(0,.mix 1 [[.rptr (SF.cells true f_)]]),(1,.mix 1 [[.adr 2 0 0]]),(2,.mix 9 [[iV 0,.val (.slice none 0 0),.val (.slice none 0 0),.val (.slice none 0 0),.val (.slice none 0 0),.own 3 0 v4.length,.own 4 0 s67.1.length,.val (.map none),.val (.map none)]]),(3,.row 1 (Ls v4)),(4,.row 1 (Ls s67.1))],5⟩) (wkQ8 [(0,0),(1,1),(2,2),(3,3),(4,4)]) ?_;refine Q2 ?_;refine Q8 rfl (fun g=>?_) fun g=>?_
  ·have g68:s67.2<(v4.length:Int):=gQ;clear g;replace h:=if_l g68 h;refine Q9 ?_;refine tn ?_;refine Q2 ?_;replace h:=bind_some h;obtain ⟨e69,h,h69⟩:=h;refine Qq (fun b69:List (List Int)=>⟨[(0,.rptr (SF.cells true f_)),(4,.adr 0 0 0),(5,.adr 1 0 0),(27,.own 3 0 v4.length),(28,iV (v4.length:Int)),(29,iV s67.2)],[(0,.mix 1 [[.rptr (SF.cells true f_)]]),(1,.mix 1 [[.adr 2 0 0]]),(2,.mix 9 [[iV 0,.val (.slice none 0 0),.val (.slice none 0 0),.val (.slice none 0 0),.val (.slice none 0 0),.own 3 0 v4.length,.own 4 0 b69.length,.val (.map none),.val (.map none)]]),(3,.row 1 (Ls v4)),(4,.row 1 (Ls b69))],5⟩) (fun b69=>b69=e69) ?_ ?_
   ·refine Q7 ?_;refine Q2 ?_;refine Qr [] mo (by rw [hN];decide) fun K hK=>?_;replace h:=Q5 h;obtain ⟨a70,h⟩:=h;simp [-Q0,-Qc,-Q3,-Qd,-Q4,at_L a70];(repeat refine sdQ ?_);refine hK _ ?_;clear hK K;refine tn ?_;refine Qa (st':=⟨[(0,.rptr (SF.cells true f_)),(4,.adr 0 0 0),(5,.adr 1 0 0),(6,iV s67.2),(7,.own 5 0 ((rx v4 s67.2).length)),(27,.own 3 0 v4.length),(28,iV (v4.length:Int)),(29,iV s67.2)],[(0,.mix 1 [[.rptr (SF.cells true f_)]]),(1,.mix 1 [[.adr 2 0 0]]),(2,.mix 9 [[iV 0,.val (.slice none 0 0),.val (.slice none 0 0),.val (.slice none 0 0),.val (.slice none 0 0),.own 3 0 v4.length,.own 4 0 s67.1.length,.val (.map none),.val (.map none)]]),(3,.row 1 (Ls v4)),(4,.row 1 (Ls s67.1)),(5,.ali 3 s67.2.toNat 0 1)],6⟩) (wkQ8 [(0,0),(1,1),(2,2),(3,3),(4,4),(5,5)]) ?_;refine Q2 ?_;refine Qr [] mo (by rw [hN];decide) fun K hK=>?_;simp [-Q0,-Qc,-Q3,-Qd,-Q4];(repeat refine sdQ ?_);refine hK _ ?_;clear hK K;refine tn ?_;refine Qa (st':=⟨[(0,.rptr (SF.cells true f_)),(4,.adr 0 0 0),(5,.adr 1 0 0),(6,iV s67.2),(7,.own 5 0 ((rx v4 s67.2).length)),(27,.own 3 0 v4.length),(28,iV (v4.length:Int)),(29,iV s67.2),(37,.own 3 0 v4.length),(38,iV (v4.length:Int)),(39,iV 0)],[(0,.mix 1 [[.rptr (SF.cells true f_)]]),(1,.mix 1 [[.adr 2 0 0]]),(2,.mix 9 [[iV 0,.val (.slice none 0 0),.val (.slice none 0 0),.val (.slice none 0 0),.val (.slice none 0 0),.own 3 0 v4.length,.own 4 0 s67.1.length,.val (.map none),.val (.map none)]]),(3,.row 1 (Ls v4)),(4,.row 1 (Ls s67.1)),(5,.ali 3 s67.2.toNat 0 1)],6⟩) (wkQ8 [(0,0),(1,1),(2,2),(3,3),(4,4),(5,5)]) ?_;refine Q7 ?_;replace h:=bind_some h;obtain ⟨e99,he99,h99⟩:=h;refine QB he99 (fun s99:List (List Int) × Int=>⟨[(0,.rptr (SF.cells true f_)),(4,.adr 0 0 0),(5,.adr 1 0 0),(6,iV s67.2),(7,.own 5 0 ((rx v4 s67.2).length)),(27,.own 3 0 v4.length),(28,iV (v4.length:Int)),(29,iV s67.2),(37,.own 3 0 v4.length),(38,iV (v4.length:Int)),(39,iV s99.2)],[(0,.mix 1 [[.rptr (SF.cells true f_)]]),(1,.mix 1 [[.adr 2 0 0]]),(2,.mix 9 [[iV 0,.val (.slice none 0 0),.val (.slice none 0 0),.val (.slice none 0 0),.val (.slice none 0 0),.own 3 0 v4.length,.own 4 0 s99.1.length,.val (.map none),.val (.map none)]]),(3,.row 1 (Ls v4)),(4,.row 1 (Ls s99.1)),(5,.ali 3 s67.2.toNat 0 1)],6⟩) (wkQ8 [(0,0),(1,1),(2,2),(3,3),(4,4),(5,5)]) ?_;intro k99 s99 c99 h hk99;refine Q2 ?_;refine Qr [] mo (by rw [hN];decide) fun K hK=>?_;simp [-Q0,-Qc,-Q3,-Qd,-Q4];(repeat refine sdQ ?_);refine hK _ ?_;clear hK K;refine tn ?_
    refine Qa (st':=⟨[(0,.rptr (SF.cells true f_)),(4,.adr 0 0 0),(5,.adr 1 0 0),(6,iV s67.2),(7,.own 5 0 ((rx v4 s67.2).length)),(27,.own 3 0 v4.length),(28,iV (v4.length:Int)),(29,iV s67.2),(37,.own 3 0 v4.length),(38,iV (v4.length:Int)),(39,iV s99.2),(40,.val (.bool (decide (s99.2<(v4.length:Int)))))],[(0,.mix 1 [[.rptr (SF.cells true f_)]]),(1,.mix 1 [[.adr 2 0 0]]),(2,.mix 9 [[iV 0,.val (.slice none 0 0),.val (.slice none 0 0),.val (.slice none 0 0),.val (.slice none 0 0),.own 3 0 v4.length,.own 4 0 s99.1.length,.val (.map none),.val (.map none)]]),(3,.row 1 (Ls v4)),(4,.row 1 (Ls s99.1)),(5,.ali 3 s67.2.toNat 0 1)],6⟩) (wkQ8 [(0,0),(1,1),(2,2),(3,3),(4,4),(5,5)]) ?_;refine Q2 ?_;refine Q8 rfl (fun g=>?_) fun g=>?_
    ·have g100:s99.2<(v4.length:Int):=gQ;clear g;replace h:=if_l g100 h;refine Q9 ?_;refine tn ?_;refine Q2 ?_;replace h:=bind_some h;obtain ⟨e101,h,h101⟩:=h;refine Qq (fun b101:List (List Int)=>⟨[(0,.rptr (SF.cells true f_)),(4,.adr 0 0 0),(5,.adr 1 0 0),(6,iV s67.2),(7,.own 5 0 ((rx v4 s67.2).length)),(27,.own 3 0 v4.length),(28,iV (v4.length:Int)),(29,iV s67.2),(37,.own 3 0 v4.length),(38,iV (v4.length:Int)),(39,iV s99.2)],[(0,.mix 1 [[.rptr (SF.cells true f_)]]),(1,.mix 1 [[.adr 2 0 0]]),(2,.mix 9 [[iV 0,.val (.slice none 0 0),.val (.slice none 0 0),.val (.slice none 0 0),.val (.slice none 0 0),.own 3 0 v4.length,.own 4 0 b101.length,.val (.map none),.val (.map none)]]),(3,.row 1 (Ls v4)),(4,.row 1 (Ls b101)),(5,.ali 3 s67.2.toNat 0 1)],6⟩) (fun b101=>b101=e101) ?_ ?_
     ·refine Q7 ?_;refine Q2 ?_;refine Qr [] mo (by rw [hN];decide) fun K hK=>?_;replace h:=Q5 h;obtain ⟨a102,h⟩:=h;simp [-Q0,-Qc,-Q3,-Qd,-Q4,at_L a102];(repeat refine sdQ ?_);refine hK _ ?_;clear hK K;refine tn ?_;refine Qa (st':=⟨[(0,.rptr (SF.cells true f_)),(4,.adr 0 0 0),(5,.adr 1 0 0),(6,iV s67.2),(7,.own 5 0 ((rx v4 s67.2).length)),(8,iV s99.2),(9,.own 6 0 ((rx v4 s99.2).length)),(27,.own 3 0 v4.length),(28,iV (v4.length:Int)),(29,iV s67.2),(37,.own 3 0 v4.length),(38,iV (v4.length:Int)),(39,iV s99.2)],[(0,.mix 1 [[.rptr (SF.cells true f_)]]),(1,.mix 1 [[.adr 2 0 0]]),(2,.mix 9 [[iV 0,.val (.slice none 0 0),.val (.slice none 0 0),.val (.slice none 0 0),.val (.slice none 0 0),.own 3 0 v4.length,.own 4 0 s99.1.length,.val (.map none),.val (.map none)]]),(3,.row 1 (Ls v4)),(4,.row 1 (Ls s99.1)),(5,.ali 3 s67.2.toNat 0 1),(6,.ali 3 s99.2.toNat 0 1)],7⟩) (wkQ8 [(0,0),(1,1),(2,2),(3,3),(4,4),(5,5),(6,6)]) ?_;refine Q2 ?_;refine Qr [] mo (by rw [hN];decide) fun K hK=>?_;replace h:=Q5 h;obtain ⟨a103,h⟩:=h;replace h:=Q5 h;obtain ⟨a104,h⟩:=h;simp [-Q0,-Qc,-Q3,-Qd,-Q4,at_L a70,(show (Is (rx v4 s67.2))[0]? = some [iV (ix (rx v4 s67.2) 0)] from at_I (j:=0) a103),at_L a102,(show (Is (rx v4 s99.2))[0]? = some [iV (ix (rx v4 s99.2) 0)] from at_I (j:=0) a104)];(repeat with_reducible refine sdQ ?_);replace h:=bind_some h;obtain ⟨v105,hv105,h⟩:=h;refine QC (fz:=[]) (Q3I _ _ _ v105 hv105) (.cons (.preT (by simp [Cat.cells,SF.cells])) (.cons .val (.cons .val .nil))) ?_;simp [-Q0,-Qc,-Q3,-Qd,-Q4,unk,unA,unE,unT,unC,flat,at_L a70,at_L a102];(repeat refine sdQ ?_);refine hK _ ?_;clear hK K;refine tn ?_;refine Qa (st':=⟨[(0,.rptr (SF.cells true f_)),(4,.adr 0 0 0),(5,.adr 1 0 0),(6,iV s67.2),(7,.own 5 0 ((rx v4 s67.2).length)),(8,iV s99.2),(9,.own 6 0 ((rx v4 s99.2).length)),(27,.own 3 0 v4.length),(28,iV (v4.length:Int)),(29,iV s67.2),(37,.own 3 0 v4.length),(38,iV (v4.length:Int)),(39,iV s99.2),(51,.own 7 0 v105.length),(52,iV (v105.length:Int)),(53,iV 0)],[(0,.mix 1 [[.rptr (SF.cells true f_)]]),(1,.mix 1 [[.adr 2 0 0]]),(2,.mix 9 [[iV 0,.val (.slice none 0 0),.val (.slice none 0 0),.val (.slice none 0 0),.val (.slice none 0 0),.own 3 0 v4.length,.own 4 0 s99.1.length,.val (.map none),.val (.map none)]]),(3,.row 1 (Ls v4)),(4,.row 1 (Ls s99.1)),(5,.ali 3 s67.2.toNat 0 1),(6,.ali 3 s99.2.toNat 0 1),(7,rI v105)],8⟩) (wkQ8 [(0,0),(1,1),(2,2),(3,3),(4,4),(5,5),(6,6),(9,7)]) ?_;refine Q7 ?_;replace h:=bind_some h;obtain ⟨e116,he116,h116⟩:=h
      refine QB he116 (fun s116:List (List Int) × Int=>⟨[(0,.rptr (SF.cells true f_)),(4,.adr 0 0 0),(5,.adr 1 0 0),(6,iV s67.2),(7,.own 5 0 ((rx v4 s67.2).length)),(8,iV s99.2),(9,.own 6 0 ((rx v4 s99.2).length)),(27,.own 3 0 v4.length),(28,iV (v4.length:Int)),(29,iV s67.2),(37,.own 3 0 v4.length),(38,iV (v4.length:Int)),(39,iV s99.2),(51,.own 7 0 v105.length),(52,iV (v105.length:Int)),(53,iV s116.2)],[(0,.mix 1 [[.rptr (SF.cells true f_)]]),(1,.mix 1 [[.adr 2 0 0]]),(2,.mix 9 [[iV 0,.val (.slice none 0 0),.val (.slice none 0 0),.val (.slice none 0 0),.val (.slice none 0 0),.own 3 0 v4.length,.own 4 0 s116.1.length,.val (.map none),.val (.map none)]]),(3,.row 1 (Ls v4)),(4,.row 1 (Ls s116.1)),(5,.ali 3 s67.2.toNat 0 1),(6,.ali 3 s99.2.toNat 0 1),(7,rI v105)],8⟩) (wkQ8 [(0,0),(1,1),(2,2),(3,3),(4,4),(5,5),(6,6),(7,7)]) ?_;intro k116 s116 c116 h hk116;refine Q2 ?_;refine Qr [] mo (by rw [hN];decide) fun K hK=>?_;simp [-Q0,-Qc,-Q3,-Qd,-Q4];(repeat refine sdQ ?_);refine hK _ ?_;clear hK K;refine tn ?_;refine Qa (st':=⟨[(0,.rptr (SF.cells true f_)),(4,.adr 0 0 0),(5,.adr 1 0 0),(6,iV s67.2),(7,.own 5 0 ((rx v4 s67.2).length)),(8,iV s99.2),(9,.own 6 0 ((rx v4 s99.2).length)),(27,.own 3 0 v4.length),(28,iV (v4.length:Int)),(29,iV s67.2),(37,.own 3 0 v4.length),(38,iV (v4.length:Int)),(39,iV s99.2),(51,.own 7 0 v105.length),(52,iV (v105.length:Int)),(53,iV s116.2),(54,.val (.bool (decide (s116.2<(v105.length:Int)))))],[(0,.mix 1 [[.rptr (SF.cells true f_)]]),(1,.mix 1 [[.adr 2 0 0]]),(2,.mix 9 [[iV 0,.val (.slice none 0 0),.val (.slice none 0 0),.val (.slice none 0 0),.val (.slice none 0 0),.own 3 0 v4.length,.own 4 0 s116.1.length,.val (.map none),.val (.map none)]]),(3,.row 1 (Ls v4)),(4,.row 1 (Ls s116.1)),(5,.ali 3 s67.2.toNat 0 1),(6,.ali 3 s99.2.toNat 0 1),(7,rI v105)],8⟩) (wkQ8 [(0,0),(1,1),(2,2),(3,3),(4,4),(5,5),(6,6),(7,7)]) ?_;refine Q2 ?_;refine Q8 rfl (fun g=>?_) fun g=>?_
      ·have g117:s116.2<(v105.length:Int):=gQ;clear g;replace h:=if_l g117 h;refine Q9 ?_;refine tn ?_;refine Q2 ?_;replace h:=bind_some h;obtain ⟨e118,h,h118⟩:=h;refine Qq (fun b118:List (List Int)=>⟨[(0,.rptr (SF.cells true f_)),(4,.adr 0 0 0),(5,.adr 1 0 0),(6,iV s67.2),(7,.own 5 0 ((rx v4 s67.2).length)),(8,iV s99.2),(9,.own 6 0 ((rx v4 s99.2).length)),(27,.own 3 0 v4.length),(28,iV (v4.length:Int)),(29,iV s67.2),(37,.own 3 0 v4.length),(38,iV (v4.length:Int)),(39,iV s99.2),(51,.own 7 0 v105.length),(52,iV (v105.length:Int)),(53,iV s116.2)],[(0,.mix 1 [[.rptr (SF.cells true f_)]]),(1,.mix 1 [[.adr 2 0 0]]),(2,.mix 9 [[iV 0,.val (.slice none 0 0),.val (.slice none 0 0),.val (.slice none 0 0),.val (.slice none 0 0),.own 3 0 v4.length,.own 4 0 b118.length,.val (.map none),.val (.map none)]]),(3,.row 1 (Ls v4)),(4,.row 1 (Ls b118)),(5,.ali 3 s67.2.toNat 0 1),(6,.ali 3 s99.2.toNat 0 1),(7,rI v105)],8⟩) (fun b118=>b118=e118) ?_ ?_
       ·refine Q7 ?_;refine Q2 ?_;refine Qr [] mo (by rw [hN];decide) fun K hK=>?_;replace h:=Q5 h;obtain ⟨a119,h⟩:=h;simp [-Q0,-Qc,-Q3,-Qd,-Q4,at_I a119];(repeat refine sdQ ?_);refine hK _ ?_;clear hK K;refine tn ?_;refine Qa (st':=⟨[(0,.rptr (SF.cells true f_)),(4,.adr 0 0 0),(5,.adr 1 0 0),(6,iV s67.2),(7,.own 5 0 ((rx v4 s67.2).length)),(8,iV s99.2),(9,.own 6 0 ((rx v4 s99.2).length)),(11,iV (ix v105 s116.2)),(27,.own 3 0 v4.length),(28,iV (v4.length:Int)),(29,iV s67.2),(37,.own 3 0 v4.length),(38,iV (v4.length:Int)),(39,iV s99.2),(51,.own 7 0 v105.length),(52,iV (v105.length:Int)),(53,iV s116.2)],[(0,.mix 1 [[.rptr (SF.cells true f_)]]),(1,.mix 1 [[.adr 2 0 0]]),(2,.mix 9 [[iV 0,.val (.slice none 0 0),.val (.slice none 0 0),.val (.slice none 0 0),.val (.slice none 0 0),.own 3 0 v4.length,.own 4 0 s116.1.length,.val (.map none),.val (.map none)]]),(3,.row 1 (Ls v4)),(4,.row 1 (Ls s116.1)),(5,.ali 3 s67.2.toNat 0 1),(6,.ali 3 s99.2.toNat 0 1),(7,rI v105)],8⟩) (wkQ8 [(0,0),(1,1),(2,2),(3,3),(4,4),(5,5),(6,6),(7,7)]) ?_;refine Q2 ?_;refine Qr [] mo (by rw [hN];decide) fun K hK=>?_;replace h:=Q5 h;obtain ⟨a120,h⟩:=h;replace h:=Q5 h;obtain ⟨a121,h⟩:=h;replace h:=Q5 h;obtain ⟨a122,h⟩:=h;replace h:=Q5 h;obtain ⟨a123,h⟩:=h;simp [-Q0,-Qc,-Q3,-Qd,-Q4,at_L a120,at_L a70,(show (Is (rx v4 s67.2))[1]? = some [iV (ix (rx v4 s67.2) 1)] from at_I (j:=1) a121),at_I a122,at_L a102,(show (Is (rx v4 s99.2))[1]? = some [iV (ix (rx v4 s99.2) 1)] from at_I (j:=1) a123)];(repeat refine sdQ ?_);refine hK _ ?_;clear hK K;refine tn ?_;refine Qa (st':=⟨[(0,.rptr (SF.cells true f_)),(4,.adr 0 0 0),(5,.adr 1 0 0),(6,iV s67.2),(7,.own 5 0 ((rx v4 s67.2).length)),(8,iV s99.2),(9,.own 6 0 ((rx v4 s99.2).length)),(11,iV (ix v105 s116.2)),(27,.own 3 0 v4.length),(28,iV (v4.length:Int)),(29,iV s67.2),(37,.own 3 0 v4.length),(38,iV (v4.length:Int)),(39,iV s99.2),(51,.own 7 0 v105.length),(52,iV (v105.length:Int)),(53,iV s116.2),(72,.val (.bool ((ix (rx f_.ac (ix v105 s116.2)) (ix (rx v4 s67.2) 1)) == (ix (rx v4 s99.2) 1))))],[(0,.mix 1 [[.rptr (SF.cells true f_)]]),(1,.mix 1 [[.adr 2 0 0]]),(2,.mix 9 [[iV 0,.val (.slice none 0 0),.val (.slice none 0 0),.val (.slice none 0 0),.val (.slice none 0 0),.own 3 0 v4.length,.own 4 0 s116.1.length,.val (.map none),.val (.map none)]]),(3,.row 1 (Ls v4)),(4,.row 1 (Ls s116.1)),(5,.ali 3 s67.2.toNat 0 1),(6,.ali 3 s99.2.toNat 0 1),(7,rI v105)],8⟩) (wkQ8 [(0,0),(1,1),(2,2),(3,3),(4,4),(5,5),(6,6),(7,7)]) ?_;refine Q8 rfl (fun g=>?_) fun g=>?_
        ·have g124:(ix (rx f_.ac (ix v105 s116.2)) (ix (rx v4 s67.2) 1))=(ix (rx v4 s99.2) 1):=gQ;clear g;replace h:=if_l g124 h;refine Q6w [] [5] 10 mo (by rw [hN];decide) fun K hK=>?_;replace h:=Q5 h;obtain ⟨a125,h⟩:=h;(try simp only [List.length_append,List.length_cons,List.length_nil] at a125);simp [-Q0,-Qc,-Q3,-Qd,-Q4,a125];(repeat refine sdQ ?_);refine hK _ ?_ (by rfl);clear hK K;refine bn ?_;exact jn (b:=s116.1++[[s67.2,s99.2,ix v105 s116.2]]) (Option.some.inj h) (wkQ8 [(0,0),(1,1),(2,2),(3,3),(10,4),(5,5),(6,6),(7,7)])
        have g124:¬ ((ix (rx f_.ac (ix v105 s116.2)) (ix (rx v4 s67.2) 1))=(ix (rx v4 s99.2) 1)):=gQ;clear g;replace h:=if_r g124 h;refine Q9 ?_;refine bn ?_;exact jn (b:=s116.1) (Option.some.inj h) (wkQ8 [(0,0),(1,1),(2,2),(3,3),(4,4),(5,5),(6,6),(7,7)])
       intro b118 hb118;have h:=h118;(try rw [← hb118] at h);clear h118;(try dsimp only at h);refine Qr [] mo (by rw [hN];decide) fun K hK=>?_;replace h:=Q5 h;obtain ⟨a126,h⟩:=h;simp [-Q0,-Qc,-Q3,-Qd,-Q4,Qv a126];(repeat refine sdQ ?_);refine hK _ ?_;clear hK K;cases h;exact rn (s':=(b118,s116.2+1)) hk116 (wkQ8 [(0,0),(1,1),(2,2),(3,3),(4,4),(5,5),(6,6),(7,7)])
      have g117:¬ (s116.2<(v105.length:Int)):=gQ;clear g;replace h:=if_r g117 h;refine Qi ?_;refine tx ?_;refine lx ?_;refine bh ?_;refine bn ?_;cases h;have q:_=e116:=hk116;have h:=h116;rw [← q] at h;clear q;(try dsimp only at h);exact jn (b:=s116.1) (Option.some.inj h) (wkQ8 [(0,0),(1,1),(2,2),(3,3),(4,4),(5,5)])
     intro b101 hb101;have h:=h101;(try rw [← hb101] at h);clear h101;(try dsimp only at h);refine Qr [] mo (by rw [hN];decide) fun K hK=>?_;replace h:=Q5 h;obtain ⟨a127,h⟩:=h;simp [-Q0,-Qc,-Q3,-Qd,-Q4,Qv a127];(repeat refine sdQ ?_);refine hK _ ?_;clear hK K;cases h;exact rn (s':=(b101,s99.2+1)) hk99 (wkQ8 [(0,0),(1,1),(2,2),(3,3),(4,4),(5,5)])
    have g100:¬ (s99.2<(v4.length:Int)):=gQ;clear g;replace h:=if_r g100 h;refine Qi ?_;refine tx ?_;refine lx ?_;refine bh ?_;refine bn ?_;cases h;have q:_=e99:=hk99;have h:=h99;rw [← q] at h;clear q;(try dsimp only at h);exact jn (b:=s99.1) (Option.some.inj h) (wkQ8 [(0,0),(1,1),(2,2),(3,3),(4,4)])
   intro b69 hb69;have h:=h69;(try rw [← hb69] at h);clear h69;(try dsimp only at h);refine Qr [] mo (by rw [hN];decide) fun K hK=>?_;replace h:=Q5 h;obtain ⟨a128,h⟩:=h;simp [-Q0,-Qc,-Q3,-Qd,-Q4,Qv a128];(repeat refine sdQ ?_);refine hK _ ?_;clear hK K;cases h;exact rn (s':=(b69,s67.2+1)) hk67 (wkQ8 [(0,0),(1,1),(2,2),(3,3),(4,4)])
  have g68:¬ (s67.2<(v4.length:Int)):=gQ;clear g;replace h:=if_r g68 h;refine Qi ?_;refine tx ?_;refine lx ?_;refine bh ?_;cases h;exact jn (b:=s67.1) hk67 (wkQ8 [(0,0),(1,1),(2,2),(3,3),(4,4)])
 intro b5 hb5;have h:=h5;try rw [← hb5] at h
 clear h5;try dsimp only at h
 refine Q2 ?_;refine Q2 ?_;refine Qr [] mo (by rw [hN];decide) fun K hK=>?_;simp [-Q0,-Qc,-Q3,-Qd,-Q4];repeat refine sdQ ?_
 refine hK _ ?_;clear hK K;refine tn ?_;refine Qa (st':=⟨[(4,.adr 0 0 0),(5,.adr 1 0 0),(94,.val (.bool (decide ((b5.length:Int) > 40))))],[(0,.mix 1 [[.rptr (SF.cells true f_)]]),(1,.mix 1 [[.adr 2 0 0]]),(2,.mix 9 [[iV 0,.val (.slice none 0 0),.val (.slice none 0 0),.val (.slice none 0 0),.val (.slice none 0 0),.own 3 0 v4.length,.own 4 0 b5.length,.val (.map none),.val (.map none)]]),(3,.row 1 (Ls v4)),(4,.row 1 (Ls b5))],5⟩) (wkQ8 [(0,0),(1,1),(2,2),(3,3),(4,4)]) ?_;refine Q8 rfl (fun g=>?_) fun g=>?_
 ·have g129:(b5.length:Int) > 40:=gQ;clear g;replace h:=if_l g129 h;refine Q2 ?_;refine Qr [] mo (by rw [hN];decide) fun K hK=>?_;simp [-Q0,-Qc,-Q3,-Qd,-Q4];repeat refine sdQ ?_
  refine hK _ ?_;clear hK K;refine tn ?_;refine Qa (st':=⟨[(2,.val (.pointer none)),(3,.val (.bool false))],[],0⟩) (wkQ8 []) ?_;refine Qh ?_;refine tr ?_;cases h;try dsimp only
  first|refine iw_r (st':=⟨[(2,.val (.pointer none)),(3,.val (.bool false))],[],0⟩) ?_ ?_|refine iw_n (st':=⟨[(2,.val (.pointer none)),(3,.val (.bool false))],[],0⟩) ?_ ?_
  ·exact Wk.r1 [] (by simp [hP,hhOk,back,Cat.cells,SF.cells,UA,U1,IA,I1,LA,L1,BA,B1,EA,E1,E2,eB,eI,eL])
  exact ⟨by simp [Q15],by simp,by simp [Cat.cells,SF.cells]⟩
 have g129:¬ ((b5.length:Int) > 40):=gQ;clear g;replace h:=if_r g129 h;refine Q9 ?_;refine tn ?_;refine Q2 ?_;refine Q6w [] [5] 14 mo (by rw [hN];decide) fun K hK=>?_;simp [-Q0,-Qc,-Q3,-Qd,-Q4];repeat with_reducible refine sdQ ?_
 replace h:=bind_some h;obtain ⟨v130,hv130,h⟩:=h;refine Q5e (fz:=[]) false (Q4J _ v130 hv130) (PurK.ofL (.cons (.whole (by simp) (by simp) (by simp)) .nil)) ?_;simp [-Q0,-Qc,-Q3,-Qd,-Q4,unk,unA,unE,unT,unC,flat];repeat with_reducible refine sdQ ?_
 replace h:=bind_some h;obtain ⟨v131,hv131,h⟩:=h;refine Q5e (fz:=[]) false (Q4J _ v131 hv131) (PurK.ofL (.cons (.whole (by simp) (by simp) (by simp)) .nil)) ?_;simp [-Q0,-Qc,-Q3,-Qd,-Q4,unk,unA,unE,unT,unC,flat];repeat refine sdQ ?_
 refine hK _ ?_ (by rfl);clear hK K;refine tn ?_;refine Qa (st':=⟨[(4,.adr 0 0 0),(5,.adr 1 0 0)],[(0,.mix 1 [[.rptr (SF.cells true f_)]]),(1,.mix 1 [[.adr 2 0 0]]),(2,.mix 9 [[iV 0,.val (.slice none 0 0),.val (.slice none 0 0),.val (.slice none 0 0),.val (.slice none 0 0),.own 3 0 v4.length,.own 4 0 b5.length,.cmap .str (Msi v130),.cmap .str (Msi v131)]]),(3,.row 1 (Ls v4)),(4,.row 1 (Ls b5))],5⟩) (wkQ8 [(0,0),(1,1),(2,2),(3,3),(4,4)]) ?_;refine Q2 ?_;refine Qr [] mo (by rw [hN];decide) fun K hK=>?_;simp [-Q0,-Qc,-Q3,-Qd,-Q4];repeat with_reducible refine sdQ ?_
 replace h:=bind_some h;obtain ⟨v132,hv132,h⟩:=h;refine QC (fz:=[]) (Q4I _ _ v132 hv132) (.cons (.whole (by simp) (by simp) (by simp)) (.cons .val .nil)) ?_;simp [-Q0,-Qc,-Q3,-Qd,-Q4,unk,unA,unE,unT,unC,flat];repeat with_reducible refine sdQ ?_
 replace h:=bind_some h;obtain ⟨v133,hv133,h⟩:=h;refine QC (fz:=[]) (Q4I _ _ v133 hv133) (.cons (.whole (by simp) (by simp) (by simp)) (.cons .val .nil)) ?_;simp [-Q0,-Qc,-Q3,-Qd,-Q4,unk,unA,unE,unT,unC,flat];repeat refine sdQ ?_
 refine hK _ ?_;clear hK K;refine tn ?_;refine Qa (st':=⟨[(4,.adr 0 0 0),(5,.adr 1 0 0)],[(0,.mix 1 [[.rptr (SF.cells true f_)]]),(1,.mix 1 [[.adr 2 0 0]]),(2,.mix 9 [[iV (v4.length:Int),.own 3 0 v132.length,.own 4 0 v133.length,.val (.slice none 0 0),.val (.slice none 0 0),.own 5 0 v4.length,.own 6 0 b5.length,.cmap .str (Msi v130),.cmap .str (Msi v131)]]),(3,rI v132),(4,rI v133),(5,.row 1 (Ls v4)),(6,.row 1 (Ls b5))],7⟩) (wkQ8 [(0,0),(1,1),(2,2),(5,3),(6,4),(3,5),(4,6)]) ?_;refine Q2 ?_;refine Q2 ?_;refine Qr [] mo (by rw [hN];decide) fun K hK=>?_;simp [-Q0,-Qc,-Q3,-Qd,-Q4];repeat refine sdQ ?_
 refine hK _ ?_;clear hK K;refine tn ?_;refine Qa (st':=⟨[(4,.adr 0 0 0),(5,.adr 1 0 0),(133,.own 5 0 v4.length),(134,iV (v4.length:Int)),(135,iV 0)],[(0,.mix 1 [[.rptr (SF.cells true f_)]]),(1,.mix 1 [[.adr 2 0 0]]),(2,.mix 9 [[iV (v4.length:Int),.own 3 0 v132.length,.own 4 0 v133.length,.val (.slice none 0 0),.val (.slice none 0 0),.own 5 0 v4.length,.own 6 0 b5.length,.cmap .str (Msi v130),.cmap .str (Msi v131)]]),(3,rI v132),(4,rI v133),(5,.row 1 (Ls v4)),(6,.row 1 (Ls b5))],7⟩) (wkQ8 [(0,0),(1,1),(2,2),(3,3),(4,4),(5,5),(6,6)]) ?_;replace h:=bind_some h;obtain ⟨e134,h,h134⟩:=h;refine Qq (fun b134:List Int=>⟨[(4,.adr 0 0 0),(5,.adr 1 0 0)],[(0,.mix 1 [[.rptr (SF.cells true f_)]]),(1,.mix 1 [[.adr 2 0 0]]),(2,.mix 9 [[iV (v4.length:Int),.own 3 0 v132.length,.own 4 0 v133.length,.own 5 0 b134.length,.val (.slice none 0 0),.own 6 0 v4.length,.own 7 0 b5.length,.cmap .str (Msi v130),.cmap .str (Msi v131)]]),(3,rI v132),(4,rI v133),(5,rI b134),(6,.row 1 (Ls v4)),(7,.row 1 (Ls b5))],8⟩) (fun b134=>b134=e134) ?_ ?_
 ·refine Q7 ?_;refine QB h (fun s142:List Int × Int=>⟨[(4,.adr 0 0 0),(5,.adr 1 0 0),(133,.own 6 0 v4.length),(134,iV (v4.length:Int)),(135,iV s142.2)],[(0,.mix 1 [[.rptr (SF.cells true f_)]]),(1,.mix 1 [[.adr 2 0 0]]),(2,.mix 9 [[iV (v4.length:Int),.own 3 0 v132.length,.own 4 0 v133.length,.own 5 0 s142.1.length,.val (.slice none 0 0),.own 6 0 v4.length,.own 7 0 b5.length,.cmap .str (Msi v130),.cmap .str (Msi v131)]]),(3,rI v132),(4,rI v133),(5,rI s142.1),(6,.row 1 (Ls v4)),(7,.row 1 (Ls b5))],8⟩) (Q2L ⟨[(4,.adr 0 0 0),(5,.adr 1 0 0),(133,.own 5 0 v4.length),(134,iV (v4.length:Int)),(135,iV 0)],[(0,.mix 1 [[.rptr (SF.cells true f_)]]),(1,.mix 1 [[.adr 2 0 0]]),(2,.mix 9 [[iV (v4.length:Int),.own 3 0 v132.length,.own 4 0 v133.length,.own 7 0 0,.val (.slice none 0 0),.own 5 0 v4.length,.own 6 0 b5.length,.cmap .str (Msi v130),.cmap .str (Msi v131)]]),(3,rI v132),(4,rI v133),(5,.row 1 (Ls v4)),(6,.row 1 (Ls b5)),(7,rI [])],8⟩ (Wk.nils [(7,1)] (by simp) (by simp) (by simp [nlA]) (by simp [entN,nlL,nlA,Cat.cells,SF.cells,UA,U1,IA,I1,LA,L1,BA,B1,EA,E1,E2,eB,eI,eL]) (by simp)) (wkQ8 [(0,0),(1,1),(2,2),(3,3),(4,4),(7,5),(5,6),(6,7)])) ?_;clear h;intro k142 s142 c142 h hk142;refine Q2 ?_;refine Qr [] mo (by rw [hN];decide) fun K hK=>?_;simp [-Q0,-Qc,-Q3,-Qd,-Q4];repeat refine sdQ ?_
  refine hK _ ?_;clear hK K;refine tn ?_;refine Qa (st':=⟨[(4,.adr 0 0 0),(5,.adr 1 0 0),(133,.own 6 0 v4.length),(134,iV (v4.length:Int)),(135,iV s142.2),(136,.val (.bool (decide (s142.2<(v4.length:Int)))))],[(0,.mix 1 [[.rptr (SF.cells true f_)]]),(1,.mix 1 [[.adr 2 0 0]]),(2,.mix 9 [[iV (v4.length:Int),.own 3 0 v132.length,.own 4 0 v133.length,.own 5 0 s142.1.length,.val (.slice none 0 0),.own 6 0 v4.length,.own 7 0 b5.length,.cmap .str (Msi v130),.cmap .str (Msi v131)]]),(3,rI v132),(4,rI v133),(5,rI s142.1),(6,.row 1 (Ls v4)),(7,.row 1 (Ls b5))],8⟩) (wkQ8 [(0,0),(1,1),(2,2),(3,3),(4,4),(5,5),(6,6),(7,7)]) ?_;refine Q2 ?_;refine Q8 rfl (fun g=>?_) fun g=>?_
  ·have g143:s142.2<(v4.length:Int):=gQ;clear g;replace h:=if_l g143 h;refine Q9 ?_;refine tn ?_;refine Q2 ?_;refine Q7 ?_;refine Q2 ?_;refine Qr [] mo (by rw [hN];decide) fun K hK=>?_;replace h:=Q5 h;obtain ⟨a144,h⟩:=h;simp [-Q0,-Qc,-Q3,-Qd,-Q4,at_L a144];(repeat refine sdQ ?_);refine hK _ ?_;clear hK K;refine tn ?_;refine Qa (st':=⟨[(4,.adr 0 0 0),(5,.adr 1 0 0),(12,iV s142.2),(13,.own 8 0 ((rx v4 s142.2).length)),(133,.own 6 0 v4.length),(134,iV (v4.length:Int)),(135,iV s142.2)],[(0,.mix 1 [[.rptr (SF.cells true f_)]]),(1,.mix 1 [[.adr 2 0 0]]),(2,.mix 9 [[iV (v4.length:Int),.own 3 0 v132.length,.own 4 0 v133.length,.own 5 0 s142.1.length,.val (.slice none 0 0),.own 6 0 v4.length,.own 7 0 b5.length,.cmap .str (Msi v130),.cmap .str (Msi v131)]]),(3,rI v132),(4,rI v133),(5,rI s142.1),(6,.row 1 (Ls v4)),(7,.row 1 (Ls b5)),(8,.ali 6 s142.2.toNat 0 1)],9⟩) (wkQ8 [(0,0),(1,1),(2,2),(3,3),(4,4),(5,5),(6,6),(7,7),(8,8)]) ?_;refine Q6w [] [5] 26 mo (by rw [hN];decide) fun K hK=>?_;replace h:=Q5 h;obtain ⟨a145,h⟩:=h;replace h:=Q5 h;obtain ⟨a146,h⟩:=h;simp [-Q0,-Qc,-Q3,-Qd,-Q4,at_L a144,(show (Is (rx v4 s142.2))[0]? = some [iV (ix (rx v4 s142.2) 0)] from at_I (j:=0) a145),at_I a146];(repeat with_reducible refine sdQ ?_);replace h:=bind_some h;obtain ⟨v147,hv147,h⟩:=h;refine QC (fz:=[]) (Q4i _ v147 hv147) (.cons (.lits (es:=_) rfl (.cons rfl (.cons (.lits (es:=_) rfl (.cons rfl (.cons .val .nil) (.cons rfl (.cons .val .nil) (.cons rfl (.cons .val .nil) .nil))) rfl) .nil) .nil) rfl) .nil) ?_;replace h:=Q5 h;obtain ⟨a148,h⟩:=h;(try simp only [List.length_append,List.length_cons,List.length_nil] at a148);simp [-Q0,-Qc,-Q3,-Qd,-Q4,unk,unA,unE,unT,unC,flat,at_L a144,at_I a146,a148];(repeat refine sdQ ?_);refine hK _ ?_ (by rfl);clear hK K;refine bn ?_;refine tn ?_;refine Qa (st':=⟨[(4,.adr 0 0 0),(5,.adr 1 0 0),(133,.own 6 0 v4.length),(134,iV (v4.length:Int)),(135,iV s142.2)],[(0,.mix 1 [[.rptr (SF.cells true f_)]]),(1,.mix 1 [[.adr 2 0 0]]),(2,.mix 9 [[iV (v4.length:Int),.own 3 0 v132.length,.own 4 0 v133.length,.own 5 0 ((s142.1++[(Q1b v147 v131).getD 0]).length),.val (.slice none 0 0),.own 6 0 v4.length,.own 7 0 b5.length,.cmap .str (Msi v130),.cmap .str (Msi v131)]]),(3,rI v132),(4,rI v133),(5,rI (s142.1++[(Q1b v147 v131).getD 0])),(6,.row 1 (Ls v4)),(7,.row 1 (Ls b5))],8⟩) (wkQ8 [(0,0),(1,1),(2,2),(3,3),(4,4),(14,5),(6,6),(7,7)]) ?_;refine Qr [] mo (by rw [hN];decide) fun K hK=>?_;replace h:=Q5 h;obtain ⟨a149,h⟩:=h;simp [-Q0,-Qc,-Q3,-Qd,-Q4,Qv a149];(repeat refine sdQ ?_);refine hK _ ?_;clear hK K;cases h;exact rn (s':=(s142.1++[(Q1b v147 v131).getD 0],s142.2+1)) hk142 (wkQ8 [(0,0),(1,1),(2,2),(3,3),(4,4),(5,5),(6,6),(7,7)])
  have g143:¬ (s142.2<(v4.length:Int)):=gQ;clear g;replace h:=if_r g143 h;refine Qi ?_;refine tx ?_;refine lx ?_;refine bh ?_;cases h;exact jn (b:=s142.1) hk142 (wkQ8 [(0,0),(1,1),(2,2),(3,3),(4,4),(5,5),(6,6),(7,7)])
 intro b134 hb134;have h:=h134;try rw [← hb134] at h
 clear h134;try dsimp only at h
 refine Q2 ?_;refine Q59 [] mo (by rw [hN];decide) fun K hK=>?_;simp [-Q0,-Qc,-Q3,-Qd,-Q4];repeat with_reducible refine sdQ ?_
 replace h:=bind_some h;obtain ⟨v212,hv212,h⟩:=h;refine Q3J (fz:=[]) (Q3Z (ts:=[]) (e:={ v:=.tup [],set:=[(2,.mix 9 [[iV (v4.length:Int),.own 3 0 v132.length,.own 4 0 v133.length,.own 5 0 b134.length,.own 8 0 v212.length,.own 6 0 v4.length,.own 7 0 b5.length,.cmap .str (Msi v130),.cmap .str (Msi v131)]])],del:=[],new:=[(8,.row 1 (Ls v212))],cnt:=1 }) Try.func106 rfl rfl rfl (by simp [Try.f106]) (by simp) (fineI (by simp)) (newI (by rfl)) fun F hN hP=>?_) ?_
 ·clear h;have h:=hv212;clear hv212;refine Q2 ?_;refine Qr [] mo (by rw [hN];decide) fun K hK=>?_;simp [-Q0,-Qc,-Q3,-Qd,-Q4];repeat with_reducible refine sdQ ?_
  replace h:=bind_some h;obtain ⟨v151,hv151,h⟩:=h;refine QC (fz:=[]) (Q31 _ v151 hv151) (.cons (.field rfl (by simp [Cat.cells,SF.cells]) (.cons .val (.cons (.whole (by simp) (by simp) (by simp)) (.cons (.whole (by simp) (by simp) (by simp)) (.cons (.whole (by simp) (by simp) (by simp)) (.cons .nil .nil)))))) .nil) ?_;simp [-Q0,-Qc,-Q3,-Qd,-Q4,unk,unA,unE,unT,unC,flat];repeat refine sdQ ?_
  refine hK _ ?_;clear hK K;refine tn ?_;refine Qa (st':=⟨[(0,.adr 2 0 0),(1,.fn 107 [.adr 1 0 0,.adr 0 0 0]),(4,iV v151)],[(0,.mix 1 [[.rptr (SF.cells true f_)]]),(1,.mix 1 [[.adr 2 0 0]]),(2,.mix 9 [[iV (v4.length:Int),.own 3 0 v132.length,.own 4 0 v133.length,.own 5 0 b134.length,.val (.slice none 0 0),.own 6 0 v4.length,.own 7 0 b5.length,.cmap .str (Msi v130),.cmap .str (Msi v131)]]),(3,rI v132),(4,rI v133),(5,rI b134),(6,.row 1 (Ls v4)),(7,.row 1 (Ls b5))],8⟩) (Wk.rP _ [(0,0),(1,1),(2,2),(3,3),(4,4),(5,5),(6,6),(7,7)] hP (by rfl) (by simp [hhOk,back,Cat.cells,SF.cells,UA,U1,IA,I1,LA,L1,BA,B1,EA,E1,E2,eB,eI,eL])) ?_;refine Q2 ?_;refine Qr [11] mo (by rw [hN];decide) fun K hK=>?_;replace h:=Q5 h;obtain ⟨a152,h⟩:=h;simp [-Q0,-Qc,-Q3,-Qd,-Q4];repeat refine sdQ ?_
  refine hK _ ?_;clear hK K;refine tn ?_;refine Qa (st':=⟨[(0,.adr 2 0 0),(1,.fn 107 [.adr 1 0 0,.adr 0 0 0]),(4,iV v151)],[(0,.mix 1 [[.rptr (SF.cells true f_)]]),(1,.mix 1 [[.adr 2 0 0]]),(2,.mix 9 [[iV (v4.length:Int),.own 3 0 v132.length,.own 4 0 v133.length,.own 5 0 b134.length,.own 8 0 ((List.replicate v151.toNat ([]:List Int)).length),.own 6 0 v4.length,.own 7 0 b5.length,.cmap .str (Msi v130),.cmap .str (Msi v131)]]),(3,rI v132),(4,rI v133),(5,rI b134),(6,.row 1 (Ls v4)),(7,.row 1 (Ls b5)),(8,.row 1 (Ls (List.replicate v151.toNat ([]:List Int))))],9⟩) (Wk.rP _ [(0,0),(1,1),(2,2),(3,3),(4,4),(5,5),(8,8),(6,6),(7,7)] hP (by rfl) (by simp [hhOk,back,Cat.cells,SF.cells,UA,U1,IA,I1,LA,L1,BA,B1,EA,E1,E2,eB,eI,eL])) ?_;refine Q2 ?_;refine Qr [] mo (by rw [hN];decide) fun K hK=>?_;simp [-Q0,-Qc,-Q3,-Qd,-Q4];repeat refine sdQ ?_
  refine hK _ ?_;clear hK K;refine tn ?_;refine Qa (st':=⟨[(0,.adr 2 0 0),(1,.fn 107 [.adr 1 0 0,.adr 0 0 0]),(4,iV v151),(18,iV ((List.replicate v151.toNat ([]:List Int)).length:Int)),(19,iV 0)],[(0,.mix 1 [[.rptr (SF.cells true f_)]]),(1,.mix 1 [[.adr 2 0 0]]),(2,.mix 9 [[iV (v4.length:Int),.own 3 0 v132.length,.own 4 0 v133.length,.own 5 0 b134.length,.own 8 0 ((List.replicate v151.toNat ([]:List Int)).length),.own 6 0 v4.length,.own 7 0 b5.length,.cmap .str (Msi v130),.cmap .str (Msi v131)]]),(3,rI v132),(4,rI v133),(5,rI b134),(6,.row 1 (Ls v4)),(7,.row 1 (Ls b5)),(8,.row 1 (Ls (List.replicate v151.toNat ([]:List Int))))],9⟩) (Wk.rP _ [(0,0),(1,1),(2,2),(3,3),(4,4),(5,5),(8,8),(6,6),(7,7)] hP (by rfl) (by simp [hhOk,back,Cat.cells,SF.cells,UA,U1,IA,I1,LA,L1,BA,B1,EA,E1,E2,eB,eI,eL])) ?_;refine Q7 ?_;replace h:=bind_some h;obtain ⟨e182,he182,h182⟩:=h;refine QB he182 (fun s182:List (List Int) × Int=>⟨[(0,.adr 2 0 0),(1,.fn 107 [.adr 1 0 0,.adr 0 0 0]),(4,iV v151),(18,iV ((List.replicate v151.toNat ([]:List Int)).length:Int)),(19,iV s182.2)],[(0,.mix 1 [[.rptr (SF.cells true f_)]]),(1,.mix 1 [[.adr 2 0 0]]),(2,.mix 9 [[iV (v4.length:Int),.own 3 0 v132.length,.own 4 0 v133.length,.own 5 0 b134.length,.own 8 0 s182.1.length,.own 6 0 v4.length,.own 7 0 b5.length,.cmap .str (Msi v130),.cmap .str (Msi v131)]]),(3,rI v132),(4,rI v133),(5,rI b134),(6,.row 1 (Ls v4)),(7,.row 1 (Ls b5)),(8,.row 1 (Ls s182.1))],9⟩) (Wk.rP _ [(0,0),(1,1),(2,2),(3,3),(4,4),(5,5),(8,8),(6,6),(7,7)] hP (by rfl) (by simp [hhOk,back,Cat.cells,SF.cells,UA,U1,IA,I1,LA,L1,BA,B1,EA,E1,E2,eB,eI,eL])) ?_;intro k182 s182 c182 h hk182;refine Q2 ?_;refine Qr [] mo (by rw [hN];decide) fun K hK=>?_;simp [-Q0,-Qc,-Q3,-Qd,-Q4];repeat refine sdQ ?_
  refine hK _ ?_;clear hK K;refine tn ?_;refine Qa (st':=⟨[(0,.adr 2 0 0),(1,.fn 107 [.adr 1 0 0,.adr 0 0 0]),(4,iV v151),(18,iV ((List.replicate v151.toNat ([]:List Int)).length:Int)),(19,iV s182.2),(20,.val (.bool (decide (s182.2<((List.replicate v151.toNat ([]:List Int)).length:Int)))))],[(0,.mix 1 [[.rptr (SF.cells true f_)]]),(1,.mix 1 [[.adr 2 0 0]]),(2,.mix 9 [[iV (v4.length:Int),.own 3 0 v132.length,.own 4 0 v133.length,.own 5 0 b134.length,.own 8 0 s182.1.length,.own 6 0 v4.length,.own 7 0 b5.length,.cmap .str (Msi v130),.cmap .str (Msi v131)]]),(3,rI v132),(4,rI v133),(5,rI b134),(6,.row 1 (Ls v4)),(7,.row 1 (Ls b5)),(8,.row 1 (Ls s182.1))],9⟩) (Wk.rP _ [(0,0),(1,1),(2,2),(3,3),(4,4),(5,5),(8,8),(6,6),(7,7)] hP (by rfl) (by simp [hhOk,back,Cat.cells,SF.cells,UA,U1,IA,I1,LA,L1,BA,B1,EA,E1,E2,eB,eI,eL])) ?_;refine Q2 ?_;refine Q8 rfl (fun g=>?_) fun g=>?_
  ·have g183:s182.2<((List.replicate v151.toNat ([]:List Int)).length:Int):=gQ;clear g;replace h:=if_l g183 h;refine Q9 ?_;refine tn ?_;refine Q2 ?_;replace h:=bind_some h;obtain ⟨e184,h,h184⟩:=h;refine Qq (fun b184:List (List Int)=>⟨[(0,.adr 2 0 0),(1,.fn 107 [.adr 1 0 0,.adr 0 0 0]),(4,iV v151),(18,iV ((List.replicate v151.toNat ([]:List Int)).length:Int)),(19,iV s182.2)],[(0,.mix 1 [[.rptr (SF.cells true f_)]]),(1,.mix 1 [[.adr 2 0 0]]),(2,.mix 9 [[iV (v4.length:Int),.own 3 0 v132.length,.own 4 0 v133.length,.own 5 0 b134.length,.own 8 0 b184.length,.own 6 0 v4.length,.own 7 0 b5.length,.cmap .str (Msi v130),.cmap .str (Msi v131)]]),(3,rI v132),(4,rI v133),(5,rI b134),(6,.row 1 (Ls v4)),(7,.row 1 (Ls b5)),(8,.row 1 (Ls b184))],9⟩) (fun b184=>b184=e184) ?_ ?_
   ·refine Q7 ?_;refine Q2 ?_;refine Qr [] mo (by rw [hN];decide) fun K hK=>?_;simp [-Q0,-Qc,-Q3,-Qd,-Q4];(repeat refine sdQ ?_);refine hK _ ?_;clear hK K;refine tn ?_;refine Qa (st':=⟨[(0,.adr 2 0 0),(1,.fn 107 [.adr 1 0 0,.adr 0 0 0]),(4,iV v151),(5,iV s182.2),(18,iV ((List.replicate v151.toNat ([]:List Int)).length:Int)),(19,iV s182.2)],[(0,.mix 1 [[.rptr (SF.cells true f_)]]),(1,.mix 1 [[.adr 2 0 0]]),(2,.mix 9 [[iV (v4.length:Int),.own 3 0 v132.length,.own 4 0 v133.length,.own 5 0 b134.length,.own 8 0 s182.1.length,.own 6 0 v4.length,.own 7 0 b5.length,.cmap .str (Msi v130),.cmap .str (Msi v131)]]),(3,rI v132),(4,rI v133),(5,rI b134),(6,.row 1 (Ls v4)),(7,.row 1 (Ls b5)),(8,.row 1 (Ls s182.1))],9⟩) (Wk.rP _ [(0,0),(1,1),(2,2),(3,3),(4,4),(5,5),(8,8),(6,6),(7,7)] hP (by rfl) (by simp [hhOk,back,Cat.cells,SF.cells,UA,U1,IA,I1,LA,L1,BA,B1,EA,E1,E2,eB,eI,eL])) ?_;refine Q2 ?_;refine Qr [] mo (by rw [hN];decide) fun K hK=>?_;replace h:=Q5 h;obtain ⟨a185,h⟩:=h;replace h:=Q5 h;obtain ⟨a186,h⟩:=h;simp [-Q0,-Qc,-Q3,-Qd,-Q4,at_L a186];(repeat with_reducible refine sdQ ?_);refine stoX_row (fz:=[]) [] tf_22 rfl (b:=.lst true 1 (Is (List.replicate v151.toNat 0))) (ds:=[9]) (es2:=Ls (s182.1.set s182.2.toNat (List.replicate v151.toNat 0))) rfl (by simp) (by first|(simp;done)|(simp;omega)|omega) (by simp) (by simp) (by simp) (by simp) Ls_st ?_;simp [-Q0,-Qc,-Q3,-Qd,-Q4,at_L a186];(repeat refine sdQ ?_);refine hK _ ?_;clear hK K;refine tn ?_;refine Qa (st':=⟨[(0,.adr 2 0 0),(1,.fn 107 [.adr 1 0 0,.adr 0 0 0]),(4,iV v151),(5,iV s182.2),(18,iV ((List.replicate v151.toNat ([]:List Int)).length:Int)),(19,iV s182.2)],[(0,.mix 1 [[.rptr (SF.cells true f_)]]),(1,.mix 1 [[.adr 2 0 0]]),(2,.mix 9 [[iV (v4.length:Int),.own 3 0 v132.length,.own 4 0 v133.length,.own 5 0 b134.length,.own 8 0 ((s182.1.set s182.2.toNat (List.replicate v151.toNat 0)).length),.own 6 0 v4.length,.own 7 0 b5.length,.cmap .str (Msi v130),.cmap .str (Msi v131)]]),(3,rI v132),(4,rI v133),(5,rI b134),(6,.row 1 (Ls v4)),(7,.row 1 (Ls b5)),(8,.row 1 (Ls (s182.1.set s182.2.toNat (List.replicate v151.toNat 0))))],9⟩) (Wk.rP _ [(0,0),(1,1),(2,2),(3,3),(4,4),(5,5),(8,8),(6,6),(7,7)] hP (by rfl) (by simp [hhOk,back,Cat.cells,SF.cells,UA,U1,IA,I1,LA,L1,BA,B1,EA,E1,E2,eB,eI,eL])) ?_;refine Q2 ?_;refine Qr [] mo (by rw [hN];decide) fun K hK=>?_;replace h:=Q5 h;obtain ⟨a187,h⟩:=h;simp [-Q0,-Qc,-Q3,-Qd,-Q4,at_L a187];(repeat refine sdQ ?_);refine hK _ ?_;clear hK K;refine tn ?_
    refine Qa (st':=⟨[(0,.adr 2 0 0),(1,.fn 107 [.adr 1 0 0,.adr 0 0 0]),(4,iV v151),(5,iV s182.2),(18,iV ((List.replicate v151.toNat ([]:List Int)).length:Int)),(19,iV s182.2),(37,iV ((rx (s182.1.set s182.2.toNat (List.replicate v151.toNat 0)) s182.2).length:Int)),(38,iV 0)],[(0,.mix 1 [[.rptr (SF.cells true f_)]]),(1,.mix 1 [[.adr 2 0 0]]),(2,.mix 9 [[iV (v4.length:Int),.own 3 0 v132.length,.own 4 0 v133.length,.own 5 0 b134.length,.own 8 0 ((s182.1.set s182.2.toNat (List.replicate v151.toNat 0)).length),.own 6 0 v4.length,.own 7 0 b5.length,.cmap .str (Msi v130),.cmap .str (Msi v131)]]),(3,rI v132),(4,rI v133),(5,rI b134),(6,.row 1 (Ls v4)),(7,.row 1 (Ls b5)),(8,.row 1 (Ls (s182.1.set s182.2.toNat (List.replicate v151.toNat 0))))],9⟩) (Wk.rP _ [(0,0),(1,1),(2,2),(3,3),(4,4),(5,5),(8,8),(6,6),(7,7)] hP (by rfl) (by simp [hhOk,back,Cat.cells,SF.cells,UA,U1,IA,I1,LA,L1,BA,B1,EA,E1,E2,eB,eI,eL])) ?_;refine Q7 ?_;replace h:=bind_some h;obtain ⟨e199,he199,h199⟩:=h;refine QB he199 (fun s199:List (List Int) × Int=>⟨[(0,.adr 2 0 0),(1,.fn 107 [.adr 1 0 0,.adr 0 0 0]),(4,iV v151),(5,iV s182.2),(18,iV ((List.replicate v151.toNat ([]:List Int)).length:Int)),(19,iV s182.2),(37,iV ((rx (s182.1.set s182.2.toNat (List.replicate v151.toNat 0)) s182.2).length:Int)),(38,iV s199.2)],[(0,.mix 1 [[.rptr (SF.cells true f_)]]),(1,.mix 1 [[.adr 2 0 0]]),(2,.mix 9 [[iV (v4.length:Int),.own 3 0 v132.length,.own 4 0 v133.length,.own 5 0 b134.length,.own 8 0 s199.1.length,.own 6 0 v4.length,.own 7 0 b5.length,.cmap .str (Msi v130),.cmap .str (Msi v131)]]),(3,rI v132),(4,rI v133),(5,rI b134),(6,.row 1 (Ls v4)),(7,.row 1 (Ls b5)),(8,.row 1 (Ls s199.1))],9⟩) (Wk.rP _ [(0,0),(1,1),(2,2),(3,3),(4,4),(5,5),(8,8),(6,6),(7,7)] hP (by rfl) (by simp [hhOk,back,Cat.cells,SF.cells,UA,U1,IA,I1,LA,L1,BA,B1,EA,E1,E2,eB,eI,eL])) ?_;intro k199 s199 c199 h hk199;refine Q2 ?_;refine Qr [] mo (by rw [hN];decide) fun K hK=>?_;simp [-Q0,-Qc,-Q3,-Qd,-Q4];(repeat refine sdQ ?_);refine hK _ ?_;clear hK K;refine tn ?_;refine Qa (st':=⟨[(0,.adr 2 0 0),(1,.fn 107 [.adr 1 0 0,.adr 0 0 0]),(4,iV v151),(5,iV s182.2),(18,iV ((List.replicate v151.toNat ([]:List Int)).length:Int)),(19,iV s182.2),(37,iV ((rx (s182.1.set s182.2.toNat (List.replicate v151.toNat 0)) s182.2).length:Int)),(38,iV s199.2),(39,.val (.bool (decide (s199.2<((rx (s182.1.set s182.2.toNat (List.replicate v151.toNat 0)) s182.2).length:Int)))))],[(0,.mix 1 [[.rptr (SF.cells true f_)]]),(1,.mix 1 [[.adr 2 0 0]]),(2,.mix 9 [[iV (v4.length:Int),.own 3 0 v132.length,.own 4 0 v133.length,.own 5 0 b134.length,.own 8 0 s199.1.length,.own 6 0 v4.length,.own 7 0 b5.length,.cmap .str (Msi v130),.cmap .str (Msi v131)]]),(3,rI v132),(4,rI v133),(5,rI b134),(6,.row 1 (Ls v4)),(7,.row 1 (Ls b5)),(8,.row 1 (Ls s199.1))],9⟩) (Wk.rP _ [(0,0),(1,1),(2,2),(3,3),(4,4),(5,5),(8,8),(6,6),(7,7)] hP (by rfl) (by simp [hhOk,back,Cat.cells,SF.cells,UA,U1,IA,I1,LA,L1,BA,B1,EA,E1,E2,eB,eI,eL])) ?_;refine Q2 ?_
    refine Q8 rfl (fun g=>?_) fun g=>?_
    ·have g200:s199.2<((rx (s182.1.set s182.2.toNat (List.replicate v151.toNat 0)) s182.2).length:Int):=gQ;clear g;replace h:=if_l g200 h;refine Q9 ?_;refine tn ?_;refine Q2 ?_;replace h:=bind_some h;obtain ⟨e201,h,h201⟩:=h;refine Qq (fun b201:List (List Int)=>⟨[(0,.adr 2 0 0),(1,.fn 107 [.adr 1 0 0,.adr 0 0 0]),(4,iV v151),(5,iV s182.2),(18,iV ((List.replicate v151.toNat ([]:List Int)).length:Int)),(19,iV s182.2),(37,iV ((rx (s182.1.set s182.2.toNat (List.replicate v151.toNat 0)) s182.2).length:Int)),(38,iV s199.2)],[(0,.mix 1 [[.rptr (SF.cells true f_)]]),(1,.mix 1 [[.adr 2 0 0]]),(2,.mix 9 [[iV (v4.length:Int),.own 3 0 v132.length,.own 4 0 v133.length,.own 5 0 b134.length,.own 8 0 b201.length,.own 6 0 v4.length,.own 7 0 b5.length,.cmap .str (Msi v130),.cmap .str (Msi v131)]]),(3,rI v132),(4,rI v133),(5,rI b134),(6,.row 1 (Ls v4)),(7,.row 1 (Ls b5)),(8,.row 1 (Ls b201))],9⟩) (fun b201=>b201=e201) ?_ ?_
     ·refine Q7 ?_;refine Q2 ?_;refine Qr [] mo (by rw [hN];decide) fun K hK=>?_;simp [-Q0,-Qc,-Q3,-Qd,-Q4];(repeat refine sdQ ?_);refine hK _ ?_;clear hK K;refine tn ?_;refine Qa (st':=⟨[(0,.adr 2 0 0),(1,.fn 107 [.adr 1 0 0,.adr 0 0 0]),(4,iV v151),(5,iV s182.2),(6,iV s199.2),(18,iV ((List.replicate v151.toNat ([]:List Int)).length:Int)),(19,iV s182.2),(37,iV ((rx (s182.1.set s182.2.toNat (List.replicate v151.toNat 0)) s182.2).length:Int)),(38,iV s199.2)],[(0,.mix 1 [[.rptr (SF.cells true f_)]]),(1,.mix 1 [[.adr 2 0 0]]),(2,.mix 9 [[iV (v4.length:Int),.own 3 0 v132.length,.own 4 0 v133.length,.own 5 0 b134.length,.own 8 0 s199.1.length,.own 6 0 v4.length,.own 7 0 b5.length,.cmap .str (Msi v130),.cmap .str (Msi v131)]]),(3,rI v132),(4,rI v133),(5,rI b134),(6,.row 1 (Ls v4)),(7,.row 1 (Ls b5)),(8,.row 1 (Ls s199.1))],9⟩) (Wk.rP _ [(0,0),(1,1),(2,2),(3,3),(4,4),(5,5),(8,8),(6,6),(7,7)] hP (by rfl) (by simp [hhOk,back,Cat.cells,SF.cells,UA,U1,IA,I1,LA,L1,BA,B1,EA,E1,E2,eB,eI,eL])) ?_;refine Q2 ?_;refine Qr [] mo (by rw [hN];decide) fun K hK=>?_;replace h:=Q5 h;obtain ⟨a202,h⟩:=h;replace h:=Q5 h;obtain ⟨a203,h⟩:=h;simp [-Q0,-Qc,-Q3,-Qd,-Q4,at_L a202,at_I a203];(repeat refine sdQ ?_);refine hK _ ?_;clear hK K;refine tn ?_;refine Qa (st':=⟨[(0,.adr 2 0 0),(1,.fn 107 [.adr 1 0 0,.adr 0 0 0]),(4,iV v151),(5,iV s182.2),(6,iV s199.2),(18,iV ((List.replicate v151.toNat ([]:List Int)).length:Int)),(19,iV s182.2),(37,iV ((rx (s182.1.set s182.2.toNat (List.replicate v151.toNat 0)) s182.2).length:Int)),(38,iV s199.2)],[(0,.mix 1 [[.rptr (SF.cells true f_)]]),(1,.mix 1 [[.adr 2 0 0]]),(2,.mix 9 [[iV (v4.length:Int),.own 3 0 v132.length,.own 4 0 v133.length,.own 5 0 b134.length,.own 8 0 ((s199.1.set s182.2.toNat ((rx s199.1 s182.2).set s199.2.toNat (-1))).length),.own 6 0 v4.length,.own 7 0 b5.length,.cmap .str (Msi v130),.cmap .str (Msi v131)]]),(3,rI v132),(4,rI v133),(5,rI b134),(6,.row 1 (Ls v4)),(7,.row 1 (Ls b5)),(8,.row 1 (Ls (s199.1.set s182.2.toNat ((rx s199.1 s182.2).set s199.2.toNat (-1)))))],9⟩) (Wk.rP _ [(0,0),(1,1),(2,2),(3,3),(4,4),(5,5),(8,8),(6,6),(7,7)] hP (by rfl) (by simp [hhOk,back,Cat.cells,SF.cells,UA,U1,IA,I1,LA,L1,BA,B1,EA,E1,E2,eB,eI,eL])) ?_;refine Q2 ?_;refine Qr [] mo (by rw [hN];decide) fun K hK=>?_;replace h:=Q5 h;obtain ⟨a204,h⟩:=h;replace h:=Q5 h;obtain ⟨a205,h⟩:=h;simp [-Q0,-Qc,-Q3,-Qd,-Q4,at_I a204,at_I a205];(repeat refine sdQ ?_);refine hK _ ?_;clear hK K;refine tn ?_
      refine Qa (st':=⟨[(0,.adr 2 0 0),(1,.fn 107 [.adr 1 0 0,.adr 0 0 0]),(4,iV v151),(5,iV s182.2),(6,iV s199.2),(18,iV ((List.replicate v151.toNat ([]:List Int)).length:Int)),(19,iV s182.2),(37,iV ((rx (s182.1.set s182.2.toNat (List.replicate v151.toNat 0)) s182.2).length:Int)),(38,iV s199.2),(64,.val (.bool ((ix v133 s182.2) == (ix v132 s199.2))))],[(0,.mix 1 [[.rptr (SF.cells true f_)]]),(1,.mix 1 [[.adr 2 0 0]]),(2,.mix 9 [[iV (v4.length:Int),.own 3 0 v132.length,.own 4 0 v133.length,.own 5 0 b134.length,.own 8 0 ((s199.1.set s182.2.toNat ((rx s199.1 s182.2).set s199.2.toNat (-1))).length),.own 6 0 v4.length,.own 7 0 b5.length,.cmap .str (Msi v130),.cmap .str (Msi v131)]]),(3,rI v132),(4,rI v133),(5,rI b134),(6,.row 1 (Ls v4)),(7,.row 1 (Ls b5)),(8,.row 1 (Ls (s199.1.set s182.2.toNat ((rx s199.1 s182.2).set s199.2.toNat (-1)))))],9⟩) (Wk.rP _ [(0,0),(1,1),(2,2),(3,3),(4,4),(5,5),(8,8),(6,6),(7,7)] hP (by rfl) (by simp [hhOk,back,Cat.cells,SF.cells,UA,U1,IA,I1,LA,L1,BA,B1,EA,E1,E2,eB,eI,eL])) ?_;refine Q8 rfl (fun g=>?_) fun g=>?_
      ·have g206:(ix v133 s182.2)=(ix v132 s199.2):=gQ;clear g;replace h:=if_l g206 h;refine Qr [] mo (by rw [hN];decide) fun K hK=>?_;replace h:=Q5 h;obtain ⟨a207,h⟩:=h;simp [-Q0,-Qc,-Q3,-Qd,-Q4,at_L a207];(repeat with_reducible refine sdQ ?_);replace h:=bind_some h;obtain ⟨v208,hv208,h⟩:=h;refine QC (fz:=[]) (Q14 _ _ _ _ v208 hv208) (.cons .val (.cons .val (.cons (.field rfl (by simp [Cat.cells,SF.cells]) (.cons (.field rfl (by simp [Cat.cells,SF.cells]) (.cons .val (.cons (.whole (by simp) (by simp) (by simp)) (.cons (.whole (by simp) (by simp) (by simp)) (.cons (.whole (by simp) (by simp) (by simp)) (.cons (.whole (by simp) (by simp) (by simp)) (.cons (.whole (by simp) (by simp) (by simp)) (.cons (.whole (by simp) (by simp) (by simp)) (.cons .cmap (.cons .cmap .nil)))))))))) .nil)) (.cons (.field rfl (by simp [Cat.cells,SF.cells]) (.cons (.preT (by simp [Cat.cells,SF.cells])) .nil)) .nil)))) ?_;replace h:=Q5 h;obtain ⟨a209,h⟩:=h;simp [-Q0,-Qc,-Q3,-Qd,-Q4,unk,unA,unE,unT,unC,flat,at_L a207,at_I a209];(repeat refine sdQ ?_);refine hK _ ?_;clear hK K;refine bn ?_;exact jn (b:=(s199.1.set s182.2.toNat ((rx s199.1 s182.2).set s199.2.toNat (-1))).set s182.2.toNat ((rx (s199.1.set s182.2.toNat ((rx s199.1 s182.2).set s199.2.toNat (-1))) s182.2).set s199.2.toNat v208)) (Option.some.inj h) (Wk.rP _ [(0,0),(1,1),(2,2),(3,3),(4,4),(5,5),(8,8),(6,6),(7,7)] hP (by rfl) (by simp [hhOk,back,Cat.cells,SF.cells,UA,U1,IA,I1,LA,L1,BA,B1,EA,E1,E2,eB,eI,eL]))
      have g206:¬ ((ix v133 s182.2)=(ix v132 s199.2)):=gQ;clear g;replace h:=if_r g206 h;refine Q9 ?_;refine bn ?_;exact jn (b:=s199.1.set s182.2.toNat ((rx s199.1 s182.2).set s199.2.toNat (-1))) (Option.some.inj h) (Wk.rP _ [(0,0),(1,1),(2,2),(3,3),(4,4),(5,5),(8,8),(6,6),(7,7)] hP (by rfl) (by simp [hhOk,back,Cat.cells,SF.cells,UA,U1,IA,I1,LA,L1,BA,B1,EA,E1,E2,eB,eI,eL]))
     intro b201 hb201;have h:=h201;(try rw [← hb201] at h);clear h201;(try dsimp only at h);refine Qr [] mo (by rw [hN];decide) fun K hK=>?_;replace h:=Q5 h;obtain ⟨a210,h⟩:=h;simp [-Q0,-Qc,-Q3,-Qd,-Q4,Qv a210];(repeat refine sdQ ?_);refine hK _ ?_;clear hK K;cases h;exact rn (s':=(b201,s199.2+1)) hk199 (Wk.rP _ [(0,0),(1,1),(2,2),(3,3),(4,4),(5,5),(8,8),(6,6),(7,7)] hP (by rfl) (by simp [hhOk,back,Cat.cells,SF.cells,UA,U1,IA,I1,LA,L1,BA,B1,EA,E1,E2,eB,eI,eL]))
    have g200:¬ (s199.2<((rx (s182.1.set s182.2.toNat (List.replicate v151.toNat 0)) s182.2).length:Int)):=gQ;clear g;replace h:=if_r g200 h;refine Qi ?_;refine tx ?_;refine lx ?_;refine bh ?_;refine bn ?_;cases h;have q:_=e199:=hk199;have h:=h199;rw [← q] at h;clear q;(try dsimp only at h);exact jn (b:=s199.1) (Option.some.inj h) (Wk.rP _ [(0,0),(1,1),(2,2),(3,3),(4,4),(5,5),(8,8),(6,6),(7,7)] hP (by rfl) (by simp [hhOk,back,Cat.cells,SF.cells,UA,U1,IA,I1,LA,L1,BA,B1,EA,E1,E2,eB,eI,eL]))
   intro b184 hb184;have h:=h184;(try rw [← hb184] at h);clear h184;(try dsimp only at h);refine Qr [] mo (by rw [hN];decide) fun K hK=>?_;replace h:=Q5 h;obtain ⟨a211,h⟩:=h;simp [-Q0,-Qc,-Q3,-Qd,-Q4,Qv a211];(repeat refine sdQ ?_);refine hK _ ?_;clear hK K;cases h;exact rn (s':=(b184,s182.2+1)) hk182 (Wk.rP _ [(0,0),(1,1),(2,2),(3,3),(4,4),(5,5),(8,8),(6,6),(7,7)] hP (by rfl) (by simp [hhOk,back,Cat.cells,SF.cells,UA,U1,IA,I1,LA,L1,BA,B1,EA,E1,E2,eB,eI,eL]))
  have g183:¬ (s182.2<((List.replicate v151.toNat ([]:List Int)).length:Int)):=gQ;clear g;replace h:=if_r g183 h;refine Qi ?_;refine tx ?_;refine lx ?_;refine bh ?_;cases h;have q:_=e182:=hk182;have h:=h182;rw [← q] at h;clear q;try dsimp only at h
  cases h;first|refine iw_r (st':=⟨[],[(0,.mix 1 [[.rptr (SF.cells true f_)]]),(1,.mix 1 [[.adr 2 0 0]]),(2,.mix 9 [[iV (v4.length:Int),.own 3 0 v132.length,.own 4 0 v133.length,.own 5 0 b134.length,.own 8 0 s182.1.length,.own 6 0 v4.length,.own 7 0 b5.length,.cmap .str (Msi v130),.cmap .str (Msi v131)]]),(3,rI v132),(4,rI v133),(5,rI b134),(6,.row 1 (Ls v4)),(7,.row 1 (Ls b5)),(8,.row 1 (Ls s182.1))],9⟩) ?_ ?_|refine iw_n (st':=⟨[],[(0,.mix 1 [[.rptr (SF.cells true f_)]]),(1,.mix 1 [[.adr 2 0 0]]),(2,.mix 9 [[iV (v4.length:Int),.own 3 0 v132.length,.own 4 0 v133.length,.own 5 0 b134.length,.own 8 0 s182.1.length,.own 6 0 v4.length,.own 7 0 b5.length,.cmap .str (Msi v130),.cmap .str (Msi v131)]]),(3,rI v132),(4,rI v133),(5,rI b134),(6,.row 1 (Ls v4)),(7,.row 1 (Ls b5)),(8,.row 1 (Ls s182.1))],9⟩) ?_ ?_
  ·exact Wk.rP _ [(0,0),(1,1),(2,2),(3,3),(4,4),(5,5),(8,8),(6,6),(7,7)] hP (by rfl) (by simp [hhOk,back,Cat.cells,SF.cells,UA,U1,IA,I1,LA,L1,BA,B1,EA,E1,E2,eB,eI,eL])
  exact ⟨by simp [Q15],by simp,by simp [Cat.cells,SF.cells]⟩
 simp [-Q0,-Qc,-Q3,-Qd,-Q4,unk,unA,unE,unT,unC,flat];repeat refine sdQ ?_
 refine hK _ ?_;clear hK K;refine tn ?_;refine Qa (st':=⟨[(5,.adr 0 0 0)],[(0,.mix 1 [[.adr 1 0 0]]),(1,.mix 9 [[iV (v4.length:Int),.own 2 0 v132.length,.own 3 0 v133.length,.own 4 0 b134.length,.own 5 0 v212.length,.own 6 0 v4.length,.own 7 0 b5.length,.cmap .str (Msi v130),.cmap .str (Msi v131)]]),(2,rI v132),(3,rI v133),(4,rI b134),(5,.row 1 (Ls v212)),(6,.row 1 (Ls v4)),(7,.row 1 (Ls b5))],8⟩) (wkQ8 [(1,0),(2,1),(3,2),(4,3),(5,4),(8,5),(6,6),(7,7)]) ?_;refine Q2 ?_;refine Qr [] mo (by rw [hN];decide) fun K hK=>?_;simp [-Q0,-Qc,-Q3,-Qd,-Q4];repeat refine sdQ ?_
 refine hK _ ?_;clear hK K;refine tn ?_;refine Qa (st':=⟨[(2,.adr 0 0 0),(3,.val (.bool true))],[(0,.mix 9 [[iV (v4.length:Int),.own 1 0 v132.length,.own 2 0 v133.length,.own 3 0 b134.length,.own 4 0 v212.length,.own 5 0 v4.length,.own 6 0 b5.length,.cmap .str (Msi v130),.cmap .str (Msi v131)]]),(1,rI v132),(2,rI v133),(3,rI b134),(4,.row 1 (Ls v212)),(5,.row 1 (Ls v4)),(6,.row 1 (Ls b5))],7⟩) (wkQ8 [(1,0),(2,1),(3,2),(4,3),(5,4),(6,5),(7,6)]) ?_;refine Qh ?_;cases h;try dsimp only
 first|refine iw_r (st':=⟨[(2,.adr 0 0 0),(3,.val (.bool true))],[(0,.mix 9 [[iV (v4.length:Int),.own 1 0 v132.length,.own 2 0 v133.length,.own 3 0 b134.length,.own 4 0 v212.length,.own 5 0 v4.length,.own 6 0 b5.length,.cmap .str (Msi v130),.cmap .str (Msi v131)]]),(1,rI v132),(2,rI v133),(3,rI b134),(4,.row 1 (Ls v212)),(5,.row 1 (Ls v4)),(6,.row 1 (Ls b5))],7⟩) ?_ ?_|refine iw_n (st':=⟨[(2,.adr 0 0 0),(3,.val (.bool true))],[(0,.mix 9 [[iV (v4.length:Int),.own 1 0 v132.length,.own 2 0 v133.length,.own 3 0 b134.length,.own 4 0 v212.length,.own 5 0 v4.length,.own 6 0 b5.length,.cmap .str (Msi v130),.cmap .str (Msi v131)]]),(1,rI v132),(2,rI v133),(3,rI b134),(4,.row 1 (Ls v212)),(5,.row 1 (Ls v4)),(6,.row 1 (Ls b5))],7⟩) ?_ ?_
 ·exact Wk.r1 [(0,0),(1,1),(2,2),(3,3),(4,4),(5,5),(6,6)] (by simp [hP,hhOk,back,Cat.cells,SF.cells,UA,U1,IA,I1,LA,L1,BA,B1,EA,E1,E2,eB,eI,eL])
 exact ⟨by simp [Q15],by simp,by simp [Cat.cells,SF.cells]⟩
attribute [local simp] eL eI QH
noncomputable def Q10 (list_:List (List Int)) (x_:List Int):Option Int :=
 (QQ (σ:=Int) (ε:=Unit ⊕ Int) (fun s7 =>
  if s7<(list_.length:Int) then
   ass (0≤s7∧s7<(list_.length:Int)) <|
   (Q2i (rx list_ s7) x_).bind fun v10 =>
   if v10=true then
    some (Ctl.ret (Sum.inr s7))
   else
    ass (B64 (s7+1)) <|
    some (Ctl.next (s7+1))
  else
   some (Ctl.ret (Sum.inl ()))) fuel 0).bind fun e1 =>
 match e1 with
 | .inl b1 =>
  some (-1)
 | .inr p1 =>
  some p1
theorem Q1Z (list_:List (List Int)) (x_:List Int) (r:Int) (h:Q10 list_ x_=some r):Contract Try.prog 51 [.lst true 1 (Ls list_),lI x_] (iV r):=by
 refine Qp (rvs:=[.tmp 4]) (rs:=[iV r]) Try.func51 rfl rfl rfl rfl (by simp [Try.f51]) fun F hN hP=>?_;unfold Q10 at h;refine Q2 ?_;refine runQ hN fun K hK=>?_;simp [-Q0,-Qc,-Q3,-Qd,-Q4];repeat refine sdQ ?_
 refine hK _ ?_;clear hK K;refine tn ?_;refine Qa (st':=⟨[(0,.lst true 1 (Ls list_)),(1,lI x_)],[],0⟩) (wkQ8 []) ?_;refine Q2 ?_;refine Q2 ?_;refine runQ hN fun K hK=>?_;simp [-Q0,-Qc,-Q3,-Qd,-Q4];repeat refine sdQ ?_
 refine hK _ ?_;clear hK K;refine tn ?_;refine Qa (st':=⟨[(0,.lst true 1 (Ls list_)),(1,lI x_),(5,iV 0)],[],0⟩) (wkQ8 []) ?_;replace h:=bind_some h;obtain ⟨e1,h,h1⟩:=h;refine Qq (fun b1:Unit=>⟨[],[],0⟩) (fun b1=>Sum.inl b1=e1) ?_ ?_
 ·refine Q7 ?_;refine QB h (fun s7:Int=>⟨[(0,.lst true 1 (Ls list_)),(1,lI x_),(5,iV s7)],[],0⟩) (wkQ8 []) ?_;clear h;intro k7 s7 c7 h hk7;refine Q2 ?_;refine Q2 ?_;refine runQ hN fun K hK=>?_;simp [-Q0,-Qc,-Q3,-Qd,-Q4];repeat refine sdQ ?_
  refine hK _ ?_;clear hK K;refine tn ?_;refine Qa (st':=⟨[(0,.lst true 1 (Ls list_)),(1,lI x_),(5,iV s7),(9,.val (.bool (decide (s7<(list_.length:Int)))))],[],0⟩) (wkQ8 []) ?_;refine Q8 rfl (fun g=>?_) fun g=>?_
  ·have g8:s7<(list_.length:Int):=gQ;clear g;replace h:=if_l g8 h;refine Q9 ?_;refine tn ?_;refine Q2 ?_;refine Q7 ?_;refine Q2 ?_;refine runQ hN fun K hK=>?_;replace h:=Q5 h;obtain ⟨a9,h⟩:=h;simp [-Q0,-Qc,-Q3,-Qd,-Q4,at_L a9];(repeat with_reducible refine sdQ ?_);replace h:=bind_some h;obtain ⟨v10,hv10,h⟩:=h;refine Q1 (Q6x _ _ v10 hv10) (.cons .lst (.cons .lst .nil)) ?_;simp [-Q0,-Qc,-Q3,-Qd,-Q4,unk,unA,unE,unT,unC,flat,at_L a9];(repeat refine sdQ ?_);refine hK _ ?_;clear hK K;refine tn ?_;refine Qa (st':=⟨[(0,.lst true 1 (Ls list_)),(1,lI x_),(5,iV s7),(17,.val (.bool v10))],[],0⟩) (wkQ8 []) ?_;refine Q8 rfl (fun g=>?_) fun g=>?_
   ·have g11:v10=true:=gQ;clear g;replace h:=if_l g11 h;refine Q2 ?_;refine runQ hN fun K hK=>?_;simp [-Q0,-Qc,-Q3,-Qd,-Q4];(repeat refine sdQ ?_);refine hK _ ?_;clear hK K;refine tn ?_;refine Qa (st':=⟨[(4,iV s7)],[],0⟩) (wkQ8 []) ?_;refine Qh ?_;refine br ?_;refine tr ?_;refine lr ?_;refine br ?_;refine tr ?_;cases h;have q:_=e1:=hk7;have h:=h1;rw [← q] at h;clear q;(try dsimp only at h);have hr:=Option.some.inj h;rw [← hr];refine ⟨_,(.tmp .nil),?_⟩;refine ⟨(.one rfl rfl .nil),[iV s7],[],by simp [UA,U1,IA,I1,LA,L1,BA,B1,EA,E1,E2,eB,eI,eL],by simp,(UpL.refl _)⟩
   have g11:¬ (v10=true):=gQ;clear g;replace h:=if_r g11 h;refine Q9 ?_;refine bn ?_;refine tn ?_;refine runQ hN fun K hK=>?_;replace h:=Q5 h;obtain ⟨a12,h⟩:=h;simp [-Q0,-Qc,-Q3,-Qd,-Q4,Qv a12];(repeat refine sdQ ?_);refine hK _ ?_;clear hK K;cases h;exact rn (s':=s7+1) hk7 (wkQ8 [])
  have g8:¬ (s7<(list_.length:Int)):=gQ;clear g;replace h:=if_r g8 h;refine Qi ?_;refine tx ?_;refine lx ?_;refine bh ?_;cases h;exact jn (b:=()) hk7 (wkQ8 [])
 intro b1 hb1;have h:=h1;try rw [← hb1] at h
 clear h1;try dsimp only at h
 refine Q2 ?_;refine runQ hN fun K hK=>?_;simp [-Q0,-Qc,-Q3,-Qd,-Q4];repeat refine sdQ ?_
 refine hK _ ?_;clear hK K;refine tn ?_;refine Qa (st':=⟨[(4,iV (-1))],[],0⟩) (wkQ8 []) ?_;refine Qh ?_;have hr:=Option.some.inj h;rw [← hr];refine ⟨_,(.tmp .nil),?_⟩;refine ⟨(.one rfl rfl .nil),[iV (-1)],[],by simp [UA,U1,IA,I1,LA,L1,BA,B1,EA,E1,E2,eB,eI,eL],by simp,(UpL.refl _)⟩
end Go.Vc.T
