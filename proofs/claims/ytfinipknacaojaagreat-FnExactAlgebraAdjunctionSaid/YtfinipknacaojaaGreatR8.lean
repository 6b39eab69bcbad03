/- A part of the proof: a verified generator of conditions, and what each function of the program does. -/
import Derived.Test.YtfinipknacaojaaGreatR7
set_option maxRecDepth 100000
set_option maxHeartbeats 4000000
set_option linter.unusedSimpArgs false
set_option linter.unusedVariables false

namespace Go.Vc.T
open Go Go.Vc Go.Proofs
def Es {α:Type} (c:α→List AV) (xs:List α):List (List AV):=xs.map c
def gx {α:Type} [Inhabited α] (xs:List α) (j:Int):α:=xs.getD j.toNat default
def eB (b:Bool):List AV:=[.val (.bool b)]
def eI (b:Int):List AV:=[iV b]
def eL (x:List (List Int)):List AV:=[.lst true 1 (Ls x)]
section
variable {α:Type} {c:α→List AV}
@[simp] theorem Es_length (xs:List α):(Es c xs).length=xs.length:=by simp [Es]
@[simp] theorem Es_nil:Es c []=[]:=rfl
theorem Es_append (xs ys:List α):Es c (xs++ys)=Es c xs++Es c ys:=by simp [Es]
theorem Es_set' (xs:List α) (i:Nat) (x:α):Es c (xs.set i x)=(Es c xs).set i (c x):=by simp [Es,List.map_set]
theorem at_E [Inhabited α] {xs:List α} {j:Int} (h:0≤j∧j<(xs.length:Int)):(Es c xs)[j.toNat]? = some (c (gx xs j)):=by
 have h2:j.toNat<xs.length:=by omega
 simp [Es,gx,List.getD_eq_getElem?_getD,h2]
end
@[simp] theorem Ls_nil':Ls []=[]:=rfl
theorem Ls_append (xs ys:List (List Int)):Ls (xs++ys)=Ls xs++Ls ys:=by simp [Ls]
@[simp] theorem Ls_rep0 (n:Nat):Ls (List.replicate n [])=List.replicate n [AV.lst true 1 []]:=by simp [Ls]
theorem at_I {xs:List Int} {j:Int} (h:0≤j∧j<(xs.length:Int)):(Is xs)[j.toNat]? = some [iV (ix xs j)]:=by
 have h2:j.toNat<xs.length:=by omega
 simp [Is,ix,List.getD_eq_getElem?_getD,h2]
theorem at_L {xs:List (List Int)} {j:Int} (h:0≤j∧j<(xs.length:Int)):(Ls xs)[j.toNat]? = some [lI (rx xs j)]:=by
 have h2:j.toNat<xs.length:=by omega
 simp [Ls,rx,List.getD_eq_getElem?_getD,h2]
@[simp] theorem Is_takeA (xs:List Int):List.take xs.length (Is xs)=Is xs:=List.take_of_length_le (by simp)
@[simp] theorem Ls_takeA (xs:List (List Int)):List.take xs.length (Ls xs)=Ls xs:=List.take_of_length_le (by simp)
@[simp] theorem Us_takeA (xs:List Int):List.take xs.length (Us xs)=Us xs:=List.take_of_length_le (by simp)
@[simp] theorem u8_min:IntKind.u8.min=0:=rfl
@[simp] theorem u8_max:IntKind.u8.max=255:=rfl
@[simp] theorem Bs_nil':Bs []=[]:=rfl
theorem Bs_append (xs ys:List Bool):Bs (xs++ys)=Bs xs++Bs ys:=by simp [Bs]
theorem IA (xs ys:List Int):Is (xs++ys)=Is xs++Is ys:=Is_append xs ys
theorem I1 (x:Int) (xs:List Int):Is (x :: xs)=[iV x] :: Is xs:=rfl
theorem LA (xs ys:List (List Int)):Ls (xs++ys)=Ls xs++Ls ys:=Ls_append xs ys
theorem L1 (x:List Int) (xs:List (List Int)):Ls (x :: xs)=[lI x] :: Ls xs:=rfl
theorem BA (xs ys:List Bool):Bs (xs++ys)=Bs xs++Bs ys:=Bs_append xs ys
theorem B1 (x:Bool) (xs:List Bool):Bs (x :: xs)=[.val (.bool x)] :: Bs xs:=rfl
theorem EA {α:Type} {c:α→List AV} (xs ys:List α):Es c (xs++ys)=Es c xs++Es c ys:=Es_append xs ys
theorem E1 {α:Type} {c:α→List AV} (x:α) (xs:List α):Es c (x :: xs)=c x :: Es c xs:=rfl
theorem E2 {α:Type} {c:α→List AV} (xs:List α) (i:Nat) (x:α):Es c (xs.set i x)=(Es c xs).set i (c x):=Es_set' xs i x
theorem rlLL_c {α:Type} {m:List (Nat × Nat)} {c:α→List AV} (h:∀ x,rlL m (c x)=c x):∀ xs:List α,rlLL m (xs.map c)=xs.map c:=by
 intro xs
 induction xs with
 | nil=>rfl
 | cons a r ih=>simp only [List.map_cons,rlLL,h,ih]
@[simp] theorem Qm {α:Type} (m:List (Nat × Nat)) (c:α→List AV) (xs:List α) (h:∀ x,rlL m (c x)=c x):rlLL m (Es c xs)=Es c xs:=rlLL_c h xs
@[simp] theorem rlLL_append (m:List (Nat × Nat)) (xs ys:List (List AV)):rlLL m (xs++ys)=rlLL m xs++rlLL m ys:=by
 induction xs with
 | nil=>rfl
 | cons a r ih=>simp only [List.cons_append,rlLL,ih]
theorem Ls_st {xss:List (List Int)} {i:Nat} {x:List Int}:(Ls xss).set i (((Ls xss).getD i []).set 0 (lI x))=Ls (xss.set i x):=by
 by_cases h:i<xss.length
 ·rw [← Ls_set];congr 1;simp [Ls,List.getD_eq_getElem?_getD,h]
 rw [List.set_eq_of_length_le (by simp;omega),List.set_eq_of_length_le (by omega)]
def QH (x:Cat):List AV:=[.rptr (x.cells true)]
def Q1N (x:Fn):List AV:=[.rptr (x.cells true)]
instance:Inhabited Cat:=⟨⟨0,[],[],[],[]⟩⟩
instance:Inhabited Fn:=⟨⟨default,default,[],[]⟩⟩
structure Adj where
 l:Fn
 r:Fn
 u:List Int
 k:List Int
def Adj.cells (u:Bool) (f:Adj):List AV:=[iV f.l.s.n,.lst u 1 (Is f.l.s.fr),.lst u 1 (Is f.l.s.to),.lst u 1 (Is f.l.s.id),.lst u 1 (Ls f.l.s.cs),iV f.l.t.n,.lst u 1 (Is f.l.t.fr),.lst u 1 (Is f.l.t.to),.lst u 1 (Is f.l.t.id),.lst u 1 (Ls f.l.t.cs),.lst u 1 (Is f.l.ob),.lst u 1 (Is f.l.ar),iV f.r.s.n,.lst u 1 (Is f.r.s.fr),.lst u 1 (Is f.r.s.to),.lst u 1 (Is f.r.s.id),.lst u 1 (Ls f.r.s.cs),iV f.r.t.n,.lst u 1 (Is f.r.t.fr),.lst u 1 (Is f.r.t.to),.lst u 1 (Is f.r.t.id),.lst u 1 (Ls f.r.t.cs),.lst u 1 (Is f.r.ob),.lst u 1 (Is f.r.ar),.lst u 1 (Is f.u),.lst u 1 (Is f.k)]
instance:Inhabited Adj:=⟨⟨default,default,default,default⟩⟩
def eP_Adj (x:Adj):List AV:=[.rptr (x.cells true)]
structure Ends where
 a:Int
 b:Int
def Ends.cells (u:Bool) (f:Ends):List AV:=[iV f.a,iV f.b]
instance:Inhabited Ends:=⟨⟨default,default⟩⟩
def eP_Ends (x:Ends):List AV:=[.rptr (x.cells true)]
structure Mnd where
 f:Fn
 u:List Int
 j:List Int
def Mnd.cells (u:Bool) (f:Mnd):List AV:=[iV f.f.s.n,.lst u 1 (Is f.f.s.fr),.lst u 1 (Is f.f.s.to),.lst u 1 (Is f.f.s.id),.lst u 1 (Ls f.f.s.cs),iV f.f.t.n,.lst u 1 (Is f.f.t.fr),.lst u 1 (Is f.f.t.to),.lst u 1 (Is f.f.t.id),.lst u 1 (Ls f.f.t.cs),.lst u 1 (Is f.f.ob),.lst u 1 (Is f.f.ar),.lst u 1 (Is f.u),.lst u 1 (Is f.j)]
instance:Inhabited Mnd:=⟨⟨default,default,default⟩⟩
def Q1v (x:Mnd):List AV:=[.rptr (x.cells true)]
structure Tra where
 s:Fn
 t:Fn
 p:List Int
def Tra.cells (u:Bool) (f:Tra):List AV:=[iV f.s.s.n,.lst u 1 (Is f.s.s.fr),.lst u 1 (Is f.s.s.to),.lst u 1 (Is f.s.s.id),.lst u 1 (Ls f.s.s.cs),iV f.s.t.n,.lst u 1 (Is f.s.t.fr),.lst u 1 (Is f.s.t.to),.lst u 1 (Is f.s.t.id),.lst u 1 (Ls f.s.t.cs),.lst u 1 (Is f.s.ob),.lst u 1 (Is f.s.ar),iV f.t.s.n,.lst u 1 (Is f.t.s.fr),.lst u 1 (Is f.t.s.to),.lst u 1 (Is f.t.s.id),.lst u 1 (Ls f.t.s.cs),iV f.t.t.n,.lst u 1 (Is f.t.t.fr),.lst u 1 (Is f.t.t.to),.lst u 1 (Is f.t.t.id),.lst u 1 (Ls f.t.t.cs),.lst u 1 (Is f.t.ob),.lst u 1 (Is f.t.ar),.lst u 1 (Is f.p)]
instance:Inhabited Tra:=⟨⟨default,default,default⟩⟩
def Q3d (x:Tra):List AV:=[.rptr (x.cells true)]
structure XAlgebra where
 x_:Int
 h_:Int
def XAlgebra.cells (u:Bool) (f:XAlgebra):List AV:=[iV f.x_,iV f.h_]
instance:Inhabited XAlgebra:=⟨⟨default,default⟩⟩
def Q4 (x:XAlgebra):List AV:=[.rptr (x.cells true)]
structure XAlgebras where
 m_:Mnd
 category_:Cat
 objects_:List XAlgebra
 arrows_:List (List Int)
 at_:List (ByteArray × Int)
def XAlgebras.cells (u:Bool) (f:XAlgebras):List AV:=[.rptr (Mnd.cells true f.m_),iV f.category_.n,.lst u 1 (Is f.category_.fr),.lst u 1 (Is f.category_.to),.lst u 1 (Is f.category_.id),.lst u 1 (Ls f.category_.cs),.lst u 1 (Es Q4 f.objects_),.lst u 1 (Ls f.arrows_),.cmap .str (Msi f.at_)]
instance:Inhabited XAlgebras:=⟨⟨default,default,default,default,default⟩⟩
def Qh (x:XAlgebras):List AV:=[.rptr (x.cells true)]
structure XBinder where
 monad_:Mnd
 c_:Cat
 bind_:Cat × Mnd
def XBinder.cells (u:Bool) (f:XBinder):List AV:=[.rptr (Mnd.cells true f.monad_),.rptr (Cat.cells true f.c_),.fn 144 [.rptr [.rptr (Cat.cells true f.bind_.1)],.rptr [.rptr (Mnd.cells true f.bind_.2)]]]
def eP_XBinder (x:XBinder):List AV:=[.rptr (x.cells true)]
@[simp] theorem bf_121_9:byS Tryz.prog 121 9=some 5:=by kernel_rfl
@[simp] theorem ef_93:elm Tryz.prog 93=some 99:=by kernel_rfl
@[simp] theorem ef_121:elm Tryz.prog 121=some 5:=by kernel_rfl
@[simp] theorem ef_166:elm Tryz.prog 166=some 146:=by kernel_rfl
@[simp] theorem ef_168:elm Tryz.prog 168=some 87:=by kernel_rfl
@[simp] theorem ef_177:elm Tryz.prog 177=some 78:=by kernel_rfl
@[simp] theorem qf_101:eqT Tryz.prog 101=4:=by kernel_rfl
@[simp] theorem ff_27_0:fld Tryz.prog 27 0=some (0,5,true):=by kernel_rfl
@[simp] theorem ff_27_1:fld Tryz.prog 27 1=some (5,5,true):=by kernel_rfl
@[simp] theorem ff_27_2:fld Tryz.prog 27 2=some (10,1,false):=by kernel_rfl
@[simp] theorem ff_27_3:fld Tryz.prog 27 3=some (11,1,false):=by kernel_rfl
@[simp] theorem ff_29_0:fld Tryz.prog 29 0=some (0,12,true):=by kernel_rfl
@[simp] theorem ff_29_1:fld Tryz.prog 29 1=some (12,1,false):=by kernel_rfl
@[simp] theorem ff_29_2:fld Tryz.prog 29 2=some (13,1,false):=by kernel_rfl
@[simp] theorem ff_33_0:fld Tryz.prog 33 0=some (0,5,true):=by kernel_rfl
@[simp] theorem ff_33_1:fld Tryz.prog 33 1=some (5,5,true):=by kernel_rfl
@[simp] theorem ff_33_2:fld Tryz.prog 33 2=some (10,1,false):=by kernel_rfl
@[simp] theorem ff_33_3:fld Tryz.prog 33 3=some (11,1,false):=by kernel_rfl
@[simp] theorem ff_35_0:fld Tryz.prog 35 0=some (0,12,true):=by kernel_rfl
@[simp] theorem ff_35_1:fld Tryz.prog 35 1=some (12,12,true):=by kernel_rfl
@[simp] theorem ff_35_2:fld Tryz.prog 35 2=some (24,1,false):=by kernel_rfl
@[simp] theorem ff_35_3:fld Tryz.prog 35 3=some (25,1,false):=by kernel_rfl
@[simp] theorem ff_39_0:fld Tryz.prog 39 0=some (0,12,true):=by kernel_rfl
@[simp] theorem ff_39_1:fld Tryz.prog 39 1=some (12,1,false):=by kernel_rfl
@[simp] theorem ff_39_2:fld Tryz.prog 39 2=some (13,1,false):=by kernel_rfl
@[simp] theorem ff_95_1:fld Tryz.prog 95 1=some (1,5,true):=by kernel_rfl
@[simp] theorem ff_95_2:fld Tryz.prog 95 2=some (6,1,false):=by kernel_rfl
@[simp] theorem ff_95_3:fld Tryz.prog 95 3=some (7,1,false):=by kernel_rfl
@[simp] theorem ff_95_4:fld Tryz.prog 95 4=some (8,1,false):=by kernel_rfl
@[simp] theorem ff_101_0:fld Tryz.prog 101 0=some (0,1,false):=by kernel_rfl
@[simp] theorem ff_101_1:fld Tryz.prog 101 1=some (1,1,false):=by kernel_rfl
@[simp] theorem ff_133_0:fld Tryz.prog 133 0=some (0,12,true):=by kernel_rfl
@[simp] theorem ff_133_1:fld Tryz.prog 133 1=some (12,12,true):=by kernel_rfl
@[simp] theorem ff_133_2:fld Tryz.prog 133 2=some (24,1,false):=by kernel_rfl
@[simp] theorem kf_2:intk Tryz.prog 2=some .i64:=by kernel_rfl
@[simp] theorem kf_5:intk Tryz.prog 5=some .u8:=by kernel_rfl
@[simp] theorem mf_79:mty Tryz.prog 79=some (.str,.int .i64 0):=by kernel_rfl
@[simp] theorem pf_33:Q3E Tryz.prog 33=some [(0,5),(5,5),(10,1),(11,1)]:=by kernel_rfl
@[simp] theorem pf_35:Q3E Tryz.prog 35=some [(0,12),(12,12),(24,1),(25,1)]:=by kernel_rfl
@[simp] theorem pf_95:Q3E Tryz.prog 95=some [(0,1),(1,5),(6,1),(7,1),(8,1)]:=by kernel_rfl
@[simp] theorem pf_101:Q3E Tryz.prog 101=some [(0,1),(1,1)]:=by kernel_rfl
@[simp] theorem pf_133:Q3E Tryz.prog 133=some [(0,12),(12,12),(24,1)]:=by kernel_rfl
@[simp] theorem tf_5:tyi Tryz.prog 5=some ⟨false,1,1,[.int .u8 0]⟩:=by kernel_rfl
@[simp] theorem tf_22:tyi Tryz.prog 22=some ⟨false,1,24,[.slice none 0 0]⟩:=by kernel_rfl
@[simp] theorem tf_27:tyi Tryz.prog 27=some ⟨true,12,256,[.int .i64 0,.slice none 0 0,.slice none 0 0,.slice none 0 0,.slice none 0 0,.int .i64 0,.slice none 0 0,.slice none 0 0,.slice none 0 0,.slice none 0 0,.slice none 0 0,.slice none 0 0]⟩:=by kernel_rfl
@[simp] theorem tf_31:tyi Tryz.prog 31=some ⟨true,5,104,[.int .i64 0,.slice none 0 0,.slice none 0 0,.slice none 0 0,.slice none 0 0]⟩:=by kernel_rfl
@[simp] theorem Q68:tyi Tryz.prog 33=some ⟨true,12,256,[.int .i64 0,.slice none 0 0,.slice none 0 0,.slice none 0 0,.slice none 0 0,.int .i64 0,.slice none 0 0,.slice none 0 0,.slice none 0 0,.slice none 0 0,.slice none 0 0,.slice none 0 0]⟩:=by kernel_rfl
@[simp] theorem tf_35:tyi Tryz.prog 35=some ⟨true,26,560,[.int .i64 0,.slice none 0 0,.slice none 0 0,.slice none 0 0,.slice none 0 0,.int .i64 0,.slice none 0 0,.slice none 0 0,.slice none 0 0,.slice none 0 0,.slice none 0 0,.slice none 0 0,.int .i64 0,.slice none 0 0,.slice none 0 0,.slice none 0 0,.slice none 0 0,.int .i64 0,.slice none 0 0,.slice none 0 0,.slice none 0 0,.slice none 0 0,.slice none 0 0,.slice none 0 0,.slice none 0 0,.slice none 0 0]⟩:=by kernel_rfl
@[simp] theorem tf_39:tyi Tryz.prog 39=some ⟨true,14,304,[.int .i64 0,.slice none 0 0,.slice none 0 0,.slice none 0 0,.slice none 0 0,.int .i64 0,.slice none 0 0,.slice none 0 0,.slice none 0 0,.slice none 0 0,.slice none 0 0,.slice none 0 0,.slice none 0 0,.slice none 0 0]⟩:=by kernel_rfl
@[simp] theorem tf_78:tyi Tryz.prog 78=some ⟨false,1,8,[.pointer none]⟩:=by kernel_rfl
@[simp] theorem tf_79:tyi Tryz.prog 79=some ⟨false,1,8,[.map none]⟩:=by kernel_rfl
@[simp] theorem tf_87:tyi Tryz.prog 87=some ⟨false,1,8,[.pointer none]⟩:=by kernel_rfl
@[simp] theorem tf_90:tyi Tryz.prog 90=some ⟨false,1,8,[.pointer none]⟩:=by kernel_rfl
@[simp] theorem tf_93:tyi Tryz.prog 93=some ⟨false,1,24,[.slice none 0 0]⟩:=by kernel_rfl
@[simp] theorem tf_95:tyi Tryz.prog 95=some ⟨true,9,168,[.pointer none,.int .i64 0,.slice none 0 0,.slice none 0 0,.slice none 0 0,.slice none 0 0,.slice none 0 0,.slice none 0 0,.map none]⟩:=by kernel_rfl
@[simp] theorem tf_99:tyi Tryz.prog 99=some ⟨false,1,8,[.pointer none]⟩:=by kernel_rfl
@[simp] theorem tf_101:tyi Tryz.prog 101=some ⟨true,2,16,[.int .i64 0,.int .i64 0]⟩:=by kernel_rfl
@[simp] theorem tf_133:tyi Tryz.prog 133=some ⟨true,25,536,[.int .i64 0,.slice none 0 0,.slice none 0 0,.slice none 0 0,.slice none 0 0,.int .i64 0,.slice none 0 0,.slice none 0 0,.slice none 0 0,.slice none 0 0,.slice none 0 0,.slice none 0 0,.int .i64 0,.slice none 0 0,.slice none 0 0,.slice none 0 0,.slice none 0 0,.int .i64 0,.slice none 0 0,.slice none 0 0,.slice none 0 0,.slice none 0 0,.slice none 0 0,.slice none 0 0,.slice none 0 0]⟩:=by kernel_rfl
@[simp] theorem tf_146:tyi Tryz.prog 146=some ⟨false,1,8,[.pointer none]⟩:=by kernel_rfl
theorem toCat (u:Bool) (c:Cat) (hc:c.ok):Contract Tryz.prog 82 [.agg (c.cells u)] (.agg (c.cells true)):=c18 c u hc
theorem cszCat (u:Bool) (c:Cat) (l:Int) (h1:0≤l) (h2:l≤1048576):Contract Tryz.prog 76 [.agg (c.cells u),iV l] (iV (Q3z l c)):=c13 u c l h1 h2
theorem Q29 {l:Int} {f:Cat} (h:l≤1048576):Q3z l f≤1048576:=szCat_le h
theorem mu_len {ms:List Mu} (h:∀ u∈ms,u.fs.length=u.es.length):∀ j,j<ms.length→(ms.getD j .none).fs.length=(ms.getD j .none).es.length:=fun j hj=>by rw [List.getD_eq_getElem?_getD,List.getElem?_eq_getElem hj];exact h _ (List.getElem_mem hj)
theorem markCat (f:Cat) (k:Int) (hf:f.ok) (h2:0≤k) (h3:k+f.size≤576460752303423488):MContract Tryz.prog 26 [.agg [iV f.n,.own 0 0 f.fr.length,.own 1 0 f.to.length,.own 2 0 f.id.length,.own 3 0 f.cs.length],iV k] (f.mu k) (iV (k+f.size)):=by
 have q:=m31 f k hf h2 (by omega)
 rwa [show k+f.fr.length+f.to.length+f.id.length+sumL f.cs=k+f.size by simp [Cat.size,Int.add_assoc]] at q
def Fn.mu (f:Fn) (k:Int):List Mu:=[⟨1,Is f.s.fr,Is (f.mark k).s.fr⟩,⟨1,Is f.s.to,Is (f.mark k).s.to⟩,⟨1,Is f.s.id,Is (f.mark k).s.id⟩,⟨1,Ls f.s.cs,Ls (f.mark k).s.cs⟩,⟨1,Is f.t.fr,Is (f.mark k).t.fr⟩,⟨1,Is f.t.to,Is (f.mark k).t.to⟩,⟨1,Is f.t.id,Is (f.mark k).t.id⟩,⟨1,Ls f.t.cs,Ls (f.mark k).t.cs⟩,⟨1,Is f.ob,Is (f.mark k).ob⟩,⟨1,Is f.ar,Is (f.mark k).ar⟩]
theorem Fn.ok_size {f:Fn} (h:f.ok):f.size≤2199031644160:=by
 obtain ⟨hs,ht,hob,har⟩:=h;have s_s:=Cat.ok_size hs;have s_t:=Cat.ok_size ht;simp only [Fn.size];omega
theorem eqFn (u v:Bool) (f:Fn):Contract Tryz.prog 34 [.agg (f.cells u),.agg (f.cells v)] (.val (.bool true)):=by
 refine Qg (rs:=[.val (.bool true)]) Tryz.func34 rfl rfl rfl rfl (by simp [Tryz.f34]) fun F hN hP=>?_;refine srQ hN fun K hK=>?_;simp [Fn.cells];refine hK _ ?_;clear hK K;refine Q5 ?_;refine srQ hN fun K hK=>?_;simp;refine Q3 (c26 u v f.s) (.cons (.aggL Cat.pur) (.cons (.aggL Cat.pur) .nil)) ?_;simp [unk,unA,unE,flat];refine hK _ ?_;clear hK K;refine Qd rfl (fun h=>by simp at h) fun _=>?_;refine Qe ?_;refine Q5 ?_;refine srQ hN fun K hK=>?_;simp;refine Q3 (c26 u v f.t) (.cons (.aggL Cat.pur) (.cons (.aggL Cat.pur) .nil)) ?_;simp [unk,unA,unE,flat];refine hK _ ?_;clear hK K;refine Qd rfl (fun h=>by simp at h) fun _=>?_;refine Qe ?_;refine Q5 ?_;refine srQ hN fun K hK=>?_;simp;refine Q3 (c29 u v f.ob f.ob) (.cons .lst (.cons .lst .nil)) ?_;simp [unk,unA,unE,flat];refine hK _ ?_;clear hK K;refine Qd rfl (fun h=>by simp at h) fun _=>?_;refine Qe ?_;refine Q5 ?_;refine srQ hN fun K hK=>?_;simp;refine Q3 (c29 u v f.ar f.ar) (.cons .lst (.cons .lst .nil)) ?_;simp [unk,unA,unE,flat];refine hK _ ?_;clear hK K;refine Qd rfl (fun h=>by simp at h) fun _=>?_;refine Qe ?_;refine srQ hN fun K hK=>?_;simp;refine hK _ ?_;clear hK K;refine Qi (Qk rfl rfl)
theorem heldFn (u:Bool) (f:Fn) (k:Int) (hf:f.ok) (h2:0≤k) (h3:k+f.size≤1152921504606846976):Contract Tryz.prog 36 [.agg ((f.mark k).cells u),iV k] (iV (k+f.size)):=by
 obtain ⟨hs,ht,hob,har⟩:=hf;have hz:f.size=f.s.size+f.t.size+f.ob.length+f.ar.length:=rfl;refine Qg (rs:=[iV (k+f.size)]) Tryz.func36 rfl rfl rfl rfl (by simp [Tryz.f36]) fun F hN hP=>?_;refine srQ hN fun K hK=>?_;simp [Fn.cells,Cat.mark,Fn.mark];refine hK _ ?_;clear hK K;refine srQ hN fun K hK=>?_;simp;refine Q3 (c36 u f.s (k) hs (by omega) (by omega)) (.cons (.aggL (.cons .val (.cons .lst (.cons .lst (.cons .lst (.cons .lst .nil)))))) (.cons .val .nil)) ?_;simp [unk,unA,unE,flat];refine hK _ ?_;clear hK K;refine Q5 ?_;refine srQ hN fun K hK=>?_;simp;refine hK _ ?_;clear hK K;refine Qd rfl (fun g=>?_) fun g=>?_
 ·simp at g;omega
 refine Qe ?_;refine srQ hN fun K hK=>?_;simp;refine Q3 (c36 u f.t (k+f.s.size) ht (by omega) (by omega)) (.cons (.aggL (.cons .val (.cons .lst (.cons .lst (.cons .lst (.cons .lst .nil)))))) (.cons .val .nil)) ?_;simp [unk,unA,unE,flat];refine hK _ ?_;clear hK K;refine Q5 ?_;refine srQ hN fun K hK=>?_;simp;refine hK _ ?_;clear hK K;refine Qd rfl (fun g=>?_) fun g=>?_
 ·simp at g;omega
 refine Qe ?_;refine srQ hN fun K hK=>?_;simp;refine Q3 (c53 u (run (k+f.s.size+f.t.size) f.ob.length) (k+f.s.size+f.t.size) (by simpa using hob) (by omega) (by omega)) (.cons .lst (.cons .val .nil)) ?_;simp [unk,unA,unE,flat];refine hK _ ?_;clear hK K;refine Q5 ?_;refine srQ hN fun K hK=>?_;simp;refine hK _ ?_;clear hK K;refine Qd rfl (fun g=>?_) fun g=>?_
 ·simp at g;omega
 refine Qe ?_;refine srQ hN fun K hK=>?_;simp;refine Q3 (c53 u (run (k+f.s.size+f.t.size+f.ob.length) f.ar.length) (k+f.s.size+f.t.size+f.ob.length) (by simpa using har) (by omega) (by omega)) (.cons .lst (.cons .val .nil)) ?_;simp [unk,unA,unE,flat];refine hK _ ?_;clear hK K;refine Q5 ?_;refine srQ hN fun K hK=>?_;simp;refine hK _ ?_;clear hK K;refine Qd rfl (fun g=>?_) fun g=>?_
 ·simp at g;omega
 refine Qe ?_;refine srQ hN fun K hK=>?_;simp;refine hK _ ?_;clear hK K;refine Qi (Qk rfl ?_);simp [hz,Int.add_assoc]
theorem toFn (u:Bool) (f:Fn) (hf:f.ok):Contract Tryz.prog 50 [.agg (f.cells u)] (.agg (f.cells true)):=by
 obtain ⟨hs,ht,hob,har⟩:=hf;refine Q1l Tryz.func50 rfl rfl Q68 rfl rfl (by simp [Tryz.f50]) fun F hN hP=>?_;refine srQ hN fun K hK=>?_;simp [Fn.cells];refine hK _ ?_;clear hK K;refine srQ hN fun K hK=>?_;simp;refine hK _ ?_;clear hK K;refine srQ hN fun K hK=>?_;simp;refine Q3 (toCat u f.s hs) (.cons (.aggL Cat.pur) .nil) ?_;simp [unk,unA,unE,flat,unC,Cat.cells];refine hK _ ?_;clear hK K;refine srQ hN fun K hK=>?_;simp;refine Q3 (toCat u f.t ht) (.cons (.aggL Cat.pur) .nil) ?_;simp [unk,unA,unE,flat,unC,Cat.cells];refine hK _ ?_;clear hK K;refine srQ hN fun K hK=>?_;simp;refine Q3 (c19 u f.ob hob) (.cons .lst .nil) ?_;simp [unk,unA,unE,flat];refine hK _ ?_;clear hK K;refine srQ hN fun K hK=>?_;simp;refine Q3 (c19 u f.ar har) (.cons .lst .nil) ?_;simp [unk,unA,unE,flat];refine hK _ ?_;clear hK K;refine srQ hN fun K hK=>?_;simp;refine hK _ ?_;clear hK K;refine Qi ⟨_,_,_,_,_,rfl,rfl,by simp,by simp,?_⟩;exact ⟨.agg rfl .nil,[iV f.s.n,lI f.s.fr,lI f.s.to,lI f.s.id,.lst true 1 (Ls f.s.cs),iV f.t.n,lI f.t.fr,lI f.t.to,lI f.t.id,.lst true 1 (Ls f.t.cs),lI f.ob,lI f.ar],[4,5,6,7,9,10,11,12,13,14],by simp,by simp,UpL.refl _⟩
def szFn (l:Int) (f:Fn):Int:=nn (Q3z l f.s) fun a0=>nn (Q3z a0 f.t) fun a1=>nn (less a1 f.ob.length) fun a2=>nn (less a2 f.ar.length) fun a3=>a3
theorem Q8n {l:Int} {f:Fn} (h:l≤1048576):szFn l f≤1048576:=Q7x (fun x0 h0 _=>Q7x (fun x1 h1 _=>Q7x (fun x2 h2 _=>Q7x (fun x3 h3 _=>by rw [← h3];exact Q1Y (by rw [← h2];exact Q1Y (by rw [← h1];exact Q29 (by rw [← h0];exact Q29 h)))) (by decide)) (by decide)) (by decide)) (by decide)
theorem szFn_ok {l:Int} {f:Fn} (hl:l≤1048576) (h:0≤szFn l f):f.ok:=by
 unfold szFn at h;obtain ⟨p0,q0,_⟩:=Q5O h;have b0:=Q29 (f:=f.s) hl;obtain ⟨p1,q1,_⟩:=Q5O q0;have b1:=Q29 (f:=f.t) b0;obtain ⟨p2,q2,_⟩:=Q5O q1;obtain ⟨e2,_⟩:=Q3K p2;have b2:=Q1Y (n:=f.ob.length) b1;obtain ⟨p3,q3,_⟩:=Q5O q2;obtain ⟨e3,_⟩:=Q3K p3;have b3:=Q1Y (n:=f.ar.length) b2;exact ⟨Q97 hl p0,Q97 b0 p1,by omega,by omega⟩
theorem cszFn (u:Bool) (f:Fn) (l:Int) (h1:0≤l) (h2:l≤1048576):Contract Tryz.prog 42 [.agg (f.cells u),iV l] (iV (szFn l f)):=by
 refine Qg (rs:=[iV (szFn l f)]) Tryz.func42 rfl rfl rfl rfl (by simp [Tryz.f42]) fun F hN hP=>?_;refine srQ hN fun K hK=>?_;simp [Fn.cells];refine hK _ ?_;clear hK K;refine srQ hN fun K hK=>?_;simp;refine Q3 (cszCat u f.s (l) h1 (h2)) (.cons (.aggL Cat.pur) (.cons .val .nil)) ?_;simp [unk,unA,unE,flat];refine hK _ ?_;clear hK K;refine Q5 ?_;refine srQ hN fun K hK=>?_;simp;refine hK _ ?_;clear hK K;refine Qd rfl (fun g1=>?_) fun g1=>?_
 ·simp at g1;refine srQ hN fun K hK=>?_;simp;refine hK _ ?_;clear hK K;refine Qi (Qk rfl ?_);simp only [szFn,nn];rw [if_pos g1]
 simp at g1;refine Qe ?_;refine srQ hN fun K hK=>?_;simp;refine Q3 (cszCat u f.t (Q3z (l) f.s) g1 (Q29 (h2))) (.cons (.aggL Cat.pur) (.cons .val .nil)) ?_;simp [unk,unA,unE,flat];refine hK _ ?_;clear hK K;refine Q5 ?_;refine srQ hN fun K hK=>?_;simp;refine hK _ ?_;clear hK K;refine Qd rfl (fun g2=>?_) fun g2=>?_
 ·simp at g2;refine srQ hN fun K hK=>?_;simp;refine hK _ ?_;clear hK K;refine Qi (Qk rfl ?_);simp only [szFn,nn];rw [if_neg (Int.not_lt.2 g1),if_pos g2]
 simp at g2;refine Qe ?_;refine srQ hN fun K hK=>?_;simp;refine Q3 (c14 u f.ob (Q3z (Q3z (l) f.s) f.t) g2 (Q29 (Q29 (h2)))) (.cons .lst (.cons .val .nil)) ?_;simp [unk,unA,unE,flat];refine hK _ ?_;clear hK K;refine Q5 ?_;refine srQ hN fun K hK=>?_;simp;refine hK _ ?_;clear hK K;refine Qd rfl (fun g3=>?_) fun g3=>?_
 ·simp at g3;refine srQ hN fun K hK=>?_;simp;refine hK _ ?_;clear hK K;refine Qi (Qk rfl ?_);simp only [szFn,nn];rw [if_neg (Int.not_lt.2 g1),if_neg (Int.not_lt.2 g2),if_pos g3]
 simp at g3;refine Qe ?_;refine srQ hN fun K hK=>?_;simp;refine Q3 (c14 u f.ar (less (Q3z (Q3z (l) f.s) f.t) f.ob.length) g3 (Q1Y (Q29 (Q29 (h2))))) (.cons .lst (.cons .val .nil)) ?_;simp [unk,unA,unE,flat];refine hK _ ?_;clear hK K;refine Q5 ?_;refine srQ hN fun K hK=>?_;simp;refine hK _ ?_;clear hK K;refine Qd rfl (fun g4=>?_) fun g4=>?_
 ·simp at g4;refine srQ hN fun K hK=>?_;simp;refine hK _ ?_;clear hK K;refine Qi (Qk rfl ?_);simp only [szFn,nn];rw [if_neg (Int.not_lt.2 g1),if_neg (Int.not_lt.2 g2),if_neg (Int.not_lt.2 g3),if_pos g4]
 simp at g4;refine Qe ?_;refine srQ hN fun K hK=>?_;simp;refine hK _ ?_;clear hK K;refine Qi (Qk rfl ?_);simp only [szFn,nn];rw [if_neg (Int.not_lt.2 g1),if_neg (Int.not_lt.2 g2),if_neg (Int.not_lt.2 g3),if_neg (Int.not_lt.2 g4)]
theorem markFn (f:Fn) (k:Int) (hf:f.ok) (h2:0≤k) (h3:k+f.size≤576460752303423488) :
  MContract Tryz.prog 35 [.agg [iV f.s.n,.own 0 0 f.s.fr.length,.own 1 0 f.s.to.length,.own 2 0 f.s.id.length,.own 3 0 f.s.cs.length,iV f.t.n,.own 4 0 f.t.fr.length,.own 5 0 f.t.to.length,.own 6 0 f.t.id.length,.own 7 0 f.t.cs.length,.own 8 0 f.ob.length,.own 9 0 f.ar.length],iV k] (f.mu k) (iV (k+f.size)):=by
 obtain ⟨hs,ht,hob,har⟩:=hf;have hz:f.size=f.s.size+f.t.size+f.ob.length+f.ar.length:=rfl;refine Q1m (ts:=[4]) (rv:=.int .i64 (k+f.size)) Tryz.func35 rfl rfl ?_ rfl (by simp [Tryz.f35]) ?_ fun F hN hP=>?_
 ·have:(-9223372036854775808≤k+f.size)∧k+f.size≤9223372036854775807:=by omega
  simp [resV,this]
 ·exact mu_len (by simp [Fn.mu,Fn.mark,Cat.mark])
 refine srQ hN fun K hK=>?_;simp [Q4H,Fn.mu];refine hK _ ?_;clear hK K;refine Q41 mo (by rw [hN];decide) fun K hK=>?_;simp;refine Q1X (m:=[0,1,2,3]) (markCat f.s (k) hs (by omega) (by omega)) (by decide) (.cons rfl (.cons rfl (.cons rfl (.cons rfl .nil)))) (.cons (.aggL (.cons .val (.cons (.own (j:=0) (by decide)) (.cons (.own (j:=1) (by decide)) (.cons (.own (j:=2) (by decide)) (.cons (.own (j:=3) (by decide)) .nil)))))) (.cons .val .nil)) rfl (by simp) ?_;simp [Q4b,Cat.mu];refine hK _ ?_;clear hK K;refine Q41 mo (by rw [hN];decide) fun K hK=>?_;simp;refine Q1X (m:=[4,5,6,7]) (markCat f.t (k+f.s.size) ht (by omega) (by omega)) (by decide) (.cons rfl (.cons rfl (.cons rfl (.cons rfl .nil)))) (.cons (.aggL (.cons .val (.cons (.own (j:=0) (by decide)) (.cons (.own (j:=1) (by decide)) (.cons (.own (j:=2) (by decide)) (.cons (.own (j:=3) (by decide)) .nil)))))) (.cons .val .nil)) rfl (by simp) ?_;simp [Q4b,Cat.mu];refine hK _ ?_;clear hK K;refine Q41 mo (by rw [hN];decide) fun K hK=>?_;simp;refine Q1z (m32 f.ob (k+f.s.size+f.t.size) hob (by omega) (by omega)) rfl (by simp) ?_;simp;refine hK _ ?_;clear hK K;refine Q41 mo (by rw [hN];decide) fun K hK=>?_;simp;refine Q1z (m32 f.ar (k+f.s.size+f.t.size+f.ob.length) har (by omega) (by omega)) rfl (by simp) ?_;simp;refine hK _ ?_;clear hK K;refine srQ hN fun K hK=>?_;simp;refine hK _ ?_;clear hK K;refine Qi (mret ?_ ?_)
 ·simp [hz,Int.add_assoc]
 exact (.cons rfl (.cons rfl (.cons rfl (.cons rfl (.cons rfl (.cons rfl (.cons rfl (.cons rfl (.cons rfl (.cons rfl .nil))))))))))
def Adj.mark (k:Int) (f:Adj):Adj:=⟨f.l.mark (k),f.r.mark (k+f.l.size),run (k+f.l.size+f.r.size) f.u.length,run (k+f.l.size+f.r.size+f.u.length) f.k.length⟩
def Adj.size (f:Adj):Nat:=f.l.size+f.r.size+f.u.length+f.k.length
def Adj.ok (f:Adj):Prop:=f.l.ok∧f.r.ok∧f.u.length≤1048576∧f.k.length≤1048576
def Adj.mu (f:Adj) (k:Int):List Mu:=[⟨1,Is f.l.s.fr,Is (f.mark k).l.s.fr⟩,⟨1,Is f.l.s.to,Is (f.mark k).l.s.to⟩,⟨1,Is f.l.s.id,Is (f.mark k).l.s.id⟩,⟨1,Ls f.l.s.cs,Ls (f.mark k).l.s.cs⟩,⟨1,Is f.l.t.fr,Is (f.mark k).l.t.fr⟩,⟨1,Is f.l.t.to,Is (f.mark k).l.t.to⟩,⟨1,Is f.l.t.id,Is (f.mark k).l.t.id⟩,⟨1,Ls f.l.t.cs,Ls (f.mark k).l.t.cs⟩,⟨1,Is f.l.ob,Is (f.mark k).l.ob⟩,⟨1,Is f.l.ar,Is (f.mark k).l.ar⟩,⟨1,Is f.r.s.fr,Is (f.mark k).r.s.fr⟩,⟨1,Is f.r.s.to,Is (f.mark k).r.s.to⟩,⟨1,Is f.r.s.id,Is (f.mark k).r.s.id⟩,⟨1,Ls f.r.s.cs,Ls (f.mark k).r.s.cs⟩,⟨1,Is f.r.t.fr,Is (f.mark k).r.t.fr⟩,⟨1,Is f.r.t.to,Is (f.mark k).r.t.to⟩,⟨1,Is f.r.t.id,Is (f.mark k).r.t.id⟩,⟨1,Ls f.r.t.cs,Ls (f.mark k).r.t.cs⟩,⟨1,Is f.r.ob,Is (f.mark k).r.ob⟩,⟨1,Is f.r.ar,Is (f.mark k).r.ar⟩,⟨1,Is f.u,Is (f.mark k).u⟩,⟨1,Is f.k,Is (f.mark k).k⟩]
theorem eqAdj (u v:Bool) (f:Adj):Contract Tryz.prog 13 [.agg (f.cells u),.agg (f.cells v)] (.val (.bool true)):=by
 refine Qg (rs:=[.val (.bool true)]) Tryz.func13 rfl rfl rfl rfl (by simp [Tryz.f13]) fun F hN hP=>?_;refine srQ hN fun K hK=>?_;simp [Adj.cells];refine hK _ ?_;clear hK K;refine Q5 ?_;refine srQ hN fun K hK=>?_;simp;refine Q3 (eqFn u v f.l) (.cons (.aggL Fn.pur) (.cons (.aggL Fn.pur) .nil)) ?_;simp [unk,unA,unE,flat];refine hK _ ?_;clear hK K;refine Qd rfl (fun h=>by simp at h) fun _=>?_;refine Qe ?_;refine Q5 ?_;refine srQ hN fun K hK=>?_;simp;refine Q3 (eqFn u v f.r) (.cons (.aggL Fn.pur) (.cons (.aggL Fn.pur) .nil)) ?_;simp [unk,unA,unE,flat];refine hK _ ?_;clear hK K;refine Qd rfl (fun h=>by simp at h) fun _=>?_;refine Qe ?_;refine Q5 ?_;refine srQ hN fun K hK=>?_;simp;refine Q3 (c29 u v f.u f.u) (.cons .lst (.cons .lst .nil)) ?_;simp [unk,unA,unE,flat];refine hK _ ?_;clear hK K;refine Qd rfl (fun h=>by simp at h) fun _=>?_;refine Qe ?_;refine Q5 ?_;refine srQ hN fun K hK=>?_;simp;refine Q3 (c29 u v f.k f.k) (.cons .lst (.cons .lst .nil)) ?_;simp [unk,unA,unE,flat];refine hK _ ?_;clear hK K;refine Qd rfl (fun h=>by simp at h) fun _=>?_;refine Qe ?_;refine srQ hN fun K hK=>?_;simp;refine hK _ ?_;clear hK K;refine Qi (Qk rfl rfl)
theorem heldAdj (u:Bool) (f:Adj) (k:Int) (hf:f.ok) (h2:0≤k) (h3:k+f.size≤1152921504606846976):Contract Tryz.prog 17 [.agg ((f.mark k).cells u),iV k] (iV (k+f.size)):=by
 obtain ⟨hl,hr,hu,hk⟩:=hf;have hz:f.size=f.l.size+f.r.size+f.u.length+f.k.length:=rfl;refine Qg (rs:=[iV (k+f.size)]) Tryz.func17 rfl rfl rfl rfl (by simp [Tryz.f17]) fun F hN hP=>?_;refine srQ hN fun K hK=>?_;simp [Adj.cells,Adj.mark,Cat.mark,Fn.mark];refine hK _ ?_;clear hK K;refine srQ hN fun K hK=>?_;simp;refine Q3 (heldFn u f.l (k) hl (by omega) (by omega)) (.cons (.aggL (.cons .val (.cons .lst (.cons .lst (.cons .lst (.cons .lst (.cons .val (.cons .lst (.cons .lst (.cons .lst (.cons .lst (.cons .lst (.cons .lst .nil))))))))))))) (.cons .val .nil)) ?_;simp [unk,unA,unE,flat];refine hK _ ?_;clear hK K;refine Q5 ?_;refine srQ hN fun K hK=>?_;simp;refine hK _ ?_;clear hK K;refine Qd rfl (fun g=>?_) fun g=>?_
 ·simp at g;omega
 refine Qe ?_;refine srQ hN fun K hK=>?_;simp;refine Q3 (heldFn u f.r (k+f.l.size) hr (by omega) (by omega)) (.cons (.aggL (.cons .val (.cons .lst (.cons .lst (.cons .lst (.cons .lst (.cons .val (.cons .lst (.cons .lst (.cons .lst (.cons .lst (.cons .lst (.cons .lst .nil))))))))))))) (.cons .val .nil)) ?_;simp [unk,unA,unE,flat];refine hK _ ?_;clear hK K;refine Q5 ?_;refine srQ hN fun K hK=>?_;simp;refine hK _ ?_;clear hK K;refine Qd rfl (fun g=>?_) fun g=>?_
 ·simp at g;omega
 refine Qe ?_;refine srQ hN fun K hK=>?_;simp;refine Q3 (c53 u (run (k+f.l.size+f.r.size) f.u.length) (k+f.l.size+f.r.size) (by simpa using hu) (by omega) (by omega)) (.cons .lst (.cons .val .nil)) ?_;simp [unk,unA,unE,flat];refine hK _ ?_;clear hK K;refine Q5 ?_;refine srQ hN fun K hK=>?_;simp;refine hK _ ?_;clear hK K;refine Qd rfl (fun g=>?_) fun g=>?_
 ·simp at g;omega
 refine Qe ?_;refine srQ hN fun K hK=>?_;simp;refine Q3 (c53 u (run (k+f.l.size+f.r.size+f.u.length) f.k.length) (k+f.l.size+f.r.size+f.u.length) (by simpa using hk) (by omega) (by omega)) (.cons .lst (.cons .val .nil)) ?_;simp [unk,unA,unE,flat];refine hK _ ?_;clear hK K;refine Q5 ?_;refine srQ hN fun K hK=>?_;simp;refine hK _ ?_;clear hK K;refine Qd rfl (fun g=>?_) fun g=>?_
 ·simp at g;omega
 refine Qe ?_;refine srQ hN fun K hK=>?_;simp;refine hK _ ?_;clear hK K;refine Qi (Qk rfl ?_);simp [hz,Int.add_assoc]
theorem markAdj (f:Adj) (k:Int) (hf:f.ok) (h2:0≤k) (h3:k+f.size≤576460752303423488) :
  MContract Tryz.prog 16 [.agg [iV f.l.s.n,.own 0 0 f.l.s.fr.length,.own 1 0 f.l.s.to.length,.own 2 0 f.l.s.id.length,.own 3 0 f.l.s.cs.length,iV f.l.t.n,.own 4 0 f.l.t.fr.length,.own 5 0 f.l.t.to.length,.own 6 0 f.l.t.id.length,.own 7 0 f.l.t.cs.length,.own 8 0 f.l.ob.length,.own 9 0 f.l.ar.length,iV f.r.s.n,.own 10 0 f.r.s.fr.length,.own 11 0 f.r.s.to.length,.own 12 0 f.r.s.id.length,.own 13 0 f.r.s.cs.length,iV f.r.t.n,.own 14 0 f.r.t.fr.length,.own 15 0 f.r.t.to.length,.own 16 0 f.r.t.id.length,.own 17 0 f.r.t.cs.length,.own 18 0 f.r.ob.length,.own 19 0 f.r.ar.length,.own 20 0 f.u.length,.own 21 0 f.k.length],iV k] (f.mu k) (iV (k+f.size)):=by
 obtain ⟨hl,hr,hu,hk⟩:=hf;have hz:f.size=f.l.size+f.r.size+f.u.length+f.k.length:=rfl;refine Q1m (ts:=[4]) (rv:=.int .i64 (k+f.size)) Tryz.func16 rfl rfl ?_ rfl (by simp [Tryz.f16]) ?_ fun F hN hP=>?_
 ·have:(-9223372036854775808≤k+f.size)∧k+f.size≤9223372036854775807:=by omega
  simp [resV,this]
 ·exact mu_len (by simp [Adj.mu,Adj.mark,Fn.mark,Cat.mark])
 refine srQ hN fun K hK=>?_;simp [Q4H,Adj.mu];refine hK _ ?_;clear hK K;refine Q41 mo (by rw [hN];decide) fun K hK=>?_;simp;refine Q1X (m:=[0,1,2,3,4,5,6,7,8,9]) (markFn f.l (k) hl (by omega) (by omega)) (by decide) (.cons rfl (.cons rfl (.cons rfl (.cons rfl (.cons rfl (.cons rfl (.cons rfl (.cons rfl (.cons rfl (.cons rfl .nil)))))))))) (.cons (.aggL (.cons .val (.cons (.own (j:=0) (by decide)) (.cons (.own (j:=1) (by decide)) (.cons (.own (j:=2) (by decide)) (.cons (.own (j:=3) (by decide)) (.cons .val (.cons (.own (j:=4) (by decide)) (.cons (.own (j:=5) (by decide)) (.cons (.own (j:=6) (by decide)) (.cons (.own (j:=7) (by decide)) (.cons (.own (j:=8) (by decide)) (.cons (.own (j:=9) (by decide)) .nil))))))))))))) (.cons .val .nil)) rfl (by simp) ?_;simp [Q4b,Fn.mu];refine hK _ ?_;clear hK K;refine Q41 mo (by rw [hN];decide) fun K hK=>?_;simp;refine Q1X (m:=[10,11,12,13,14,15,16,17,18,19]) (markFn f.r (k+f.l.size) hr (by omega) (by omega)) (by decide) (.cons rfl (.cons rfl (.cons rfl (.cons rfl (.cons rfl (.cons rfl (.cons rfl (.cons rfl (.cons rfl (.cons rfl .nil)))))))))) (.cons (.aggL (.cons .val (.cons (.own (j:=0) (by decide)) (.cons (.own (j:=1) (by decide)) (.cons (.own (j:=2) (by decide)) (.cons (.own (j:=3) (by decide)) (.cons .val (.cons (.own (j:=4) (by decide)) (.cons (.own (j:=5) (by decide)) (.cons (.own (j:=6) (by decide)) (.cons (.own (j:=7) (by decide)) (.cons (.own (j:=8) (by decide)) (.cons (.own (j:=9) (by decide)) .nil))))))))))))) (.cons .val .nil)) rfl (by simp) ?_;simp [Q4b,Fn.mu];refine hK _ ?_;clear hK K;refine Q41 mo (by rw [hN];decide) fun K hK=>?_;simp;refine Q1z (m32 f.u (k+f.l.size+f.r.size) hu (by omega) (by omega)) rfl (by simp) ?_;simp;refine hK _ ?_;clear hK K;refine Q41 mo (by rw [hN];decide) fun K hK=>?_;simp;refine Q1z (m32 f.k (k+f.l.size+f.r.size+f.u.length) hk (by omega) (by omega)) rfl (by simp) ?_;simp;refine hK _ ?_;clear hK K;refine srQ hN fun K hK=>?_;simp;refine hK _ ?_;clear hK K;refine Qi (mret ?_ ?_)
 ·simp [hz,Int.add_assoc]
 exact (.cons rfl (.cons rfl (.cons rfl (.cons rfl (.cons rfl (.cons rfl (.cons rfl (.cons rfl (.cons rfl (.cons rfl (.cons rfl (.cons rfl (.cons rfl (.cons rfl (.cons rfl (.cons rfl (.cons rfl (.cons rfl (.cons rfl (.cons rfl (.cons rfl (.cons rfl .nil))))))))))))))))))))))
theorem Mnd.pur {h:HP} {u v:Bool} {c:Mnd}:PurL h (c.cells u) (c.cells v):=.cons .val (.cons .lst (.cons .lst (.cons .lst (.cons .lst (.cons .val (.cons .lst (.cons .lst (.cons .lst (.cons .lst (.cons .lst (.cons .lst (.cons .lst (.cons .lst .nil)))))))))))))
def Mnd.mark (k:Int) (f:Mnd):Mnd:=⟨f.f.mark (k),run (k+f.f.size) f.u.length,run (k+f.f.size+f.u.length) f.j.length⟩
def Mnd.size (f:Mnd):Nat:=f.f.size+f.u.length+f.j.length
def Mnd.ok (f:Mnd):Prop:=f.f.ok∧f.u.length≤1048576∧f.j.length≤1048576
def Mnd.mu (f:Mnd) (k:Int):List Mu:=[⟨1,Is f.f.s.fr,Is (f.mark k).f.s.fr⟩,⟨1,Is f.f.s.to,Is (f.mark k).f.s.to⟩,⟨1,Is f.f.s.id,Is (f.mark k).f.s.id⟩,⟨1,Ls f.f.s.cs,Ls (f.mark k).f.s.cs⟩,⟨1,Is f.f.t.fr,Is (f.mark k).f.t.fr⟩,⟨1,Is f.f.t.to,Is (f.mark k).f.t.to⟩,⟨1,Is f.f.t.id,Is (f.mark k).f.t.id⟩,⟨1,Ls f.f.t.cs,Ls (f.mark k).f.t.cs⟩,⟨1,Is f.f.ob,Is (f.mark k).f.ob⟩,⟨1,Is f.f.ar,Is (f.mark k).f.ar⟩,⟨1,Is f.u,Is (f.mark k).u⟩,⟨1,Is f.j,Is (f.mark k).j⟩]
theorem Mnd.ok_size {f:Mnd} (h:f.ok):f.size≤2199033741312:=by
 obtain ⟨hf,hu,hj⟩:=h;have s_f:=Fn.ok_size hf;simp only [Mnd.size];omega
theorem eqMnd (u v:Bool) (f:Mnd):Contract Tryz.prog 14 [.agg (f.cells u),.agg (f.cells v)] (.val (.bool true)):=by
 refine Qg (rs:=[.val (.bool true)]) Tryz.func14 rfl rfl rfl rfl (by simp [Tryz.f14]) fun F hN hP=>?_;refine srQ hN fun K hK=>?_;simp [Mnd.cells];refine hK _ ?_;clear hK K;refine Q5 ?_;refine srQ hN fun K hK=>?_;simp;refine Q3 (eqFn u v f.f) (.cons (.aggL Fn.pur) (.cons (.aggL Fn.pur) .nil)) ?_;simp [unk,unA,unE,flat];refine hK _ ?_;clear hK K;refine Qd rfl (fun h=>by simp at h) fun _=>?_;refine Qe ?_;refine Q5 ?_;refine srQ hN fun K hK=>?_;simp;refine Q3 (c29 u v f.u f.u) (.cons .lst (.cons .lst .nil)) ?_;simp [unk,unA,unE,flat];refine hK _ ?_;clear hK K;refine Qd rfl (fun h=>by simp at h) fun _=>?_;refine Qe ?_;refine Q5 ?_;refine srQ hN fun K hK=>?_;simp;refine Q3 (c29 u v f.j f.j) (.cons .lst (.cons .lst .nil)) ?_;simp [unk,unA,unE,flat];refine hK _ ?_;clear hK K;refine Qd rfl (fun h=>by simp at h) fun _=>?_;refine Qe ?_;refine srQ hN fun K hK=>?_;simp;refine hK _ ?_;clear hK K;refine Qi (Qk rfl rfl)
theorem toMnd (u:Bool) (f:Mnd) (hf:f.ok):Contract Tryz.prog 11 [.agg (f.cells u)] (.agg (f.cells true)):=by
 obtain ⟨hf,hu,hj⟩:=hf;refine Q1l Tryz.func11 rfl rfl tf_39 rfl rfl (by simp [Tryz.f11]) fun F hN hP=>?_;refine srQ hN fun K hK=>?_;simp [Mnd.cells];refine hK _ ?_;clear hK K;refine srQ hN fun K hK=>?_;simp;refine hK _ ?_;clear hK K;refine srQ hN fun K hK=>?_;simp;refine Q3 (toFn u f.f hf) (.cons (.aggL Fn.pur) .nil) ?_;simp [unk,unA,unE,flat,unC,Fn.cells];refine hK _ ?_;clear hK K;refine srQ hN fun K hK=>?_;simp;refine Q3 (c19 u f.u hu) (.cons .lst .nil) ?_;simp [unk,unA,unE,flat];refine hK _ ?_;clear hK K;refine srQ hN fun K hK=>?_;simp;refine Q3 (c19 u f.j hj) (.cons .lst .nil) ?_;simp [unk,unA,unE,flat];refine hK _ ?_;clear hK K;refine srQ hN fun K hK=>?_;simp;refine hK _ ?_;clear hK K;refine Qi ⟨_,_,_,_,_,rfl,rfl,by simp,by simp,?_⟩;exact ⟨.agg rfl .nil,[iV f.f.s.n,lI f.f.s.fr,lI f.f.s.to,lI f.f.s.id,.lst true 1 (Ls f.f.s.cs),iV f.f.t.n,lI f.f.t.fr,lI f.f.t.to,lI f.f.t.id,.lst true 1 (Ls f.f.t.cs),lI f.f.ob,lI f.f.ar,lI f.u,lI f.j],[4,5,6,7,9,10,11,12,13,14,15,16],by simp,by simp,UpL.refl _⟩
def Q6Y (l:Int) (f:Mnd):Int:=nn (szFn l f.f) fun a0=>nn (less a0 f.u.length) fun a1=>nn (less a1 f.j.length) fun a2=>a2
theorem szMnd_ok {l:Int} {f:Mnd} (hl:l≤1048576) (h:0≤Q6Y l f):f.ok:=by
 unfold Q6Y at h;obtain ⟨p0,q0,_⟩:=Q5O h;have b0:=Q8n (f:=f.f) hl;obtain ⟨p1,q1,_⟩:=Q5O q0;obtain ⟨e1,_⟩:=Q3K p1;have b1:=Q1Y (n:=f.u.length) b0;obtain ⟨p2,q2,_⟩:=Q5O q1;obtain ⟨e2,_⟩:=Q3K p2;have b2:=Q1Y (n:=f.j.length) b1;exact ⟨szFn_ok hl p0,by omega,by omega⟩
theorem cszMnd (u:Bool) (f:Mnd) (l:Int) (h1:0≤l) (h2:l≤1048576):Contract Tryz.prog 9 [.agg (f.cells u),iV l] (iV (Q6Y l f)):=by
 refine Qg (rs:=[iV (Q6Y l f)]) Tryz.func9 rfl rfl rfl rfl (by simp [Tryz.f9]) fun F hN hP=>?_;refine srQ hN fun K hK=>?_;simp [Mnd.cells];refine hK _ ?_;clear hK K;refine srQ hN fun K hK=>?_;simp;refine Q3 (cszFn u f.f (l) h1 (h2)) (.cons (.aggL Fn.pur) (.cons .val .nil)) ?_;simp [unk,unA,unE,flat];refine hK _ ?_;clear hK K;refine Q5 ?_;refine srQ hN fun K hK=>?_;simp;refine hK _ ?_;clear hK K;refine Qd rfl (fun g1=>?_) fun g1=>?_
 ·simp at g1;refine srQ hN fun K hK=>?_;simp;refine hK _ ?_;clear hK K;refine Qi (Qk rfl ?_);simp only [Q6Y,nn];rw [if_pos g1]
 simp at g1;refine Qe ?_;refine srQ hN fun K hK=>?_;simp;refine Q3 (c14 u f.u (szFn (l) f.f) g1 (Q8n (h2))) (.cons .lst (.cons .val .nil)) ?_;simp [unk,unA,unE,flat];refine hK _ ?_;clear hK K;refine Q5 ?_;refine srQ hN fun K hK=>?_;simp;refine hK _ ?_;clear hK K;refine Qd rfl (fun g2=>?_) fun g2=>?_
 ·simp at g2;refine srQ hN fun K hK=>?_;simp;refine hK _ ?_;clear hK K;refine Qi (Qk rfl ?_);simp only [Q6Y,nn];rw [if_neg (Int.not_lt.2 g1),if_pos g2]
 simp at g2;refine Qe ?_;refine srQ hN fun K hK=>?_;simp;refine Q3 (c14 u f.j (less (szFn (l) f.f) f.u.length) g2 (Q1Y (Q8n (h2)))) (.cons .lst (.cons .val .nil)) ?_;simp [unk,unA,unE,flat];refine hK _ ?_;clear hK K;refine Q5 ?_;refine srQ hN fun K hK=>?_;simp;refine hK _ ?_;clear hK K;refine Qd rfl (fun g3=>?_) fun g3=>?_
 ·simp at g3;refine srQ hN fun K hK=>?_;simp;refine hK _ ?_;clear hK K;refine Qi (Qk rfl ?_);simp only [Q6Y,nn];rw [if_neg (Int.not_lt.2 g1),if_neg (Int.not_lt.2 g2),if_pos g3]
 simp at g3;refine Qe ?_;refine srQ hN fun K hK=>?_;simp;refine hK _ ?_;clear hK K;refine Qi (Qk rfl ?_);simp only [Q6Y,nn];rw [if_neg (Int.not_lt.2 g1),if_neg (Int.not_lt.2 g2),if_neg (Int.not_lt.2 g3)]
theorem markMnd (f:Mnd) (k:Int) (hf:f.ok) (h2:0≤k) (h3:k+f.size≤576460752303423488) :
  MContract Tryz.prog 15 [.agg [iV f.f.s.n,.own 0 0 f.f.s.fr.length,.own 1 0 f.f.s.to.length,.own 2 0 f.f.s.id.length,.own 3 0 f.f.s.cs.length,iV f.f.t.n,.own 4 0 f.f.t.fr.length,.own 5 0 f.f.t.to.length,.own 6 0 f.f.t.id.length,.own 7 0 f.f.t.cs.length,.own 8 0 f.f.ob.length,.own 9 0 f.f.ar.length,.own 10 0 f.u.length,.own 11 0 f.j.length],iV k] (f.mu k) (iV (k+f.size)):=by
 obtain ⟨hf,hu,hj⟩:=hf;have hz:f.size=f.f.size+f.u.length+f.j.length:=rfl;refine Q1m (ts:=[4]) (rv:=.int .i64 (k+f.size)) Tryz.func15 rfl rfl ?_ rfl (by simp [Tryz.f15]) ?_ fun F hN hP=>?_
 ·have:(-9223372036854775808≤k+f.size)∧k+f.size≤9223372036854775807:=by omega
  simp [resV,this]
 ·exact mu_len (by simp [Mnd.mu,Mnd.mark,Fn.mark,Cat.mark])
 refine srQ hN fun K hK=>?_;simp [Q4H,Mnd.mu];refine hK _ ?_;clear hK K;refine Q41 mo (by rw [hN];decide) fun K hK=>?_;simp;refine Q1X (m:=[0,1,2,3,4,5,6,7,8,9]) (markFn f.f (k) hf (by omega) (by omega)) (by decide) (.cons rfl (.cons rfl (.cons rfl (.cons rfl (.cons rfl (.cons rfl (.cons rfl (.cons rfl (.cons rfl (.cons rfl .nil)))))))))) (.cons (.aggL (.cons .val (.cons (.own (j:=0) (by decide)) (.cons (.own (j:=1) (by decide)) (.cons (.own (j:=2) (by decide)) (.cons (.own (j:=3) (by decide)) (.cons .val (.cons (.own (j:=4) (by decide)) (.cons (.own (j:=5) (by decide)) (.cons (.own (j:=6) (by decide)) (.cons (.own (j:=7) (by decide)) (.cons (.own (j:=8) (by decide)) (.cons (.own (j:=9) (by decide)) .nil))))))))))))) (.cons .val .nil)) rfl (by simp) ?_;simp [Q4b,Fn.mu];refine hK _ ?_;clear hK K;refine Q41 mo (by rw [hN];decide) fun K hK=>?_;simp;refine Q1z (m32 f.u (k+f.f.size) hu (by omega) (by omega)) rfl (by simp) ?_;simp;refine hK _ ?_;clear hK K;refine Q41 mo (by rw [hN];decide) fun K hK=>?_;simp;refine Q1z (m32 f.j (k+f.f.size+f.u.length) hj (by omega) (by omega)) rfl (by simp) ?_;simp;refine hK _ ?_;clear hK K;refine srQ hN fun K hK=>?_;simp;refine hK _ ?_;clear hK K;refine Qi (mret ?_ ?_)
 ·simp [hz,Int.add_assoc]
 exact (.cons rfl (.cons rfl (.cons rfl (.cons rfl (.cons rfl (.cons rfl (.cons rfl (.cons rfl (.cons rfl (.cons rfl (.cons rfl (.cons rfl .nil))))))))))))
noncomputable def Q1C (xs:List Int) (n:Int):Option (Bool) :=
 ass (B64 (n - 1)) <| some ((xs.all (inR n)))
theorem Q55 (xs:List Int) (n:Int) (r:Bool) (h:Q1C xs n=some r):Contract Tryz.prog 149 [lI xs,iV n] (.val (.bool r)):=by
 unfold Q1C at h;replace h:=Q6 h;obtain ⟨hn,h⟩:=h;cases h;exact c22 true xs n hn
noncomputable def Q1D (n:Int) (xs:List Int):Option (Bool) :=
 some ((xs.all (inR n)))
theorem Q56 (n:Int) (xs:List Int) (r:Bool) (h:Q1D n xs=some r):Contract Tryz.prog 132 [iV n,lI xs] (.val (.bool r)):=by
 unfold Q1D at h;cases h;exact c57 true xs n
noncomputable def Q2e (xs:List Int):Option (List Int) :=
 ass (xs.length≤1048576) <| some (xs)
theorem Q57 (xs:List Int) (r:List Int) (h:Q2e xs=some r):Contract Tryz.prog 49 [lI xs] (lI r):=by
 unfold Q2e at h;replace h:=Q6 h;obtain ⟨hx,h⟩:=h;cases h;exact c58 true xs hx
noncomputable def Q2o (xs:List Int):Option (List Int) :=
 ass (xs.length≤1048576) <| some (xs)
theorem Q4S (xs:List Int) (r:List Int) (h:Q2o xs=some r):Contract Tryz.prog 86 [lI xs] (lI r):=by
 unfold Q2o at h;replace h:=Q6 h;obtain ⟨hx,h⟩:=h;cases h;exact c47 true xs hx
noncomputable def Qs (c:Cat):Option (Int) :=
 some (c.fr.length)
theorem Q1b (c:Cat) (r:Int) (h:Qs c=some r):Contract Tryz.prog 139 [.rptr (c.cells true)] (iV r):=by
 unfold Qs at h;cases h;have q:=c61 true c [];simp only [List.append_nil] at q;exact q
noncomputable def Q3k (c:Cat):Option (Cat) :=
 ass (c.ok) <| some (c)
theorem Q6w (c:Cat) (r:Cat) (h:Q3k c=some r):Contract Tryz.prog 81 [.agg (c.cells true)] (.agg (r.cells true)):=by
 unfold Q3k at h;replace h:=Q6 h;obtain ⟨hc,h⟩:=h;cases h;exact c41 true c hc
noncomputable def Q1o (c:Cat):Option (Cat) :=
 ass (c.ok) <| some (c)
theorem Q3m (c:Cat) (r:Cat) (h:Q1o c=some r):Contract Tryz.prog 85 [.rptr (c.cells true)] (.agg (r.cells true)):=by
 unfold Q1o at h;replace h:=Q6 h;obtain ⟨hc,h⟩:=h;cases h;have q:=c23 true c [] hc;simp only [List.append_nil] at q;exact q
noncomputable def Qn (c:Cat) (f:Int) (g:Int):Option (Int) :=
 ass (0≤f) <| ass (f<c.cs.length) <| ass (0≤g) <| ass (g<(rx c.cs f).length) <| some ((ix (rx c.cs f) g))
theorem QB (c:Cat) (f:Int) (g:Int) (r:Int) (h:Qn c f g=some r):Contract Tryz.prog 54 [.rptr (c.cells true),iV f,iV g] (iV r):=by
 unfold Qn at h;replace h:=Q6 h;obtain ⟨h1,h⟩:=h;replace h:=Q6 h;obtain ⟨h2,h⟩:=h;replace h:=Q6 h;obtain ⟨h3,h⟩:=h;replace h:=Q6 h;obtain ⟨h4,h⟩:=h;cases h;have q:=c69 true c [] f g h1 h2 h3 h4;simp only [List.append_nil] at q;exact q
noncomputable def Q1I (c:Cat):Option (Bool) :=
 some ((bo c.Is))
theorem Q7K (c:Cat) (r:Bool) (h:Q1I c=some r):Contract Tryz.prog 140 [.agg (c.cells true)] (.val (.bool r)):=by
 unfold Q1I at h;cases h;exact c55 true c
noncomputable def QV (c:Cat):Option (Bool) :=
 some ((bo c.Is))
theorem Q3B (c:Cat) (r:Bool) (h:QV c=some r):Contract Tryz.prog 153 [.rptr (c.cells true)] (.val (.bool r)):=by
 unfold QV at h;cases h;have q:=c60 true c [];simp only [List.append_nil] at q;exact q
noncomputable def Q3w (xs:List Int) (ys:List Int):Option (Bool) :=
 some ((decide (xs=ys)))
theorem Q8r (xs:List Int) (ys:List Int) (r:Bool) (h:Q3w xs ys=some r):Contract Tryz.prog 80 [lI xs,lI ys] (.val (.bool r)):=by
 unfold Q3w at h;cases h;exact n54 true true xs ys
noncomputable def Q3x (c:Cat) (d:Cat):Option (Bool) :=
 some ((bo (c=d)))
theorem Q8s (c:Cat) (d:Cat) (r:Bool) (h:Q3x c d=some r):Contract Tryz.prog 97 [.agg (c.cells true),.agg (d.cells true)] (.val (.bool r)):=by
 unfold Q3x at h;cases h;exact n53 true true c d
noncomputable def Q2P (f:List Int) (g:List Int):Option (List Int) :=
 ass (f.length≤1048576) <| ass (∀ y∈f,0≤y∧y<(g.length:Int)) <| some ((Q1L f g))
theorem Q60 (f:List Int) (g:List Int) (r:List Int) (h:Q2P f g=some r):Contract Tryz.prog 146 [lI f,lI g] (lI r):=by
 unfold Q2P at h;replace h:=Q6 h;obtain ⟨hx,h⟩:=h;replace h:=Q6 h;obtain ⟨hg,h⟩:=h;cases h;exact n58 true true f g hx hg
noncomputable def Q4L (f:List Int) (g:List Int):Option (List Int) :=
 ass (f.length≤1048576) <| ass (∀ y∈f,0≤y∧y<(g.length:Int)) <| some ((Q1L f g))
theorem Q9a (f:List Int) (g:List Int) (r:List Int) (h:Q4L f g=some r):Contract Tryz.prog 143 [lI f,lI g] (lI r):=by
 unfold Q4L at h;replace h:=Q6 h;obtain ⟨hx,h⟩:=h;replace h:=Q6 h;obtain ⟨hg,h⟩:=h;cases h;exact n65 true true f g hx hg
noncomputable def Q13 (c:Cat) (d:Cat):Option (Bool) :=
 ass (c.cs.length≤1048576) <| some ((bo (c=d)))
theorem Q2w (c:Cat) (d:Cat) (r:Bool) (h:Q13 c d=some r):Contract Tryz.prog 99 [.rptr (c.cells true),.rptr (d.cells true)] (.val (.bool r)):=by
 unfold Q13 at h;replace h:=Q6 h;obtain ⟨hl,h⟩:=h;cases h;have q:=n61 true true c d [] [] hl;simp only [List.append_nil] at q;exact q
noncomputable def QQ (c_:Cat) (f_:Int):Option Ends :=
 ass (0≤f_∧f_<c_.fr.length∧f_<c_.to.length) <| some ⟨ix c_.fr f_,ix c_.to f_⟩
theorem Q3n (c_:Cat) (f_:Int) (r:Ends) (h:QQ c_ f_=some r):Contract Tryz.prog 150 [.rptr (c_.cells true),iV f_] (.agg (r.cells true)):=by
 unfold QQ at h;replace h:=Q6 h;obtain ⟨⟨h1,h2,h3⟩,h⟩:=h;cases h;have q:=c68 true c_ [] f_ h1 h2 h3;simp only [List.append_nil] at q;exact q
@[simp] theorem ass_true {α:Type} {k:Option α}:ass True k=k:=Qa trivial
theorem Q72 (p:Prop):(bo p=true)=p:=by simp [bo]
theorem QP {p:Prop} (h:p):bo p=true:=by simp [bo,h]
theorem QA {p:Prop} (h:¬ p):bo p=false:=by simp [bo,h]
theorem loop_go {σ ε:Type} {body:σ→Option (Ctl σ ε)} (g:Nat→σ) (m:Nat):∀ (k:Nat),m≤k→(∀ i,i<m→body (g i)=some (.next (g (i+1))))→QE body k (g 0)=QE body (k - m) (g m):=by
 induction m with
 | zero=>intro k _ _;rfl
 | succ m ih =>
  intro k hk h;rw [ih k (by omega) fun i hi=>h i (by omega)];obtain ⟨j,hj⟩:∃ j,k - m=j+1:=⟨k - m - 1,by omega⟩;rw [hj,show k - (m+1)=j by omega];simp only [QE,h m (by omega)]
theorem Q45 {σ ε:Type} {body:σ→Option (Ctl σ ε)} (g:Nat→σ) (n:Nat) {e:ε} {s0:σ} (h0:s0=g 0) (hn:n<4611686018427387904) (h:∀ i,i<n→body (g i)=some (.next (g (i+1)))) (he:body (g n)=some (.ret e)):QE body fuel s0=some e:=by
 subst h0;rw [loop_go g n fuel (by unfold fuel;omega) h];obtain ⟨j,hj⟩:∃ j,fuel - n=j+1:=⟨fuel - n - 1,by unfold fuel;omega⟩;rw [hj];simp only [QE,he]
theorem loop_chk {ε:Type} {body:Int→Option (Ctl Int ε)} (n:Nat) (p:Nat→Prop) {eb eg:ε} (hn:n<4611686018427387904) (h1:∀ i:Nat,i<n→p i→body (i:Int)=some (.next ((i:Int)+1))) (h2:∀ i:Nat,i<n→¬ p i→body (i:Int)=some (.ret eb)) (h3:body (n:Int)=some (.ret eg)) :
  QE body fuel 0=some (@ite _ (∀ i:Nat,i<n→p i) (Classical.propDecidable _) eg eb):=by
 by_cases hall:∀ i:Nat,i<n→p i
 ·rw [if_pos hall];exact Q45 (fun i:Nat=>(i:Int)) n rfl hn (fun i hi=>h1 i hi (hall i hi)) h3
 rw [if_neg hall];have hex:∃ i,i<n∧¬ p i:=Classical.byContradiction fun hx=>hall fun i hi=>Classical.byContradiction fun hp=>hx ⟨i,hi,hp⟩;obtain ⟨m,⟨hm,hp⟩,hmin⟩:∃ m,(m<n∧¬ p m)∧∀ k,k<m→¬ (k<n∧¬ p k):=by
  obtain ⟨i,hi⟩:=hex
  induction i using Nat.strongRecOn with
  | _ i ih =>
   by_cases h:∃ k,k<i∧k<n∧¬ p k
   ·obtain ⟨k,h1,h2⟩:=h;exact ih k h1 h2
   exact ⟨i,hi,fun k hk hh=>h ⟨k,hk,hh⟩⟩
 exact Q45 (fun i:Nat=>(i:Int)) m rfl (by omega) (fun i hi=>h1 i (by omega) (Classical.byContradiction fun hh=>hmin i hi ⟨by omega,hh⟩)) (h2 m hm hp)
theorem Q8S {ε:Type} {body:Int→Option (Ctl Int ε)} (n:Nat) (p:Nat→Prop) {eb:Nat→ε} {eg:ε} (hn:n<4611686018427387904) (h1:∀ i:Nat,i<n→p i→body (i:Int)=some (.next ((i:Int)+1))) (h2:∀ i:Nat,i<n→¬ p i→body (i:Int)=some (.ret (eb i))) (h3:body (n:Int)=some (.ret eg)) :
  ((∀ i:Nat,i<n→p i)∧QE body fuel 0=some eg)∨∃ m,m<n∧¬ p m∧(∀ k,k<m→p k)∧QE body fuel 0=some (eb m):=by
 by_cases hall:∀ i:Nat,i<n→p i
 ·exact .inl ⟨hall,Q45 (fun i:Nat=>(i:Int)) n rfl hn (fun i hi=>h1 i hi (hall i hi)) h3⟩
 right;have hex:∃ i,i<n∧¬ p i:=Classical.byContradiction fun hx=>hall fun i hi=>Classical.byContradiction fun hp=>hx ⟨i,hi,hp⟩;obtain ⟨m,⟨hm,hp⟩,hmin⟩:∃ m,(m<n∧¬ p m)∧∀ k,k<m→¬ (k<n∧¬ p k):=by
  obtain ⟨i,hi⟩:=hex
  induction i using Nat.strongRecOn with
  | _ i ih =>
   by_cases h:∃ k,k<i∧k<n∧¬ p k
   ·obtain ⟨k,h1,h2⟩:=h;exact ih k h1 h2
   exact ⟨i,hi,fun k hk hh=>h ⟨k,hk,hh⟩⟩
 have hlt:∀ k,k<m→p k:=fun k hk=>Classical.byContradiction fun hh=>hmin k hk ⟨by omega,hh⟩;exact ⟨m,hm,hp,hlt,Q45 (fun i:Nat=>(i:Int)) m rfl (by omega) (fun i hi=>h1 i (by omega) (hlt i hi)) (h2 m hm hp)⟩
theorem loop_acc {α ε:Type} {body:α × Int→Option (Ctl (α × Int) ε)} (g:Nat→α) (n:Nat) {e:ε} {a0:α} (h0:a0=g 0) (hn:n<4611686018427387904) (h:∀ i:Nat,i<n→body (g i,(i:Int))=some (.next (g (i+1),(i:Int)+1))) (he:body (g n,(n:Int))=some (.ret e)):QE body fuel (a0,0)=some e:=by
 subst h0;exact Q45 (fun i:Nat=>(g i,(i:Int))) n rfl hn h he
theorem all_inR {xs:List Int} {n:Int}:xs.all (inR n)=true↔∀ j:Nat,j<xs.length→0≤ix xs j∧ix xs j<n:=by
 rw [List.all_eq_true];constructor
 ·intro h j hj;have:=h _ (List.getElem_mem hj);rw [Q1G _ _ hj] at this;simp only [inR,Bool.and_eq_true,decide_eq_true_eq] at this;omega
 intro h x hx;obtain ⟨i,hi,rfl⟩:=List.getElem_of_mem hx;rw [Q1G _ _ hi];have:=h i hi;simp only [inR,Bool.and_eq_true,decide_eq_true_eq];omega
theorem Q7k {xs:List Int} {n:Int} (h:∀ j:Nat,j<xs.length→0≤ix xs j∧ix xs j<n) {j:Int} (h0:0≤j) (h1:j<xs.length):0≤ix xs j∧ix xs j<n:=by
 have:=h j.toNat (by omega)
 rwa [Int.toNat_of_nonneg h0] at this
theorem Q1k {ε β:Type} {body:Int→Option (Ctl Int ε)} {K:ε→Option β} {r:β} (n:Nat) (p:Nat→Prop) {eb eg:ε} (hn:n<4611686018427387904) (h1:∀ i:Nat,i<n→p i→body (i:Int)=some (.next ((i:Int)+1))) (h2:∀ i:Nat,i<n→¬ p i→body (i:Int)=some (.ret eb)) (h3:body (n:Int)=some (.ret eg))
  (hb:(¬ ∀ i:Nat,i<n→p i)→K eb=some r) (hg:(∀ i:Nat,i<n→p i)→K eg=some r):(QE body fuel 0).bind K=some r:=by
 rw [loop_chk n p hn h1 h2 h3]
 by_cases h:∀ i:Nat,i<n→p i
 ·rw [if_pos h];exact hg h
 rw [if_neg h];exact hb h
theorem QN {α ε β:Type} {body:α × Int→Option (Ctl (α × Int) ε)} {K:ε→Option β} {r:Option β} {a0:α} (n:Nat) (g:Nat→α) {e:ε} (h0:a0=g 0) (hn:n<4611686018427387904) (h:∀ i:Nat,i<n→body (g i,(i:Int))=some (.next (g (i+1),(i:Int)+1))) (he:body (g n,(n:Int))=some (.ret e)) (hk:K e=r):(QE body fuel (a0,0)).bind K=r:=by
 rw [loop_acc g n h0 hn h he];exact hk
attribute [local simp] eL eI Qo QH Q1N Cat.cells Fn.cells
noncomputable def Q3T (f_:Fn):Option Bool :=
 (
  (Q1I f_.s).bind fun v2 =>
  if ¬ (v2=true) then
   some true
  else
   (Q1I f_.t).bind fun v4 =>
   if ¬ (v4=true) then
    some true
   else
    if ¬ ((f_.ob.length:Int)=f_.s.n) then
     some true
    else
     some ((f_.ar.length:Int) != (f_.s.fr.length:Int)):Option (Bool)).bind fun b1 =>
 if b1=true then
  some false
 else
  (
   (Q1D f_.t.n f_.ob).bind fun v9 =>
   if ¬ (v9=true) then
    some true
   else
    (Q1D (f_.t.fr.length:Int) f_.ar).bind fun v11 =>
    some (!v11):Option (Bool)).bind fun b8 =>
  if b8=true then
   some false
  else
   (QE (σ:=Int) (ε:=Unit ⊕ Bool) (fun s27 =>
    if s27<(f_.s.fr.length:Int) then
     (
      ass (0≤s27∧s27<(f_.ar.length:Int)) <|
      ass (0≤ix f_.ar s27∧ix f_.ar s27<(f_.t.fr.length:Int)) <|
      ass (0≤s27∧s27<(f_.s.fr.length:Int)) <|
      ass (0≤ix f_.s.fr s27∧ix f_.s.fr s27<(f_.ob.length:Int)) <|
      if ¬ ((ix f_.t.fr (ix f_.ar s27))=(ix f_.ob (ix f_.s.fr s27))) then
       some true
      else
       ass (0≤s27∧s27<(f_.ar.length:Int)) <|
       ass (0≤ix f_.ar s27∧ix f_.ar s27<(f_.t.to.length:Int)) <|
       ass (0≤s27∧s27<(f_.s.to.length:Int)) <|
       ass (0≤ix f_.s.to s27∧ix f_.s.to s27<(f_.ob.length:Int)) <|
       some ((ix f_.t.to (ix f_.ar s27)) != (ix f_.ob (ix f_.s.to s27))):Option (Bool)).bind fun b29 =>
     if b29=true then
      some (Ctl.ret (Sum.inr false))
     else
      ass (B64 (s27+1)) <|
      some (Ctl.next (s27+1))
    else
     some (Ctl.ret (Sum.inl ()))) fuel 0).bind fun e13 =>
   match e13 with
   | .inl b13 =>
    (QE (σ:=Int) (ε:=Unit ⊕ Bool) (fun s49 =>
     if s49<f_.s.n then
      ass (0≤s49∧s49<(f_.s.id.length:Int)) <|
      ass (0≤ix f_.s.id s49∧ix f_.s.id s49<(f_.ar.length:Int)) <|
      ass (0≤s49∧s49<(f_.ob.length:Int)) <|
      ass (0≤ix f_.ob s49∧ix f_.ob s49<(f_.t.id.length:Int)) <|
      if ¬ ((ix f_.ar (ix f_.s.id s49))=(ix f_.t.id (ix f_.ob s49))) then
       some (Ctl.ret (Sum.inr false))
      else
       ass (B64 (s49+1)) <|
       some (Ctl.next (s49+1))
     else
      some (Ctl.ret (Sum.inl ()))) fuel 0).bind fun e41 =>
    match e41 with
    | .inl b41 =>
     (QE (σ:=Int) (ε:=Unit ⊕ Bool) (fun s90 =>
      if s90<(f_.s.fr.length:Int) then
       (
        (QE (σ:=Int) (ε:=Bool ⊕ Unit) (fun s107 =>
         if s107<(f_.s.fr.length:Int) then
          (
           ass (0≤s90∧s90<(f_.s.to.length:Int)) <|
           ass (0≤s107∧s107<(f_.s.fr.length:Int)) <|
           if (ix f_.s.to s90)=(ix f_.s.fr s107) then
            ass (0≤s90∧s90<(f_.s.cs.length:Int)) <|
            ass (0≤s107∧s107<((rx f_.s.cs s90).length:Int)) <|
            ass (0≤ix (rx f_.s.cs s90) s107∧ix (rx f_.s.cs s90) s107<(f_.ar.length:Int)) <|
            ass (0≤s90∧s90<(f_.ar.length:Int)) <|
            ass (0≤ix f_.ar s90∧ix f_.ar s90<(f_.t.cs.length:Int)) <|
            ass (0≤s107∧s107<(f_.ar.length:Int)) <|
            ass (0≤ix f_.ar s107∧ix f_.ar s107<((rx f_.t.cs (ix f_.ar s90)).length:Int)) <|
            some ((ix f_.ar (ix (rx f_.s.cs s90) s107)) != (ix (rx f_.t.cs (ix f_.ar s90)) (ix f_.ar s107)))
           else
            some false:Option (Bool)).bind fun b109 =>
          if b109=true then
           some (Ctl.ret (Sum.inl false))
          else
           ass (B64 (s107+1)) <|
           some (Ctl.next (s107+1))
         else
          some (Ctl.ret (Sum.inr ()))) fuel 0).bind fun e107 =>
        match e107 with
        | .inl p107 =>
         some (Sum.inr p107)
        | .inr p107 =>
         some (Sum.inl p107):Option (Unit ⊕ Bool)).bind fun e92 =>
       match e92 with
       | .inl b92 =>
        ass (B64 (s90+1)) <|
        some (Ctl.next (s90+1))
       | .inr p92 =>
        some (Ctl.ret (Sum.inr p92))
      else
       some (Ctl.ret (Sum.inl ()))) fuel 0).bind fun e57 =>
     match e57 with
     | .inl b57 =>
      some true
     | .inr p57 =>
      some p57
    | .inr p41 =>
     some p41
   | .inr p13 =>
    some p13
theorem wkQ8 {F : Fx} {st st' : St} (m : List (Nat × Nat)) (h : (m.map Prod.fst).Nodup ∧ (m.map Prod.snd).Nodup ∧ (∀ id, id < F.pins → look id m = some id) ∧ (∀ p ∈ m, p.2 < st'.n) ∧ (∀ p ∈ st'.h, p.1 < st'.n) ∧ (∀ p ∈ st'.s, p.2 = rl m (st.get p.1) ∨ p.2 = .bot) ∧ ∀ p ∈ st'.h, hhOk m st.h p.1 p.2 := by simp [hP, hhOk, back, Cat.cells, Fn.cells, UA, U1, IA, I1, LA, L1, BA, B1, EA, E1, E2, eB, eI, eL, Ends.cells, Tra.cells]) : Wk F st st' := Wk.r1 m h
theorem w_s_l06Is (f_:Fn) (r:Bool) (h:Q3T f_=some r):Contract Tryz.prog 106 [.agg (f_.cells true)] (.val (.bool r)):=by
 refine Qf (rvs:=[.tmp 2]) (rs:=[.val (.bool r)]) Tryz.func106 rfl rfl rfl rfl (by simp [Tryz.f106]) fun F hN hP=>?_;unfold Q3T at h;refine Q5 ?_;refine runQ hN fun K hK=>?_;simp [-Q0,-Q7,-Q1,-Q8,-Q2];repeat refine sdQ ?_
 refine hK _ ?_;clear hK K;refine tn ?_;refine Q9 (st':=⟨[(1,.adr 0 0 0)],[(0,.mix 12 [(Fn.cells true f_)])],1⟩) (wkQ8 [(0,0)]) ?_;refine Q5 ?_;refine w_runS mo (by rw [hN];decide) fun K hK=>?_;simp [-Q0,-Q7,-Q1,-Q8,-Q2];repeat refine sdQ ?_
 refine hK _ ?_;clear hK K;refine tn ?_;refine Q9 (st':=⟨[(1,.adr 0 0 0),(3,.adr 1 0 0),(4,.adr 2 0 0)],[(0,.mix 12 [(Fn.cells true f_)]),(1,.mix 5 [(Cat.cells true f_.s)]),(2,.mix 5 [(Cat.cells true f_.t)])],3⟩) (wkQ8 [(0,0),(1,1),(2,2)]) ?_;refine Q5 ?_;refine Q5 ?_;replace h:=bind_some h;obtain ⟨e1,h,h1⟩:=h;refine Qj (fun b1:Bool=>⟨[(1,.adr 0 0 0),(3,.adr 1 0 0),(4,.adr 2 0 0),(37,.val (.bool b1))],[(0,.mix 12 [(Fn.cells true f_)]),(1,.mix 5 [(Cat.cells true f_.s)]),(2,.mix 5 [(Cat.cells true f_.t)])],3⟩) (fun b1=>b1=e1) ?_ ?_
 ·refine runQ hN fun K hK=>?_;simp [-Q0,-Q7,-Q1,-Q8,-Q2];repeat with_reducible refine sdQ ?_
  replace h:=bind_some h;obtain ⟨v2,hv2,h⟩:=h;refine Q3 (Q7K _ v2 hv2) (.cons (.aggL (.cons .val (.cons .lst (.cons .lst (.cons .lst (.cons .lst .nil)))))) .nil) ?_;simp [-Q0,-Q7,-Q1,-Q8,-Q2,unk,unA,unE,unT,unC,flat];repeat with_reducible refine sdQ ?_
  refine Qq (fun g=>?_) (fun g=>?_)
  ·have g3:¬ (¬ (v2=true)):=gQ;clear g;replace h:=if_r g3 h;simp [-Q0,-Q7,-Q1,-Q8,-Q2];(repeat with_reducible refine sdQ ?_);replace h:=bind_some h;obtain ⟨v4,hv4,h⟩:=h;refine Q3 (Q7K _ v4 hv4) (.cons (.aggL (.cons .val (.cons .lst (.cons .lst (.cons .lst (.cons .lst .nil)))))) .nil) ?_;simp [-Q0,-Q7,-Q1,-Q8,-Q2,unk,unA,unE,unT,unC,flat];(repeat with_reducible refine sdQ ?_);refine Qq (fun g=>?_) (fun g=>?_)
   ·have g5:¬ (¬ (v4=true)):=gQ;clear g;replace h:=if_r g5 h;simp [-Q0,-Q7,-Q1,-Q8,-Q2];(repeat with_reducible refine sdQ ?_);refine Qq (fun g=>?_) (fun g=>?_)
    ·have g6:¬ (¬ ((f_.ob.length:Int)=f_.s.n)):=gQ;clear g;replace h:=if_r g6 h;simp [-Q0,-Q7,-Q1,-Q8,-Q2];(repeat refine sdQ ?_);refine hK _ ?_;exact jn (b:=(f_.ar.length:Int) != (f_.s.fr.length:Int)) (Option.some.inj h) (wkQ8 [(0,0),(1,1),(2,2)])
    have g6:¬ ((f_.ob.length:Int)=f_.s.n):=gQ;clear g;replace h:=if_l g6 h;simp [-Q0,-Q7,-Q1,-Q8,-Q2];(repeat refine sdQ ?_);refine hK _ ?_;exact jn (b:=true) (Option.some.inj h) (wkQ8 [(0,0),(1,1),(2,2)])
   have g5:¬ (v4=true):=gQ;clear g;replace h:=if_l g5 h;simp [-Q0,-Q7,-Q1,-Q8,-Q2];(repeat refine sdQ ?_);refine hK _ ?_;exact jn (b:=true) (Option.some.inj h) (wkQ8 [(0,0),(1,1),(2,2)])
  have g3:¬ (v2=true):=gQ;clear g;replace h:=if_l g3 h;simp [-Q0,-Q7,-Q1,-Q8,-Q2];repeat refine sdQ ?_
  refine hK _ ?_;exact jn (b:=true) (Option.some.inj h) (wkQ8 [(0,0),(1,1),(2,2)])
 intro b1 hb1;have h:=h1;try rw [← hb1] at h
 clear h1;try dsimp only at h
 refine Qd rfl (fun g=>?_) fun g=>?_
 ·have g7:b1=true:=gQ;clear g;replace h:=if_l g7 h;refine Q5 ?_;refine runQ hN fun K hK=>?_;simp [-Q0,-Q7,-Q1,-Q8,-Q2];repeat refine sdQ ?_
  refine hK _ ?_;clear hK K;refine tn ?_;refine Q9 (st':=⟨[(2,.val (.bool false))],[],0⟩) (wkQ8 []) ?_;refine Qi ?_;refine tr ?_;have hr:=Option.some.inj h;rw [← hr];refine ⟨_,(.tmp .nil),?_⟩;refine ⟨(.one rfl rfl .nil),[.val (.bool false)],[],by simp [Cat.cells,Fn.cells,UA,U1,IA,I1,LA,L1,BA,B1,EA,E1,E2,eB,eI,eL],by simp,(UpL.refl _)⟩
 have g7:¬ (b1=true):=gQ;clear g;replace h:=if_r g7 h;refine Qe ?_;refine tn ?_;refine Q5 ?_;refine Q5 ?_;replace h:=bind_some h;obtain ⟨e8,h,h8⟩:=h;refine Qj (fun b8:Bool=>⟨[(1,.adr 0 0 0),(3,.adr 1 0 0),(4,.adr 2 0 0),(52,.val (.bool b8))],[(0,.mix 12 [(Fn.cells true f_)]),(1,.mix 5 [(Cat.cells true f_.s)]),(2,.mix 5 [(Cat.cells true f_.t)])],3⟩) (fun b8=>b8=e8) ?_ ?_
 ·refine runQ hN fun K hK=>?_;simp [-Q0,-Q7,-Q1,-Q8,-Q2];repeat with_reducible refine sdQ ?_
  replace h:=bind_some h;obtain ⟨v9,hv9,h⟩:=h;refine Q3 (Q56 _ _ v9 hv9) (.cons .val (.cons .lst .nil)) ?_;simp [-Q0,-Q7,-Q1,-Q8,-Q2,unk,unA,unE,unT,unC,flat];repeat with_reducible refine sdQ ?_
  refine Qq (fun g=>?_) (fun g=>?_)
  ·have g10:¬ (¬ (v9=true)):=gQ;clear g;replace h:=if_r g10 h;simp [-Q0,-Q7,-Q1,-Q8,-Q2];(repeat with_reducible refine sdQ ?_);replace h:=bind_some h;obtain ⟨v11,hv11,h⟩:=h;refine Q3 (Q56 _ _ v11 hv11) (.cons .val (.cons .lst .nil)) ?_;simp [-Q0,-Q7,-Q1,-Q8,-Q2,unk,unA,unE,unT,unC,flat];(repeat refine sdQ ?_);refine hK _ ?_;exact jn (b:=!v11) (Option.some.inj h) (wkQ8 [(0,0),(1,1),(2,2)])
  have g10:¬ (v9=true):=gQ;clear g;replace h:=if_l g10 h;simp [-Q0,-Q7,-Q1,-Q8,-Q2];repeat refine sdQ ?_
  refine hK _ ?_;exact jn (b:=true) (Option.some.inj h) (wkQ8 [(0,0),(1,1),(2,2)])
 intro b8 hb8;have h:=h8;try rw [← hb8] at h
 clear h8;try dsimp only at h
 refine Qd rfl (fun g=>?_) fun g=>?_
 ·have g12:b8=true:=gQ;clear g;replace h:=if_l g12 h;refine Q5 ?_;refine runQ hN fun K hK=>?_;simp [-Q0,-Q7,-Q1,-Q8,-Q2];repeat refine sdQ ?_
  refine hK _ ?_;clear hK K;refine tn ?_;refine Q9 (st':=⟨[(2,.val (.bool false))],[],0⟩) (wkQ8 []) ?_;refine Qi ?_;refine tr ?_;have hr:=Option.some.inj h;rw [← hr];refine ⟨_,(.tmp .nil),?_⟩;refine ⟨(.one rfl rfl .nil),[.val (.bool false)],[],by simp [Cat.cells,Fn.cells,UA,U1,IA,I1,LA,L1,BA,B1,EA,E1,E2,eB,eI,eL],by simp,(UpL.refl _)⟩
 have g12:¬ (b8=true):=gQ;clear g;replace h:=if_r g12 h;refine Qe ?_;refine tn ?_;refine Q5 ?_;refine Q5 ?_;refine runQ hN fun K hK=>?_;simp [-Q0,-Q7,-Q1,-Q8,-Q2];repeat refine sdQ ?_
 refine hK _ ?_;clear hK K;refine tn ?_;refine Q9 (st':=⟨[(1,.adr 0 0 0),(3,.adr 1 0 0),(4,.adr 2 0 0),(5,iV 0)],[(0,.mix 12 [(Fn.cells true f_)]),(1,.mix 5 [(Cat.cells true f_.s)]),(2,.mix 5 [(Cat.cells true f_.t)])],3⟩) (wkQ8 [(0,0),(1,1),(2,2)]) ?_;replace h:=bind_some h;obtain ⟨e13,h,h13⟩:=h;refine Qj (fun b13:Unit=>⟨[(1,.adr 0 0 0),(3,.adr 1 0 0),(4,.adr 2 0 0)],[(0,.mix 12 [(Fn.cells true f_)]),(1,.mix 5 [(Cat.cells true f_.s)]),(2,.mix 5 [(Cat.cells true f_.t)])],3⟩) (fun b13=>Sum.inl b13=e13) ?_ ?_
 ·refine Qc ?_;refine Qz h (fun s27:Int=>⟨[(1,.adr 0 0 0),(3,.adr 1 0 0),(4,.adr 2 0 0),(5,iV s27)],[(0,.mix 12 [(Fn.cells true f_)]),(1,.mix 5 [(Cat.cells true f_.s)]),(2,.mix 5 [(Cat.cells true f_.t)])],3⟩) (wkQ8 [(0,0),(1,1),(2,2)]) ?_;clear h;intro k27 s27 c27 h hk27;refine Q5 ?_;refine Q5 ?_;refine runQ hN fun K hK=>?_;simp [-Q0,-Q7,-Q1,-Q8,-Q2];repeat refine sdQ ?_
  refine hK _ ?_;clear hK K;refine tn ?_;refine Q9 (st':=⟨[(1,.adr 0 0 0),(3,.adr 1 0 0),(4,.adr 2 0 0),(5,iV s27),(57,.val (.bool (decide (s27<(f_.s.fr.length:Int)))))],[(0,.mix 12 [(Fn.cells true f_)]),(1,.mix 5 [(Cat.cells true f_.s)]),(2,.mix 5 [(Cat.cells true f_.t)])],3⟩) (wkQ8 [(0,0),(1,1),(2,2)]) ?_;refine Qd rfl (fun g=>?_) fun g=>?_
  ·have g28:s27<(f_.s.fr.length:Int):=gQ;clear g;replace h:=if_l g28 h;refine Qe ?_;refine tn ?_;refine Q5 ?_;refine Qc ?_;refine Q5 ?_;replace h:=bind_some h;obtain ⟨e29,h,h29⟩:=h;refine Qj (fun b29:Bool=>⟨[(1,.adr 0 0 0),(3,.adr 1 0 0),(4,.adr 2 0 0),(5,iV s27),(99,.val (.bool b29))],[(0,.mix 12 [(Fn.cells true f_)]),(1,.mix 5 [(Cat.cells true f_.s)]),(2,.mix 5 [(Cat.cells true f_.t)])],3⟩) (fun b29=>b29=e29) ?_ ?_
   ·refine runQ hN fun K hK=>?_;replace h:=Q6 h;obtain ⟨a30,h⟩:=h;replace h:=Q6 h;obtain ⟨a31,h⟩:=h;replace h:=Q6 h;obtain ⟨a32,h⟩:=h;replace h:=Q6 h;obtain ⟨a33,h⟩:=h;simp [-Q0,-Q7,-Q1,-Q8,-Q2,at_I a30,at_I a31,at_I a32,at_I a33];(repeat with_reducible refine sdQ ?_);refine Qq (fun g=>?_) (fun g=>?_)
    ·have g34:¬ (¬ ((ix f_.t.fr (ix f_.ar s27))=(ix f_.ob (ix f_.s.fr s27)))):=gQ;clear g;replace h:=if_r g34 h;replace h:=Q6 h;obtain ⟨a35,h⟩:=h;replace h:=Q6 h;obtain ⟨a36,h⟩:=h;replace h:=Q6 h;obtain ⟨a37,h⟩:=h;replace h:=Q6 h;obtain ⟨a38,h⟩:=h;simp [-Q0,-Q7,-Q1,-Q8,-Q2,at_I a30,at_I a31,at_I a32,at_I a33,at_I a35,at_I a36,at_I a37,at_I a38];(repeat refine sdQ ?_);refine hK _ ?_;exact jn (b:=(ix f_.t.to (ix f_.ar s27)) != (ix f_.ob (ix f_.s.to s27))) (Option.some.inj h) (wkQ8 [(0,0),(1,1),(2,2)])
    have g34:¬ ((ix f_.t.fr (ix f_.ar s27))=(ix f_.ob (ix f_.s.fr s27))):=gQ;clear g;replace h:=if_l g34 h;simp [-Q0,-Q7,-Q1,-Q8,-Q2,at_I a30,at_I a31,at_I a32,at_I a33];(repeat refine sdQ ?_);refine hK _ ?_;exact jn (b:=true) (Option.some.inj h) (wkQ8 [(0,0),(1,1),(2,2)])
   intro b29 hb29;have h:=h29;(try rw [← hb29] at h);clear h29;(try dsimp only at h);refine Qd rfl (fun g=>?_) fun g=>?_
   ·have g39:b29=true:=gQ;clear g;replace h:=if_l g39 h;refine Q5 ?_;refine runQ hN fun K hK=>?_;simp [-Q0,-Q7,-Q1,-Q8,-Q2];(repeat refine sdQ ?_);refine hK _ ?_;clear hK K;refine tn ?_;refine Q9 (st':=⟨[(2,.val (.bool false))],[],0⟩) (wkQ8 []) ?_;refine Qi ?_;refine br ?_;refine tr ?_;refine lr ?_;refine br ?_;refine tr ?_;cases h;have q:_=e13:=hk27;have h:=h13;rw [← q] at h;clear q;(try dsimp only at h);have hr:=Option.some.inj h;rw [← hr];refine ⟨_,(.tmp .nil),?_⟩;refine ⟨(.one rfl rfl .nil),[.val (.bool false)],[],by simp [Cat.cells,Fn.cells,UA,U1,IA,I1,LA,L1,BA,B1,EA,E1,E2,eB,eI,eL],by simp,(UpL.refl _)⟩
   have g39:¬ (b29=true):=gQ;clear g;replace h:=if_r g39 h;refine Qe ?_;refine bn ?_;refine tn ?_;refine runQ hN fun K hK=>?_;replace h:=Q6 h;obtain ⟨a40,h⟩:=h;simp [-Q0,-Q7,-Q1,-Q8,-Q2,Qu a40];(repeat refine sdQ ?_);refine hK _ ?_;clear hK K;cases h;exact rn (s':=s27+1) hk27 (wkQ8 [(0,0),(1,1),(2,2)])
  have g28:¬ (s27<(f_.s.fr.length:Int)):=gQ;clear g;replace h:=if_r g28 h;refine Qp ?_;refine tx ?_;refine lx ?_;refine bh ?_;cases h;exact jn (b:=()) hk27 (wkQ8 [(0,0),(1,1),(2,2)])
 intro b13 hb13;have h:=h13;try rw [← hb13] at h
 clear h13;try dsimp only at h
 refine Q5 ?_;refine Q5 ?_;refine runQ hN fun K hK=>?_;simp [-Q0,-Q7,-Q1,-Q8,-Q2];repeat refine sdQ ?_
 refine hK _ ?_;clear hK K;refine tn ?_;refine Q9 (st':=⟨[(1,.adr 0 0 0),(3,.adr 1 0 0),(4,.adr 2 0 0),(6,iV 0)],[(0,.mix 12 [(Fn.cells true f_)]),(1,.mix 5 [(Cat.cells true f_.s)]),(2,.mix 5 [(Cat.cells true f_.t)])],3⟩) (wkQ8 [(0,0),(1,1),(2,2)]) ?_;replace h:=bind_some h;obtain ⟨e41,h,h41⟩:=h;refine Qj (fun b41:Unit=>⟨[(1,.adr 0 0 0),(3,.adr 1 0 0),(4,.adr 2 0 0)],[(0,.mix 12 [(Fn.cells true f_)]),(1,.mix 5 [(Cat.cells true f_.s)]),(2,.mix 5 [(Cat.cells true f_.t)])],3⟩) (fun b41=>Sum.inl b41=e41) ?_ ?_
 ·refine Qc ?_;refine Qz h (fun s49:Int=>⟨[(1,.adr 0 0 0),(3,.adr 1 0 0),(4,.adr 2 0 0),(6,iV s49)],[(0,.mix 12 [(Fn.cells true f_)]),(1,.mix 5 [(Cat.cells true f_.s)]),(2,.mix 5 [(Cat.cells true f_.t)])],3⟩) (wkQ8 [(0,0),(1,1),(2,2)]) ?_;clear h;intro k49 s49 c49 h hk49;refine Q5 ?_;refine Q5 ?_;refine runQ hN fun K hK=>?_;simp [-Q0,-Q7,-Q1,-Q8,-Q2];repeat refine sdQ ?_
  refine hK _ ?_;clear hK K;refine tn ?_;refine Q9 (st':=⟨[(1,.adr 0 0 0),(3,.adr 1 0 0),(4,.adr 2 0 0),(6,iV s49),(103,.val (.bool (decide (s49<f_.s.n))))],[(0,.mix 12 [(Fn.cells true f_)]),(1,.mix 5 [(Cat.cells true f_.s)]),(2,.mix 5 [(Cat.cells true f_.t)])],3⟩) (wkQ8 [(0,0),(1,1),(2,2)]) ?_;refine Qd rfl (fun g=>?_) fun g=>?_
  ·have g50:s49<f_.s.n:=gQ;clear g;replace h:=if_l g50 h;refine Qe ?_;refine tn ?_;refine Q5 ?_;refine Qc ?_;refine Q5 ?_;refine runQ hN fun K hK=>?_;replace h:=Q6 h;obtain ⟨a51,h⟩:=h;replace h:=Q6 h;obtain ⟨a52,h⟩:=h;replace h:=Q6 h;obtain ⟨a53,h⟩:=h;replace h:=Q6 h;obtain ⟨a54,h⟩:=h;simp [-Q0,-Q7,-Q1,-Q8,-Q2,at_I a51,at_I a52,at_I a53,at_I a54];(repeat refine sdQ ?_);refine hK _ ?_;clear hK K;refine tn ?_;refine Q9 (st':=⟨[(1,.adr 0 0 0),(3,.adr 1 0 0),(4,.adr 2 0 0),(6,iV s49),(124,.val (.bool ((ix f_.ar (ix f_.s.id s49)) != (ix f_.t.id (ix f_.ob s49)))))],[(0,.mix 12 [(Fn.cells true f_)]),(1,.mix 5 [(Cat.cells true f_.s)]),(2,.mix 5 [(Cat.cells true f_.t)])],3⟩) (wkQ8 [(0,0),(1,1),(2,2)]) ?_;refine Qd rfl (fun g=>?_) fun g=>?_
   ·have g55:¬ ((ix f_.ar (ix f_.s.id s49))=(ix f_.t.id (ix f_.ob s49))):=gQ;clear g;replace h:=if_l g55 h;refine Q5 ?_;refine runQ hN fun K hK=>?_;simp [-Q0,-Q7,-Q1,-Q8,-Q2];(repeat refine sdQ ?_);refine hK _ ?_;clear hK K;refine tn ?_;refine Q9 (st':=⟨[(2,.val (.bool false))],[],0⟩) (wkQ8 []) ?_;refine Qi ?_;refine br ?_;refine tr ?_;refine lr ?_;refine br ?_;refine tr ?_;cases h;have q:_=e41:=hk49;have h:=h41;rw [← q] at h;clear q;(try dsimp only at h);have hr:=Option.some.inj h;rw [← hr];refine ⟨_,(.tmp .nil),?_⟩;refine ⟨(.one rfl rfl .nil),[.val (.bool false)],[],by simp [Cat.cells,Fn.cells,UA,U1,IA,I1,LA,L1,BA,B1,EA,E1,E2,eB,eI,eL],by simp,(UpL.refl _)⟩
   have g55:¬ (¬ ((ix f_.ar (ix f_.s.id s49))=(ix f_.t.id (ix f_.ob s49)))):=gQ;clear g;replace h:=if_r g55 h;refine Qe ?_;refine bn ?_;refine tn ?_;refine runQ hN fun K hK=>?_;replace h:=Q6 h;obtain ⟨a56,h⟩:=h;simp [-Q0,-Q7,-Q1,-Q8,-Q2,Qu a56];(repeat refine sdQ ?_);refine hK _ ?_;clear hK K;cases h;exact rn (s':=s49+1) hk49 (wkQ8 [(0,0),(1,1),(2,2)])
  have g50:¬ (s49<f_.s.n):=gQ;clear g;replace h:=if_r g50 h;refine Qp ?_;refine tx ?_;refine lx ?_;refine bh ?_;cases h;exact jn (b:=()) hk49 (wkQ8 [(0,0),(1,1),(2,2)])
 intro b41 hb41;have h:=h41;try rw [← hb41] at h
 clear h41;try dsimp only at h
 refine Q5 ?_;refine Q5 ?_;refine runQ hN fun K hK=>?_;simp [-Q0,-Q7,-Q1,-Q8,-Q2];repeat refine sdQ ?_
 refine hK _ ?_;clear hK K;refine tn ?_;refine Q9 (st':=⟨[(1,.adr 0 0 0),(3,.adr 1 0 0),(4,.adr 2 0 0),(7,iV 0)],[(0,.mix 12 [(Fn.cells true f_)]),(1,.mix 5 [(Cat.cells true f_.s)]),(2,.mix 5 [(Cat.cells true f_.t)])],3⟩) (wkQ8 [(0,0),(1,1),(2,2)]) ?_;replace h:=bind_some h;obtain ⟨e57,h,h57⟩:=h;refine Qj (fun b57:Unit=>⟨[],[],0⟩) (fun b57=>Sum.inl b57=e57) ?_ ?_
 ·refine Qc ?_;refine Qz h (fun s90:Int=>⟨[(1,.adr 0 0 0),(3,.adr 1 0 0),(4,.adr 2 0 0),(7,iV s90)],[(0,.mix 12 [(Fn.cells true f_)]),(1,.mix 5 [(Cat.cells true f_.s)]),(2,.mix 5 [(Cat.cells true f_.t)])],3⟩) (wkQ8 [(0,0),(1,1),(2,2)]) ?_;clear h;intro k90 s90 c90 h hk90;refine Q5 ?_;refine Q5 ?_;refine runQ hN fun K hK=>?_;simp [-Q0,-Q7,-Q1,-Q8,-Q2];repeat refine sdQ ?_
  refine hK _ ?_;clear hK K;refine tn ?_;refine Q9 (st':=⟨[(1,.adr 0 0 0),(3,.adr 1 0 0),(4,.adr 2 0 0),(7,iV s90),(129,.val (.bool (decide (s90<(f_.s.fr.length:Int)))))],[(0,.mix 12 [(Fn.cells true f_)]),(1,.mix 5 [(Cat.cells true f_.s)]),(2,.mix 5 [(Cat.cells true f_.t)])],3⟩) (wkQ8 [(0,0),(1,1),(2,2)]) ?_;refine Qd rfl (fun g=>?_) fun g=>?_
  ·have g91:s90<(f_.s.fr.length:Int):=gQ;clear g;replace h:=if_l g91 h;refine Qe ?_;refine tn ?_;refine Q5 ?_;replace h:=bind_some h;obtain ⟨e92,h,h92⟩:=h;refine Qj (fun b92:Unit=>⟨[(1,.adr 0 0 0),(3,.adr 1 0 0),(4,.adr 2 0 0),(7,iV s90)],[(0,.mix 12 [(Fn.cells true f_)]),(1,.mix 5 [(Cat.cells true f_.s)]),(2,.mix 5 [(Cat.cells true f_.t)])],3⟩) (fun b92=>Sum.inl b92=e92) ?_ ?_
   ·refine Qc ?_;refine Q5 ?_;refine runQ hN fun K hK=>?_;simp [-Q0,-Q7,-Q1,-Q8,-Q2];(repeat refine sdQ ?_);refine hK _ ?_;clear hK K;refine tn ?_;refine Q9 (st':=⟨[(1,.adr 0 0 0),(3,.adr 1 0 0),(4,.adr 2 0 0),(7,iV s90),(8,iV 0)],[(0,.mix 12 [(Fn.cells true f_)]),(1,.mix 5 [(Cat.cells true f_.s)]),(2,.mix 5 [(Cat.cells true f_.t)])],3⟩) (wkQ8 [(0,0),(1,1),(2,2)]) ?_;refine Qc ?_;replace h:=bind_some h;obtain ⟨e107,he107,h107⟩:=h;refine Qz he107 (fun s107:Int=>⟨[(1,.adr 0 0 0),(3,.adr 1 0 0),(4,.adr 2 0 0),(7,iV s90),(8,iV s107)],[(0,.mix 12 [(Fn.cells true f_)]),(1,.mix 5 [(Cat.cells true f_.s)]),(2,.mix 5 [(Cat.cells true f_.t)])],3⟩) (wkQ8 [(0,0),(1,1),(2,2)]) ?_;intro k107 s107 c107 h hk107;refine Q5 ?_;refine Q5 ?_;refine runQ hN fun K hK=>?_;simp [-Q0,-Q7,-Q1,-Q8,-Q2];(repeat refine sdQ ?_);refine hK _ ?_;clear hK K;refine tn ?_;refine Q9 (st':=⟨[(1,.adr 0 0 0),(3,.adr 1 0 0),(4,.adr 2 0 0),(7,iV s90),(8,iV s107),(136,.val (.bool (decide (s107<(f_.s.fr.length:Int)))))],[(0,.mix 12 [(Fn.cells true f_)]),(1,.mix 5 [(Cat.cells true f_.s)]),(2,.mix 5 [(Cat.cells true f_.t)])],3⟩) (wkQ8 [(0,0),(1,1),(2,2)]) ?_;refine Qd rfl (fun g=>?_) fun g=>?_
    ·have g108:s107<(f_.s.fr.length:Int):=gQ;clear g;replace h:=if_l g108 h;refine Qe ?_;refine tn ?_;refine Q5 ?_;refine Qc ?_;refine Q5 ?_;replace h:=bind_some h;obtain ⟨e109,h,h109⟩:=h;refine Qj (fun b109:Bool=>⟨[(1,.adr 0 0 0),(3,.adr 1 0 0),(4,.adr 2 0 0),(7,iV s90),(8,iV s107),(180,.val (.bool b109))],[(0,.mix 12 [(Fn.cells true f_)]),(1,.mix 5 [(Cat.cells true f_.s)]),(2,.mix 5 [(Cat.cells true f_.t)])],3⟩) (fun b109=>b109=e109) ?_ ?_
     ·refine runQ hN fun K hK=>?_;replace h:=Q6 h;obtain ⟨a110,h⟩:=h;replace h:=Q6 h;obtain ⟨a111,h⟩:=h;simp [-Q0,-Q7,-Q1,-Q8,-Q2,at_I a110,at_I a111];(repeat with_reducible refine sdQ ?_);refine Qq (fun g=>?_) (fun g=>?_)
      ·have g112:(ix f_.s.to s90)=(ix f_.s.fr s107):=gQ;clear g;replace h:=if_l g112 h;replace h:=Q6 h;obtain ⟨a113,h⟩:=h;replace h:=Q6 h;obtain ⟨a114,h⟩:=h;replace h:=Q6 h;obtain ⟨a115,h⟩:=h;replace h:=Q6 h;obtain ⟨a116,h⟩:=h;replace h:=Q6 h;obtain ⟨a117,h⟩:=h;replace h:=Q6 h;obtain ⟨a118,h⟩:=h;replace h:=Q6 h;obtain ⟨a119,h⟩:=h;simp [-Q0,-Q7,-Q1,-Q8,-Q2,at_I a110,at_I a111,at_L a113,at_I a114,at_I a115,at_I a116,at_L a117,at_I a118,at_I a119];(repeat refine sdQ ?_);refine hK _ ?_;exact jn (b:=(ix f_.ar (ix (rx f_.s.cs s90) s107)) != (ix (rx f_.t.cs (ix f_.ar s90)) (ix f_.ar s107))) (Option.some.inj h) (wkQ8 [(0,0),(1,1),(2,2)])
      have g112:¬ ((ix f_.s.to s90)=(ix f_.s.fr s107)):=gQ;clear g;replace h:=if_r g112 h;simp [-Q0,-Q7,-Q1,-Q8,-Q2,at_I a110,at_I a111];(repeat refine sdQ ?_);refine hK _ ?_;exact jn (b:=false) (Option.some.inj h) (wkQ8 [(0,0),(1,1),(2,2)])
     intro b109 hb109;have h:=h109;(try rw [← hb109] at h);clear h109;(try dsimp only at h);refine Qd rfl (fun g=>?_) fun g=>?_
     ·have g120:b109=true:=gQ;clear g;replace h:=if_l g120 h;refine Q5 ?_;refine runQ hN fun K hK=>?_;simp [-Q0,-Q7,-Q1,-Q8,-Q2];(repeat refine sdQ ?_);refine hK _ ?_;clear hK K;refine tn ?_;refine Q9 (st':=⟨[(2,.val (.bool false))],[],0⟩) (wkQ8 []) ?_;refine Qi ?_;refine br ?_;refine tr ?_;refine lr ?_;refine br ?_;refine br ?_;refine tr ?_;refine lr ?_;refine br ?_;refine tr ?_;cases h;have q:_=e107:=hk107;have h:=h107;rw [← q] at h;clear q;(try dsimp only at h);cases h;have h:=h92;(try dsimp only at h);cases h;have q:_=e57:=hk90;have h:=h57;rw [← q] at h;clear q;(try dsimp only at h);have hr:=Option.some.inj h;rw [← hr];refine ⟨_,(.tmp .nil),?_⟩;refine ⟨(.one rfl rfl .nil),[.val (.bool false)],[],by simp [Cat.cells,Fn.cells,UA,U1,IA,I1,LA,L1,BA,B1,EA,E1,E2,eB,eI,eL],by simp,(UpL.refl _)⟩
     have g120:¬ (b109=true):=gQ;clear g;replace h:=if_r g120 h;refine Qe ?_;refine bn ?_;refine tn ?_;refine runQ hN fun K hK=>?_;replace h:=Q6 h;obtain ⟨a121,h⟩:=h;simp [-Q0,-Q7,-Q1,-Q8,-Q2,Qu a121];(repeat refine sdQ ?_);refine hK _ ?_;clear hK K;cases h;exact rn (s':=s107+1) hk107 (wkQ8 [(0,0),(1,1),(2,2)])
    have g108:¬ (s107<(f_.s.fr.length:Int)):=gQ;clear g;replace h:=if_r g108 h;refine Qp ?_;refine tx ?_;refine lx ?_;refine bh ?_;refine bn ?_;cases h;have q:_=e107:=hk107;have h:=h107;rw [← q] at h;clear q;(try dsimp only at h);exact jn (b:=()) (Option.some.inj h) (wkQ8 [(0,0),(1,1),(2,2)])
   intro b92 hb92;have h:=h92;(try rw [← hb92] at h);clear h92;(try dsimp only at h);refine runQ hN fun K hK=>?_;replace h:=Q6 h;obtain ⟨a122,h⟩:=h;simp [-Q0,-Q7,-Q1,-Q8,-Q2,Qu a122];(repeat refine sdQ ?_);refine hK _ ?_;clear hK K;cases h;exact rn (s':=s90+1) hk90 (wkQ8 [(0,0),(1,1),(2,2)])
  have g91:¬ (s90<(f_.s.fr.length:Int)):=gQ;clear g;replace h:=if_r g91 h;refine Qp ?_;refine tx ?_;refine lx ?_;refine bh ?_;cases h;exact jn (b:=()) hk90 (wkQ8 [])
 intro b57 hb57;have h:=h57;try rw [← hb57] at h
 clear h57;try dsimp only at h
 refine Q5 ?_;refine runQ hN fun K hK=>?_;simp [-Q0,-Q7,-Q1,-Q8,-Q2];repeat refine sdQ ?_
 refine hK _ ?_;clear hK K;refine tn ?_;refine Q9 (st':=⟨[(2,.val (.bool true))],[],0⟩) (wkQ8 []) ?_;refine Qi ?_;have hr:=Option.some.inj h;rw [← hr];refine ⟨_,(.tmp .nil),?_⟩;refine ⟨(.one rfl rfl .nil),[.val (.bool true)],[],by simp [Cat.cells,Fn.cells,UA,U1,IA,I1,LA,L1,BA,B1,EA,E1,E2,eB,eI,eL],by simp,(UpL.refl _)⟩
structure Fn.Is (f:Fn):Prop where
 s:f.s.Is
 t:f.t.Is
 lo:(f.ob.length:Int)=f.s.n
 la:f.ar.length=f.s.fr.length
 ob:∀ j:Nat,j<f.ob.length→0≤ix f.ob j∧ix f.ob j<f.t.n
 ar:∀ j:Nat,j<f.ar.length→0≤ix f.ar j∧ix f.ar j<f.t.fr.length
 ends:∀ a:Nat,a<f.s.fr.length→ix f.t.fr (ix f.ar a)=ix f.ob (ix f.s.fr a)∧ix f.t.to (ix f.ar a)=ix f.ob (ix f.s.to a)
 ids:∀ x:Nat,x<f.s.id.length→ix f.ar (ix f.s.id x)=ix f.t.id (ix f.ob x)
 comp:∀ a:Nat,a<f.s.fr.length→∀ b:Nat,b<f.s.fr.length→ix f.s.to a=ix f.s.fr b→ix f.ar (ix (rx f.s.cs a) b)=ix (rx f.t.cs (ix f.ar a)) (ix f.ar b)
theorem Cat.Sh.frn {c:Cat} (h:c.Sh) {a:Nat} (ha:a<c.fr.length):(0≤ix c.fr a∧ix c.fr a<c.id.length)∧(0≤ix c.to a∧ix c.to a<c.id.length):=⟨h.fr' (by omega) (by omega),h.to' (by omega) (by omega)⟩
theorem Cat.Sh.idn {c:Cat} (h:c.Sh) {a:Nat} (ha:a<c.id.length):0≤ix c.id a∧ix c.id a<c.fr.length:=h.id' (by omega) (by omega)
theorem Cat.Sh.cmp {c:Cat} (h:c.Sh) {f g:Int} (h0:0≤f) (h1:f<c.fr.length) (h2:0≤g) (h3:g<c.fr.length) (e:ix c.to f=ix c.fr g):0≤ix (rx c.cs f) g∧ix (rx c.cs f) g<c.fr.length:=by
 have:=(h.cell' h0 h1 h2 h3).2 e;omega
theorem e_l06Is (f:Fn):Q3T f=some (bo f.Is):=by
 unfold Q3T
 by_cases h1:f.s.Is
 case neg=>rw [QA (show ¬ f.Is from fun q=>h1 q.s)];simp [Q1I,bo,h1]
 by_cases h2:f.t.Is
 case neg=>rw [QA (show ¬ f.Is from fun q=>h2 q.t)];simp [Q1I,bo,h1,h2]
 by_cases h3:(f.ob.length:Int)=f.s.n
 case neg=>rw [QA (show ¬ f.Is from fun q=>h3 q.lo)];simp [Q1I,bo,h1,h2,h3]
 by_cases h4:(f.ar.length:Int)=f.s.fr.length
 case neg=>rw [QA (show ¬ f.Is from fun q=>h4 (by rw [q.la]))];simp [Q1I,bo,h1,h2,h3,h4]
 by_cases h5:f.ob.all (inR f.t.n)=true
 case neg=>rw [QA (show ¬ f.Is from fun q=>h5 (all_inR.2 q.ob))];simp [Q1I,Q1D,bo,h1,h2,h3,h4,h5]
 by_cases h6:f.ar.all (inR f.t.fr.length)=true
 case neg=>rw [QA (show ¬ f.Is from fun q=>h6 (all_inR.2 q.ar))];simp [Q1I,Q1D,bo,h1,h2,h3,h4,h5,h6]
 have ho:=all_inR.1 h5;have ha:=all_inR.1 h6;have hs:=h1.1;have ht:=h2.1;simp only [Q1I,Q1D,QP h1,QP h2,h3,h4,h5,h6,Option.bind_some,if_true,if_false,not_true_eq_false,bne_self_eq_false,Bool.not_true,Bool.false_eq_true];refine Q1k f.s.fr.length (fun a:Nat=>ix f.t.fr (ix f.ar a)=ix f.ob (ix f.s.fr a)∧ix f.t.to (ix f.ar a)=ix f.ob (ix f.s.to a)) (eb:=Sum.inr false) (eg:=Sum.inl ()) (by have:=hs.m40;omega) (fun a hi hp=>?_) (fun a hi hp=>?_) ?_ (fun hx=>?_) fun q1=>?_
 ·have:=hs.frn hi;have:=ha a (by omega);have:=hs.lt;have:=ht.lt;have:=hs.li;have:=hs.m40;simp (disch:=omega) only [Qa,if_pos,B64,hp.1,hp.2,Option.bind_some,not_true_eq_false,if_false,bne_self_eq_false,Bool.false_eq_true]
 ·have:=hs.frn hi;have:=ha a (by omega);have:=hs.lt;have:=ht.lt;have:=hs.li;have:=hs.m40
  by_cases hp1:ix f.t.fr (ix f.ar a)=ix f.ob (ix f.s.fr a)
  ·have hp2:¬ ix f.t.to (ix f.ar a)=ix f.ob (ix f.s.to a):=fun h=>hp ⟨hp1,h⟩;simp (disch:=omega) [Qa,B64,hp1,hp2,hi]
  simp (disch:=omega) [Qa,B64,hp1,hi]
 ·simp
 ·rw [QA (show ¬ f.Is from fun q=>hx q.ends)]
 simp only;refine Q1k f.s.id.length (fun x:Nat=>ix f.ar (ix f.s.id x)=ix f.t.id (ix f.ob x)) (eb:=Sum.inr false) (eg:=Sum.inl ()) (by have:=hs.n8;have:=hs.li;omega) (fun a hi hp=>?_) (fun a hi hp=>?_) ?_ (fun hx=>?_) fun q2=>?_
 ·have:=hs.idn hi;have:=ho a (by have:=hs.li;omega);have:=hs.li;have:=ht.li;have:=hs.n8;simp (disch:=omega) [Qa,B64,hp];omega
 ·have:=hs.idn hi;have:=ho a (by have:=hs.li;omega);have:=hs.li;have:=ht.li;have:=hs.n8;simp (disch:=omega) [Qa,B64,hp];omega
 ·simp [hs.li]
 ·rw [QA (show ¬ f.Is from fun q=>hx q.ids)]
 simp only;refine Q1k f.s.fr.length (fun a:Nat=>∀ b:Nat,b<f.s.fr.length→ix f.s.to a=ix f.s.fr b→ix f.ar (ix (rx f.s.cs a) b)=ix (rx f.t.cs (ix f.ar a)) (ix f.ar b)) (eb:=Sum.inr false) (eg:=Sum.inl ()) (by have:=hs.m40;omega) (fun a hi hp=>?_) (fun a hi hp=>?_) ?_ (fun hx=>?_) fun q3=>?_;rotate_left 2
 ·simp
 ·rw [QA (show ¬ f.Is from fun q=>hx q.comp)]
 ·rw [QP (show f.Is from ⟨h1,h2,h3,by omega,ho,ha,q1,q2,q3⟩)]
 all_goals
  have m40:=hs.m40;have h7:=hs.lt;have h8:=ha a (by omega);have h9:=hs.lc;have h10:=ht.lc;have h11:=hs.row' (j:=a) (by omega) (by omega);have h12:=ht.row' (j:=ix f.ar a) (by omega) (by omega);rw [if_pos (by omega)]
 all_goals
  rw [Option.bind_assoc];refine Q1k f.s.fr.length (fun b:Nat=>ix f.s.to a=ix f.s.fr b→ix f.ar (ix (rx f.s.cs a) b)=ix (rx f.t.cs (ix f.ar a)) (ix f.ar b)) (eb:=Sum.inl false) (eg:=Sum.inr ()) (by omega) (fun b hb hq=>?_) (fun b hb hq=>?_) ?_ (fun hn=>?_) fun hn=>?_
 all_goals first
  | exact absurd hp hn
  | exact absurd hn hp
  | (simp (disch:=omega) [Qa,B64];done)
  | skip
 all_goals
  have h13:=ha b (by omega)
  by_cases h14:ix f.s.to a=ix f.s.fr b
  ·have h15:=hs.cmp (f:=a) (g:=b) (by omega) (by omega) (by omega) (by omega) h14;first
    | (have hq1:=hq h14;simp (disch:=omega) [Qa,B64,h14,hq1,hb])
    | (have hq1:=fun e=>hq (fun _=>e);simp (disch:=omega) [Qa,B64,h14,hq1,hb];exact hq1)
  first
   | (simp (disch:=omega) [Qa,B64,h14,hb];done)
   | exact absurd (fun e=>absurd e h14) hq
attribute [local simp] eL eI Qo QH Q1N Cat.cells Fn.cells
noncomputable def Q1s (c_:Cat) (d_:Cat) (objects_:List Int) (arrows_:List Int):Option Fn :=
 (Q1o c_).bind fun v1 =>
 (Q1o d_).bind fun v2 =>
 (Q2o objects_).bind fun v3 =>
 (Q2o arrows_).bind fun v4 =>
 some (⟨v1,v2,v3,v4⟩:Fn)
theorem Q2U (c_:Cat) (d_:Cat) (objects_:List Int) (arrows_:List Int) (r:Fn) (h:Q1s c_ d_ objects_ arrows_=some r):Contract Tryz.prog 56 [.rptr (c_.cells true),.rptr (d_.cells true),lI objects_,lI arrows_] (.agg (r.cells true)):=by
 refine Qf (rvs:=[.cell 8 33]) (rs:=[.agg (r.cells true)]) Tryz.func56 rfl rfl rfl rfl (by simp [Tryz.f56]) fun F hN hP=>?_;unfold Q1s at h;refine Q5 ?_;refine runQ hN fun K hK=>?_;simp [-Q0,-Q7,-Q1,-Q8,-Q2];repeat refine sdQ ?_
 refine hK _ ?_;clear hK K;refine tn ?_;refine Q9 (st':=⟨[(0,.rptr (Cat.cells true c_)),(1,.rptr (Cat.cells true d_)),(2,lI objects_),(3,lI arrows_),(8,.adr 0 0 0)],[(0,.mix 12 [[iV 0,.val (.slice none 0 0),.val (.slice none 0 0),.val (.slice none 0 0),.val (.slice none 0 0),iV 0,.val (.slice none 0 0),.val (.slice none 0 0),.val (.slice none 0 0),.val (.slice none 0 0),.val (.slice none 0 0),.val (.slice none 0 0)]])],1⟩) (wkQ8 [(0,0)]) ?_;refine Q5 ?_;refine runQ hN fun K hK=>?_;simp [-Q0,-Q7,-Q1,-Q8,-Q2];repeat with_reducible refine sdQ ?_
 replace h:=bind_some h;obtain ⟨v1,hv1,h⟩:=h;refine Q3 (Q3m _ v1 hv1) (.cons (.preT (by simp [Cat.cells])) .nil) ?_;simp [-Q0,-Q7,-Q1,-Q8,-Q2,unk,unA,unE,unT,unC,flat];repeat with_reducible refine sdQ ?_
 replace h:=bind_some h;obtain ⟨v2,hv2,h⟩:=h;refine Q3 (Q3m _ v2 hv2) (.cons (.preT (by simp [Cat.cells])) .nil) ?_;simp [-Q0,-Q7,-Q1,-Q8,-Q2,unk,unA,unE,unT,unC,flat];repeat with_reducible refine sdQ ?_
 replace h:=bind_some h;obtain ⟨v3,hv3,h⟩:=h;refine Q3 (Q4S _ v3 hv3) (.cons .lst .nil) ?_;simp [-Q0,-Q7,-Q1,-Q8,-Q2,unk,unA,unE,unT,unC,flat];repeat with_reducible refine sdQ ?_
 replace h:=bind_some h;obtain ⟨v4,hv4,h⟩:=h;refine Q3 (Q4S _ v4 hv4) (.cons .lst .nil) ?_;simp [-Q0,-Q7,-Q1,-Q8,-Q2,unk,unA,unE,unT,unC,flat];repeat refine sdQ ?_
 refine hK _ ?_;clear hK K;refine tn ?_;refine Q9 (st':=⟨[(8,.adr 0 0 0)],[(0,.mix 12 [[iV v1.n,.own 1 0 v1.fr.length,.own 2 0 v1.to.length,.own 3 0 v1.id.length,.own 4 0 v1.cs.length,iV v2.n,.own 5 0 v2.fr.length,.own 6 0 v2.to.length,.own 7 0 v2.id.length,.own 8 0 v2.cs.length,.own 9 0 v3.length,.own 10 0 v4.length]]),(1,rI v1.fr),(2,rI v1.to),(3,rI v1.id),(4,.row 1 (Ls v1.cs)),(5,rI v2.fr),(6,rI v2.to),(7,rI v2.id),(8,.row 1 (Ls v2.cs)),(9,rI v3),(10,rI v4)],11⟩) (wkQ8 [(0,0),(2,1),(3,2),(4,3),(5,4),(7,5),(8,6),(9,7),(10,8),(11,9),(12,10)]) ?_;refine Qi ?_;have hr:=Option.some.inj h;rw [← hr];refine ⟨_,(.cell Q68 rfl rfl rfl (by simp) (by simp) .nil),?_⟩;refine ⟨(.agg rfl .nil),[iV v1.n,lI v1.fr,lI v1.to,lI v1.id,.lst true 1 (Ls v1.cs),iV v2.n,lI v2.fr,lI v2.to,lI v2.id,.lst true 1 (Ls v2.cs),lI v3,lI v4],[1,2,3,4,5,6,7,8,9,10],by simp [Cat.cells,Fn.cells,UA,U1,IA,I1,LA,L1,BA,B1,EA,E1,E2,eB,eI,eL],by simp,(UpL.refl _)⟩
attribute [local simp] eL eI Qo QH Q1N Cat.cells Fn.cells
noncomputable def Q1w (f_:Fn):Option Fn :=
 (Q1s f_.s f_.t f_.ob f_.ar).bind fun v1 =>
 some v1
theorem Q3G (f_:Fn) (r:Fn) (h:Q1w f_=some r):Contract Tryz.prog 87 [.rptr (f_.cells true)] (.agg (r.cells true)):=by
 refine Qf (rvs:=[.cell 2 33]) (rs:=[.agg (r.cells true)]) Tryz.func87 rfl rfl rfl rfl (by simp [Tryz.f87]) fun F hN hP=>?_;unfold Q1w at h;refine Q5 ?_;refine runQ hN fun K hK=>?_;simp [-Q0,-Q7,-Q1,-Q8,-Q2];repeat refine sdQ ?_
 refine hK _ ?_;clear hK K;refine tn ?_;refine Q9 (st':=⟨[(0,.rptr (Fn.cells true f_)),(2,.adr 0 0 0)],[(0,.mix 12 [[iV 0,.val (.slice none 0 0),.val (.slice none 0 0),.val (.slice none 0 0),.val (.slice none 0 0),iV 0,.val (.slice none 0 0),.val (.slice none 0 0),.val (.slice none 0 0),.val (.slice none 0 0),.val (.slice none 0 0),.val (.slice none 0 0)]])],1⟩) (wkQ8 [(0,0)]) ?_;refine Q5 ?_;refine runQ hN fun K hK=>?_;simp [-Q0,-Q7,-Q1,-Q8,-Q2];repeat with_reducible refine sdQ ?_
 replace h:=bind_some h;obtain ⟨v1,hv1,h⟩:=h;refine Q3 (Q2U _ _ _ _ v1 hv1) (.cons (.preT (by simp [Cat.cells,Fn.cells])) (.cons (.preT (by simp [Cat.cells,Fn.cells])) (.cons .lst (.cons .lst .nil)))) ?_;simp [-Q0,-Q7,-Q1,-Q8,-Q2,unk,unA,unE,unT,unC,flat];repeat refine sdQ ?_
 refine hK _ ?_;clear hK K;refine tn ?_;refine Q9 (st':=⟨[(2,.adr 0 0 0)],[(0,.mix 12 [[iV v1.s.n,.own 1 0 v1.s.fr.length,.own 2 0 v1.s.to.length,.own 3 0 v1.s.id.length,.own 4 0 v1.s.cs.length,iV v1.t.n,.own 5 0 v1.t.fr.length,.own 6 0 v1.t.to.length,.own 7 0 v1.t.id.length,.own 8 0 v1.t.cs.length,.own 9 0 v1.ob.length,.own 10 0 v1.ar.length]]),(1,rI v1.s.fr),(2,rI v1.s.to),(3,rI v1.s.id),(4,.row 1 (Ls v1.s.cs)),(5,rI v1.t.fr),(6,rI v1.t.to),(7,rI v1.t.id),(8,.row 1 (Ls v1.t.cs)),(9,rI v1.ob),(10,rI v1.ar)],11⟩) (wkQ8 [(0,0),(2,1),(3,2),(4,3),(5,4),(7,5),(8,6),(9,7),(10,8),(11,9),(12,10)]) ?_;refine Qi ?_;have hr:=Option.some.inj h;rw [← hr];refine ⟨_,(.cell Q68 rfl rfl rfl (by simp) (by simp) .nil),?_⟩;refine ⟨(.agg rfl .nil),[iV v1.s.n,lI v1.s.fr,lI v1.s.to,lI v1.s.id,.lst true 1 (Ls v1.s.cs),iV v1.t.n,lI v1.t.fr,lI v1.t.to,lI v1.t.id,.lst true 1 (Ls v1.t.cs),lI v1.ob,lI v1.ar],[1,2,3,4,5,6,7,8,9,10],by simp [Cat.cells,Fn.cells,UA,U1,IA,I1,LA,L1,BA,B1,EA,E1,E2,eB,eI,eL],by simp,(UpL.refl _)⟩
attribute [local simp] eL eI Qo QH Q1N Cat.cells Fn.cells
noncomputable def Q1y (f_:Fn) (g_:Fn):Option Fn :=
 (Q4L f_.ob g_.ob).bind fun v1 =>
 (Q4L f_.ar g_.ar).bind fun v2 =>
 (Q1s f_.s g_.t v1 v2).bind fun v3 =>
 some v3
theorem Q5s (f_:Fn) (g_:Fn) (r:Fn) (h:Q1y f_ g_=some r):Contract Tryz.prog 115 [.rptr (f_.cells true),.rptr (g_.cells true)] (.agg (r.cells true)):=by
 refine Qf (rvs:=[.cell 4 33]) (rs:=[.agg (r.cells true)]) Tryz.func115 rfl rfl rfl rfl (by simp [Tryz.f115]) fun F hN hP=>?_;unfold Q1y at h;refine Q5 ?_;refine runQ hN fun K hK=>?_;simp [-Q0,-Q7,-Q1,-Q8,-Q2];repeat refine sdQ ?_
 refine hK _ ?_;clear hK K;refine tn ?_;refine Q9 (st':=⟨[(0,.rptr (Fn.cells true f_)),(1,.rptr (Fn.cells true g_)),(4,.adr 0 0 0)],[(0,.mix 12 [[iV 0,.val (.slice none 0 0),.val (.slice none 0 0),.val (.slice none 0 0),.val (.slice none 0 0),iV 0,.val (.slice none 0 0),.val (.slice none 0 0),.val (.slice none 0 0),.val (.slice none 0 0),.val (.slice none 0 0),.val (.slice none 0 0)]])],1⟩) (wkQ8 [(0,0)]) ?_;refine Q5 ?_;refine runQ hN fun K hK=>?_;simp [-Q0,-Q7,-Q1,-Q8,-Q2];repeat with_reducible refine sdQ ?_
 replace h:=bind_some h;obtain ⟨v1,hv1,h⟩:=h;refine Q3 (Q9a _ _ v1 hv1) (.cons .lst (.cons .lst .nil)) ?_;simp [-Q0,-Q7,-Q1,-Q8,-Q2,unk,unA,unE,unT,unC,flat];repeat with_reducible refine sdQ ?_
 replace h:=bind_some h;obtain ⟨v2,hv2,h⟩:=h;refine Q3 (Q9a _ _ v2 hv2) (.cons .lst (.cons .lst .nil)) ?_;simp [-Q0,-Q7,-Q1,-Q8,-Q2,unk,unA,unE,unT,unC,flat];repeat with_reducible refine sdQ ?_
 replace h:=bind_some h;obtain ⟨v3,hv3,h⟩:=h;refine Q3 (Q2U _ _ _ _ v3 hv3) (.cons (.preT (by simp [Cat.cells,Fn.cells])) (.cons (.preT (by simp [Cat.cells,Fn.cells])) (.cons (.whole (by simp) (by simp) (by simp)) (.cons (.whole (by simp) (by simp) (by simp)) .nil)))) ?_;simp [-Q0,-Q7,-Q1,-Q8,-Q2,unk,unA,unE,unT,unC,flat];repeat refine sdQ ?_
 refine hK _ ?_;clear hK K;refine tn ?_;refine Q9 (st':=⟨[(4,.adr 0 0 0)],[(0,.mix 12 [[iV v3.s.n,.own 1 0 v3.s.fr.length,.own 2 0 v3.s.to.length,.own 3 0 v3.s.id.length,.own 4 0 v3.s.cs.length,iV v3.t.n,.own 5 0 v3.t.fr.length,.own 6 0 v3.t.to.length,.own 7 0 v3.t.id.length,.own 8 0 v3.t.cs.length,.own 9 0 v3.ob.length,.own 10 0 v3.ar.length]]),(1,rI v3.s.fr),(2,rI v3.s.to),(3,rI v3.s.id),(4,.row 1 (Ls v3.s.cs)),(5,rI v3.t.fr),(6,rI v3.t.to),(7,rI v3.t.id),(8,.row 1 (Ls v3.t.cs)),(9,rI v3.ob),(10,rI v3.ar)],11⟩) (wkQ8 [(0,0),(4,1),(5,2),(6,3),(7,4),(9,5),(10,6),(11,7),(12,8),(13,9),(14,10)]) ?_;refine Qi ?_;have hr:=Option.some.inj h;rw [← hr];refine ⟨_,(.cell Q68 rfl rfl rfl (by simp) (by simp) .nil),?_⟩;refine ⟨(.agg rfl .nil),[iV v3.s.n,lI v3.s.fr,lI v3.s.to,lI v3.s.id,.lst true 1 (Ls v3.s.cs),iV v3.t.n,lI v3.t.fr,lI v3.t.to,lI v3.t.id,.lst true 1 (Ls v3.t.cs),lI v3.ob,lI v3.ar],[1,2,3,4,5,6,7,8,9,10],by simp [Cat.cells,Fn.cells,UA,U1,IA,I1,LA,L1,BA,B1,EA,E1,E2,eB,eI,eL],by simp,(UpL.refl _)⟩
attribute [local simp] eL eI Qo
noncomputable def Q2d (n_:Int):Option (List Int) :=
 ass (0≤n_∧n_≤1073741824) <|
 (QE (σ:=List Int × Int) (ε:=List Int) (fun s6 =>
  if s6.2<((List.replicate n_.toNat 0).length:Int) then
   ass (0≤s6.2∧s6.2<(s6.1.length:Int)) <|
   ass (B64 (s6.2+1)) <|
   some (Ctl.next (s6.1.set s6.2.toNat s6.2,s6.2+1))
  else
   some (Ctl.ret s6.1)) fuel (List.replicate n_.toNat 0,0)).bind fun b2 =>
 some b2
theorem Q5Z (n_:Int) (r:List Int) (h:Q2d n_=some r):Contract Tryz.prog 57 [iV n_] (lI r):=by
 refine Qf (rvs:=[.tmp 2]) (rs:=[lI r]) Tryz.func57 rfl rfl rfl rfl (by simp [Tryz.f57]) fun F hN hP=>?_;unfold Q2d at h;refine Q5 ?_;refine runQ hN fun K hK=>?_;simp [-Q0,-Q7,-Q1,-Q8,-Q2];repeat refine sdQ ?_
 refine hK _ ?_;clear hK K;refine tn ?_;refine Q9 (st':=⟨[(0,iV n_)],[],0⟩) (wkQ8 []) ?_;refine Q5 ?_;refine runQ hN fun K hK=>?_;replace h:=Q6 h;obtain ⟨a1,h⟩:=h;simp [-Q0,-Q7,-Q1,-Q8,-Q2];repeat refine sdQ ?_
 refine hK _ ?_;clear hK K;refine tn ?_;refine Q9 (st':=⟨[(3,.own 0 0 ((List.replicate n_.toNat 0).length))],[(0,rI (List.replicate n_.toNat 0))],1⟩) (wkQ8 [(0,0)]) ?_;refine Q5 ?_;refine Q5 ?_;refine runQ hN fun K hK=>?_;simp [-Q0,-Q7,-Q1,-Q8,-Q2];repeat refine sdQ ?_
 refine hK _ ?_;clear hK K;refine tn ?_;refine Q9 (st':=⟨[(3,.own 0 0 ((List.replicate n_.toNat 0).length)),(8,iV ((List.replicate n_.toNat 0).length:Int)),(9,iV 0)],[(0,rI (List.replicate n_.toNat 0))],1⟩) (wkQ8 [(0,0)]) ?_;replace h:=bind_some h;obtain ⟨e2,h,h2⟩:=h;refine Qj (fun b2:List Int=>⟨[(3,.own 0 0 b2.length)],[(0,rI b2)],1⟩) (fun b2=>b2=e2) ?_ ?_
 ·refine Qc ?_;refine Qz h (fun s6:List Int × Int=>⟨[(3,.own 0 0 s6.1.length),(8,iV ((List.replicate n_.toNat 0).length:Int)),(9,iV s6.2)],[(0,rI s6.1)],1⟩) (wkQ8 [(0,0)]) ?_;clear h;intro k6 s6 c6 h hk6;refine Q5 ?_;refine runQ hN fun K hK=>?_;simp [-Q0,-Q7,-Q1,-Q8,-Q2];repeat refine sdQ ?_
  refine hK _ ?_;clear hK K;refine tn ?_;refine Q9 (st':=⟨[(3,.own 0 0 s6.1.length),(8,iV ((List.replicate n_.toNat 0).length:Int)),(9,iV s6.2),(10,.val (.bool (decide (s6.2<((List.replicate n_.toNat 0).length:Int)))))],[(0,rI s6.1)],1⟩) (wkQ8 [(0,0)]) ?_;refine Q5 ?_;refine Qd rfl (fun g=>?_) fun g=>?_
  ·have g7:s6.2<((List.replicate n_.toNat 0).length:Int):=gQ;clear g;replace h:=if_l g7 h;refine Qe ?_;refine tn ?_;refine Q5 ?_;refine Qc ?_;refine Q5 ?_;refine runQ hN fun K hK=>?_;simp [-Q0,-Q7,-Q1,-Q8,-Q2];(repeat refine sdQ ?_);refine hK _ ?_;clear hK K;refine tn ?_;refine Q9 (st':=⟨[(3,.own 0 0 s6.1.length),(4,iV s6.2),(8,iV ((List.replicate n_.toNat 0).length:Int)),(9,iV s6.2)],[(0,rI s6.1)],1⟩) (wkQ8 [(0,0)]) ?_;refine runQ hN fun K hK=>?_;replace h:=Q6 h;obtain ⟨a8,h⟩:=h;simp [-Q0,-Q7,-Q1,-Q8,-Q2,at_I a8];(repeat refine sdQ ?_);refine hK _ ?_;clear hK K;refine bn ?_;refine tn ?_;refine Q9 (st':=⟨[(3,.own 0 0 ((s6.1.set s6.2.toNat s6.2).length)),(8,iV ((List.replicate n_.toNat 0).length:Int)),(9,iV s6.2)],[(0,rI (s6.1.set s6.2.toNat s6.2))],1⟩) (wkQ8 [(0,0)]) ?_;refine runQ hN fun K hK=>?_;replace h:=Q6 h;obtain ⟨a9,h⟩:=h;simp [-Q0,-Q7,-Q1,-Q8,-Q2,Qu a9];(repeat refine sdQ ?_);refine hK _ ?_;clear hK K;cases h;exact rn (s':=(s6.1.set s6.2.toNat s6.2,s6.2+1)) hk6 (wkQ8 [(0,0)])
  have g7:¬ (s6.2<((List.replicate n_.toNat 0).length:Int)):=gQ;clear g;replace h:=if_r g7 h;refine Qp ?_;refine tx ?_;refine lx ?_;refine bh ?_;cases h;exact jn (b:=s6.1) hk6 (wkQ8 [(0,0)])
 intro b2 hb2;have h:=h2;try rw [← hb2] at h
 clear h2;try dsimp only at h
 refine Q5 ?_;refine runQ hN fun K hK=>?_;simp [-Q0,-Q7,-Q1,-Q8,-Q2];repeat refine sdQ ?_
 refine hK _ ?_;clear hK K;refine tn ?_;refine Q9 (st':=⟨[(2,.own 0 0 b2.length)],[(0,rI b2)],1⟩) (wkQ8 [(0,0)]) ?_;refine Qi ?_;have hr:=Option.some.inj h;rw [← hr];refine ⟨_,(.tmp .nil),?_⟩;refine ⟨(.one rfl rfl .nil),[lI b2],[0],by simp [UA,U1,IA,I1,LA,L1,BA,B1,EA,E1,E2,eB,eI,eL],by simp,(UpL.refl _)⟩
attribute [local simp] eL eI Qo QH Q1N Cat.cells Fn.cells
noncomputable def Q2p (c_:Cat):Option Fn :=
 (Q2d c_.n).bind fun v1 =>
 (Qs c_).bind fun v2 =>
 (Q2d v2).bind fun v3 =>
 (Q1s c_ c_ v1 v3).bind fun v4 =>
 some v4
theorem Q7J (c_:Cat) (r:Fn) (h:Q2p c_=some r):Contract Tryz.prog 114 [.rptr (c_.cells true)] (.agg (r.cells true)):=by
 refine Qf (rvs:=[.cell 2 33]) (rs:=[.agg (r.cells true)]) Tryz.func114 rfl rfl rfl rfl (by simp [Tryz.f114]) fun F hN hP=>?_;unfold Q2p at h;refine Q5 ?_;refine runQ hN fun K hK=>?_;simp [-Q0,-Q7,-Q1,-Q8,-Q2];repeat refine sdQ ?_
 refine hK _ ?_;clear hK K;refine tn ?_;refine Q9 (st':=⟨[(0,.rptr (Cat.cells true c_)),(2,.adr 0 0 0)],[(0,.mix 12 [[iV 0,.val (.slice none 0 0),.val (.slice none 0 0),.val (.slice none 0 0),.val (.slice none 0 0),iV 0,.val (.slice none 0 0),.val (.slice none 0 0),.val (.slice none 0 0),.val (.slice none 0 0),.val (.slice none 0 0),.val (.slice none 0 0)]])],1⟩) (wkQ8 [(0,0)]) ?_;refine Q5 ?_;refine runQ hN fun K hK=>?_;simp [-Q0,-Q7,-Q1,-Q8,-Q2];repeat with_reducible refine sdQ ?_
 replace h:=bind_some h;obtain ⟨v1,hv1,h⟩:=h;refine Q3 (Q5Z _ v1 hv1) (.cons .val .nil) ?_;simp [-Q0,-Q7,-Q1,-Q8,-Q2,unk,unA,unE,unT,unC,flat];repeat with_reducible refine sdQ ?_
 replace h:=bind_some h;obtain ⟨v2,hv2,h⟩:=h;refine Q3 (Q1b _ v2 hv2) (.cons (.preT (by simp [Cat.cells])) .nil) ?_;simp [-Q0,-Q7,-Q1,-Q8,-Q2,unk,unA,unE,unT,unC,flat];repeat with_reducible refine sdQ ?_
 replace h:=bind_some h;obtain ⟨v3,hv3,h⟩:=h;refine Q3 (Q5Z _ v3 hv3) (.cons .val .nil) ?_;simp [-Q0,-Q7,-Q1,-Q8,-Q2,unk,unA,unE,unT,unC,flat];repeat with_reducible refine sdQ ?_
 replace h:=bind_some h;obtain ⟨v4,hv4,h⟩:=h;refine Q3 (Q2U _ _ _ _ v4 hv4) (.cons (.preT (by simp [Cat.cells])) (.cons (.preT (by simp [Cat.cells])) (.cons (.whole (by simp) (by simp) (by simp)) (.cons (.whole (by simp) (by simp) (by simp)) .nil)))) ?_;simp [-Q0,-Q7,-Q1,-Q8,-Q2,unk,unA,unE,unT,unC,flat];repeat refine sdQ ?_
 refine hK _ ?_;clear hK K;refine tn ?_;refine Q9 (st':=⟨[(2,.adr 0 0 0)],[(0,.mix 12 [[iV v4.s.n,.own 1 0 v4.s.fr.length,.own 2 0 v4.s.to.length,.own 3 0 v4.s.id.length,.own 4 0 v4.s.cs.length,iV v4.t.n,.own 5 0 v4.t.fr.length,.own 6 0 v4.t.to.length,.own 7 0 v4.t.id.length,.own 8 0 v4.t.cs.length,.own 9 0 v4.ob.length,.own 10 0 v4.ar.length]]),(1,rI v4.s.fr),(2,rI v4.s.to),(3,rI v4.s.id),(4,.row 1 (Ls v4.s.cs)),(5,rI v4.t.fr),(6,rI v4.t.to),(7,rI v4.t.id),(8,.row 1 (Ls v4.t.cs)),(9,rI v4.ob),(10,rI v4.ar)],11⟩) (wkQ8 [(0,0),(5,1),(6,2),(7,3),(8,4),(10,5),(11,6),(12,7),(13,8),(14,9),(15,10)]) ?_;refine Qi ?_;have hr:=Option.some.inj h;rw [← hr];refine ⟨_,(.cell Q68 rfl rfl rfl (by simp) (by simp) .nil),?_⟩;refine ⟨(.agg rfl .nil),[iV v4.s.n,lI v4.s.fr,lI v4.s.to,lI v4.s.id,.lst true 1 (Ls v4.s.cs),iV v4.t.n,lI v4.t.fr,lI v4.t.to,lI v4.t.id,.lst true 1 (Ls v4.t.cs),lI v4.ob,lI v4.ar],[1,2,3,4,5,6,7,8,9,10],by simp [Cat.cells,Fn.cells,UA,U1,IA,I1,LA,L1,BA,B1,EA,E1,E2,eB,eI,eL],by simp,(UpL.refl _)⟩
attribute [local simp] eL eI Qo QH Q1N Cat.cells Fn.cells
noncomputable def Q1K (c_:Cat) (d_:Cat) (objects_:List Int) (arrows_:List Int):Option Fn :=
 (Q3k c_).bind fun v1 =>
 (Q3k d_).bind fun v2 =>
 (Q2e objects_).bind fun v3 =>
 (Q2e arrows_).bind fun v4 =>
 some (⟨v1,v2,v3,v4⟩:Fn)
theorem Q3C (c_:Cat) (d_:Cat) (objects_:List Int) (arrows_:List Int) (r:Fn) (h:Q1K c_ d_ objects_ arrows_=some r):Contract Tryz.prog 47 [.agg (c_.cells true),.agg (d_.cells true),lI objects_,lI arrows_] (.agg (r.cells true)):=by
 refine Qf (rvs:=[.cell 8 33]) (rs:=[.agg (r.cells true)]) Tryz.func47 rfl rfl rfl rfl (by simp [Tryz.f47]) fun F hN hP=>?_;unfold Q1K at h;refine Q5 ?_;refine runQ hN fun K hK=>?_;simp [-Q0,-Q7,-Q1,-Q8,-Q2];repeat refine sdQ ?_
 refine hK _ ?_;clear hK K;refine tn ?_;refine Q9 (st':=⟨[(2,lI objects_),(3,lI arrows_),(4,.adr 0 0 0),(5,.adr 1 0 0),(8,.adr 2 0 0)],[(0,.mix 5 [(Cat.cells true c_)]),(1,.mix 5 [(Cat.cells true d_)]),(2,.mix 12 [[iV 0,.val (.slice none 0 0),.val (.slice none 0 0),.val (.slice none 0 0),.val (.slice none 0 0),iV 0,.val (.slice none 0 0),.val (.slice none 0 0),.val (.slice none 0 0),.val (.slice none 0 0),.val (.slice none 0 0),.val (.slice none 0 0)]])],3⟩) (wkQ8 [(0,0),(1,1),(2,2)]) ?_;refine Q5 ?_;refine runQ hN fun K hK=>?_;simp [-Q0,-Q7,-Q1,-Q8,-Q2];repeat with_reducible refine sdQ ?_
 replace h:=bind_some h;obtain ⟨v1,hv1,h⟩:=h;refine Q3 (Q6w _ v1 hv1) (.cons (.aggL (.cons .val (.cons .lst (.cons .lst (.cons .lst (.cons .lst .nil)))))) .nil) ?_;simp [-Q0,-Q7,-Q1,-Q8,-Q2,unk,unA,unE,unT,unC,flat];repeat with_reducible refine sdQ ?_
 replace h:=bind_some h;obtain ⟨v2,hv2,h⟩:=h;refine Q3 (Q6w _ v2 hv2) (.cons (.aggL (.cons .val (.cons .lst (.cons .lst (.cons .lst (.cons .lst .nil)))))) .nil) ?_;simp [-Q0,-Q7,-Q1,-Q8,-Q2,unk,unA,unE,unT,unC,flat];repeat with_reducible refine sdQ ?_
 replace h:=bind_some h;obtain ⟨v3,hv3,h⟩:=h;refine Q3 (Q57 _ v3 hv3) (.cons .lst .nil) ?_;simp [-Q0,-Q7,-Q1,-Q8,-Q2,unk,unA,unE,unT,unC,flat];repeat with_reducible refine sdQ ?_
 replace h:=bind_some h;obtain ⟨v4,hv4,h⟩:=h;refine Q3 (Q57 _ v4 hv4) (.cons .lst .nil) ?_;simp [-Q0,-Q7,-Q1,-Q8,-Q2,unk,unA,unE,unT,unC,flat];repeat refine sdQ ?_
 refine hK _ ?_;clear hK K;refine tn ?_;refine Q9 (st':=⟨[(8,.adr 0 0 0)],[(0,.mix 12 [[iV v1.n,.own 1 0 v1.fr.length,.own 2 0 v1.to.length,.own 3 0 v1.id.length,.own 4 0 v1.cs.length,iV v2.n,.own 5 0 v2.fr.length,.own 6 0 v2.to.length,.own 7 0 v2.id.length,.own 8 0 v2.cs.length,.own 9 0 v3.length,.own 10 0 v4.length]]),(1,rI v1.fr),(2,rI v1.to),(3,rI v1.id),(4,.row 1 (Ls v1.cs)),(5,rI v2.fr),(6,rI v2.to),(7,rI v2.id),(8,.row 1 (Ls v2.cs)),(9,rI v3),(10,rI v4)],11⟩) (wkQ8 [(2,0),(4,1),(5,2),(6,3),(7,4),(9,5),(10,6),(11,7),(12,8),(13,9),(14,10)]) ?_;refine Qi ?_;have hr:=Option.some.inj h;rw [← hr];refine ⟨_,(.cell Q68 rfl rfl rfl (by simp) (by simp) .nil),?_⟩;refine ⟨(.agg rfl .nil),[iV v1.n,lI v1.fr,lI v1.to,lI v1.id,.lst true 1 (Ls v1.cs),iV v2.n,lI v2.fr,lI v2.to,lI v2.id,.lst true 1 (Ls v2.cs),lI v3,lI v4],[1,2,3,4,5,6,7,8,9,10],by simp [Cat.cells,Fn.cells,UA,U1,IA,I1,LA,L1,BA,B1,EA,E1,E2,eB,eI,eL],by simp,(UpL.refl _)⟩
attribute [local simp] eL eI Qo QH Q1N Cat.cells Fn.cells
noncomputable def Q2Q (c_:Cat):Option Fn :=
 (QE (σ:=List Int × Int) (ε:=List Int) (fun s5 =>
  if s5.2<c_.n then
   ass ((s5.1++[s5.2]).length≤1073741824) <|
   ass (B64 (s5.2+1)) <|
   some (Ctl.next (s5.1++[s5.2],s5.2+1))
  else
   some (Ctl.ret s5.1)) fuel ([],0)).bind fun b1 =>
 (QE (σ:=List Int × Int) (ε:=List Int) (fun s13 =>
  if s13.2<(c_.fr.length:Int) then
   ass ((s13.1++[s13.2]).length≤1073741824) <|
   ass (B64 (s13.2+1)) <|
   some (Ctl.next (s13.1++[s13.2],s13.2+1))
  else
   some (Ctl.ret s13.1)) fuel ([],0)).bind fun b9 =>
 (Q1K c_ c_ b1 b9).bind fun v17 =>
 some v17
theorem Q8t (c_:Cat) (r:Fn) (h:Q2Q c_=some r):Contract Tryz.prog 48 [.agg (c_.cells true)] (.agg (r.cells true)):=by
 refine Qf (rvs:=[.cell 2 33]) (rs:=[.agg (r.cells true)]) Tryz.func48 rfl rfl rfl rfl (by simp [Tryz.f48]) fun F hN hP=>?_;unfold Q2Q at h;refine Q5 ?_;refine runQ hN fun K hK=>?_;simp [-Q0,-Q7,-Q1,-Q8,-Q2];repeat refine sdQ ?_
 refine hK _ ?_;clear hK K;refine tn ?_;refine Q9 (st':=⟨[(1,.adr 0 0 0),(2,.adr 1 0 0)],[(0,.mix 5 [(Cat.cells true c_)]),(1,.mix 12 [[iV 0,.val (.slice none 0 0),.val (.slice none 0 0),.val (.slice none 0 0),.val (.slice none 0 0),iV 0,.val (.slice none 0 0),.val (.slice none 0 0),.val (.slice none 0 0),.val (.slice none 0 0),.val (.slice none 0 0),.val (.slice none 0 0)]])],2⟩) (wkQ8 [(0,0),(1,1)]) ?_;refine Q5 ?_;refine runQ hN fun K hK=>?_;simp [-Q0,-Q7,-Q1,-Q8,-Q2];repeat refine sdQ ?_
 refine hK _ ?_;clear hK K;refine tn ?_;refine Q9 (st':=⟨[(1,.adr 0 0 0),(2,.adr 1 0 0),(3,.own 2 0 0),(4,.own 3 0 0)],[(0,.mix 5 [(Cat.cells true c_)]),(1,.mix 12 [[iV 0,.val (.slice none 0 0),.val (.slice none 0 0),.val (.slice none 0 0),.val (.slice none 0 0),iV 0,.val (.slice none 0 0),.val (.slice none 0 0),.val (.slice none 0 0),.val (.slice none 0 0),.val (.slice none 0 0),.val (.slice none 0 0)]]),(2,.mix 1 []),(3,.mix 1 [])],4⟩) (wkQ8 [(0,0),(1,1),(2,2),(3,3)]) ?_;refine Q5 ?_;refine Q5 ?_;refine runQ hN fun K hK=>?_;simp [-Q0,-Q7,-Q1,-Q8,-Q2];repeat refine sdQ ?_
 refine hK _ ?_;clear hK K;refine tn ?_;refine Q9 (st':=⟨[(1,.adr 0 0 0),(2,.adr 1 0 0),(3,.own 2 0 0),(4,.own 3 0 0),(5,iV 0)],[(0,.mix 5 [(Cat.cells true c_)]),(1,.mix 12 [[iV 0,.val (.slice none 0 0),.val (.slice none 0 0),.val (.slice none 0 0),.val (.slice none 0 0),iV 0,.val (.slice none 0 0),.val (.slice none 0 0),.val (.slice none 0 0),.val (.slice none 0 0),.val (.slice none 0 0),.val (.slice none 0 0)]]),(2,.mix 1 []),(3,.mix 1 [])],4⟩) (wkQ8 [(0,0),(1,1),(2,2),(3,3)]) ?_;replace h:=bind_some h;obtain ⟨e1,h,h1⟩:=h;refine Qj (fun b1:List Int=>⟨[(1,.adr 0 0 0),(2,.adr 1 0 0),(3,.own 2 0 b1.length),(4,.own 3 0 0)],[(0,.mix 5 [(Cat.cells true c_)]),(1,.mix 12 [[iV 0,.val (.slice none 0 0),.val (.slice none 0 0),.val (.slice none 0 0),.val (.slice none 0 0),iV 0,.val (.slice none 0 0),.val (.slice none 0 0),.val (.slice none 0 0),.val (.slice none 0 0),.val (.slice none 0 0),.val (.slice none 0 0)]]),(2,rI b1),(3,.mix 1 [])],4⟩) (fun b1=>b1=e1) ?_ ?_
 ·refine Qc ?_;refine Qz h (fun s5:List Int × Int=>⟨[(1,.adr 0 0 0),(2,.adr 1 0 0),(3,.own 2 0 s5.1.length),(4,.own 3 0 0),(5,iV s5.2)],[(0,.mix 5 [(Cat.cells true c_)]),(1,.mix 12 [[iV 0,.val (.slice none 0 0),.val (.slice none 0 0),.val (.slice none 0 0),.val (.slice none 0 0),iV 0,.val (.slice none 0 0),.val (.slice none 0 0),.val (.slice none 0 0),.val (.slice none 0 0),.val (.slice none 0 0),.val (.slice none 0 0)]]),(2,rI s5.1),(3,.mix 1 [])],4⟩) (Q2Z ⟨[(1,.adr 0 0 0),(2,.adr 1 0 0),(3,.own 2 0 0),(4,.own 3 0 0),(5,iV 0)],[(0,.mix 5 [(Cat.cells true c_)]),(1,.mix 12 [[iV 0,.val (.slice none 0 0),.val (.slice none 0 0),.val (.slice none 0 0),.val (.slice none 0 0),iV 0,.val (.slice none 0 0),.val (.slice none 0 0),.val (.slice none 0 0),.val (.slice none 0 0),.val (.slice none 0 0),.val (.slice none 0 0)]]),(2,rI []),(3,.mix 1 [])],4⟩ (Wk.nils [] (by simp) (by simp) (by simp [nlA]) (by simp [entN,nlL,nlA,Cat.cells,Fn.cells,UA,U1,IA,I1,LA,L1,BA,B1,EA,E1,E2,eB,eI,eL]) (by simp)) (wkQ8 [(0,0),(1,1),(2,2),(3,3)])) ?_;clear h;intro k5 s5 c5 h hk5;refine Q5 ?_;refine Q5 ?_;refine runQ hN fun K hK=>?_;simp [-Q0,-Q7,-Q1,-Q8,-Q2];repeat refine sdQ ?_
  refine hK _ ?_;clear hK K;refine tn ?_;refine Q9 (st':=⟨[(1,.adr 0 0 0),(2,.adr 1 0 0),(3,.own 2 0 s5.1.length),(4,.own 3 0 0),(5,iV s5.2),(12,.val (.bool (decide (s5.2<c_.n))))],[(0,.mix 5 [(Cat.cells true c_)]),(1,.mix 12 [[iV 0,.val (.slice none 0 0),.val (.slice none 0 0),.val (.slice none 0 0),.val (.slice none 0 0),iV 0,.val (.slice none 0 0),.val (.slice none 0 0),.val (.slice none 0 0),.val (.slice none 0 0),.val (.slice none 0 0),.val (.slice none 0 0)]]),(2,rI s5.1),(3,.mix 1 [])],4⟩) (wkQ8 [(0,0),(1,1),(2,2),(3,3)]) ?_;refine Qd rfl (fun g=>?_) fun g=>?_
  ·have g6:s5.2<c_.n:=gQ;clear g;replace h:=if_l g6 h;refine Qe ?_;refine tn ?_;refine Q5 ?_;refine Qc ?_;refine runQ hN fun K hK=>?_;replace h:=Q6 h;obtain ⟨a7,h⟩:=h;(try simp only [List.length_append,List.length_cons,List.length_nil] at a7);simp [-Q0,-Q7,-Q1,-Q8,-Q2,a7];(repeat refine sdQ ?_);refine hK _ ?_;clear hK K;refine bn ?_;refine tn ?_;refine Q9 (st':=⟨[(1,.adr 0 0 0),(2,.adr 1 0 0),(3,.own 2 0 ((s5.1++[s5.2]).length)),(4,.own 3 0 0),(5,iV s5.2)],[(0,.mix 5 [(Cat.cells true c_)]),(1,.mix 12 [[iV 0,.val (.slice none 0 0),.val (.slice none 0 0),.val (.slice none 0 0),.val (.slice none 0 0),iV 0,.val (.slice none 0 0),.val (.slice none 0 0),.val (.slice none 0 0),.val (.slice none 0 0),.val (.slice none 0 0),.val (.slice none 0 0)]]),(2,rI (s5.1++[s5.2])),(3,.mix 1 [])],4⟩) (wkQ8 [(0,0),(1,1),(5,2),(3,3)]) ?_;refine runQ hN fun K hK=>?_;replace h:=Q6 h;obtain ⟨a8,h⟩:=h;simp [-Q0,-Q7,-Q1,-Q8,-Q2,Qu a8];(repeat refine sdQ ?_);refine hK _ ?_;clear hK K;cases h;exact rn (s':=(s5.1++[s5.2],s5.2+1)) hk5 (wkQ8 [(0,0),(1,1),(2,2),(3,3)])
  have g6:¬ (s5.2<c_.n):=gQ;clear g;replace h:=if_r g6 h;refine Qp ?_;refine tx ?_;refine lx ?_;refine bh ?_;cases h;exact jn (b:=s5.1) hk5 (wkQ8 [(0,0),(1,1),(2,2),(3,3)])
 intro b1 hb1;have h:=h1;try rw [← hb1] at h
 clear h1;try dsimp only at h
 refine Q5 ?_;refine Q5 ?_;refine runQ hN fun K hK=>?_;simp [-Q0,-Q7,-Q1,-Q8,-Q2];repeat refine sdQ ?_
 refine hK _ ?_;clear hK K;refine tn ?_;refine Q9 (st':=⟨[(1,.adr 0 0 0),(2,.adr 1 0 0),(3,.own 2 0 b1.length),(4,.own 3 0 0),(6,iV 0)],[(0,.mix 5 [(Cat.cells true c_)]),(1,.mix 12 [[iV 0,.val (.slice none 0 0),.val (.slice none 0 0),.val (.slice none 0 0),.val (.slice none 0 0),iV 0,.val (.slice none 0 0),.val (.slice none 0 0),.val (.slice none 0 0),.val (.slice none 0 0),.val (.slice none 0 0),.val (.slice none 0 0)]]),(2,rI b1),(3,.mix 1 [])],4⟩) (wkQ8 [(0,0),(1,1),(2,2),(3,3)]) ?_;replace h:=bind_some h;obtain ⟨e9,h,h9⟩:=h;refine Qj (fun b9:List Int=>⟨[(1,.adr 0 0 0),(2,.adr 1 0 0),(3,.own 2 0 b1.length),(4,.own 3 0 b9.length)],[(0,.mix 5 [(Cat.cells true c_)]),(1,.mix 12 [[iV 0,.val (.slice none 0 0),.val (.slice none 0 0),.val (.slice none 0 0),.val (.slice none 0 0),iV 0,.val (.slice none 0 0),.val (.slice none 0 0),.val (.slice none 0 0),.val (.slice none 0 0),.val (.slice none 0 0),.val (.slice none 0 0)]]),(2,rI b1),(3,rI b9)],4⟩) (fun b9=>b9=e9) ?_ ?_
 ·refine Qc ?_;refine Qz h (fun s13:List Int × Int=>⟨[(1,.adr 0 0 0),(2,.adr 1 0 0),(3,.own 2 0 b1.length),(4,.own 3 0 s13.1.length),(6,iV s13.2)],[(0,.mix 5 [(Cat.cells true c_)]),(1,.mix 12 [[iV 0,.val (.slice none 0 0),.val (.slice none 0 0),.val (.slice none 0 0),.val (.slice none 0 0),iV 0,.val (.slice none 0 0),.val (.slice none 0 0),.val (.slice none 0 0),.val (.slice none 0 0),.val (.slice none 0 0),.val (.slice none 0 0)]]),(2,rI b1),(3,rI s13.1)],4⟩) (Q2Z ⟨[(1,.adr 0 0 0),(2,.adr 1 0 0),(3,.own 2 0 b1.length),(4,.own 3 0 0),(6,iV 0)],[(0,.mix 5 [(Cat.cells true c_)]),(1,.mix 12 [[iV 0,.val (.slice none 0 0),.val (.slice none 0 0),.val (.slice none 0 0),.val (.slice none 0 0),iV 0,.val (.slice none 0 0),.val (.slice none 0 0),.val (.slice none 0 0),.val (.slice none 0 0),.val (.slice none 0 0),.val (.slice none 0 0)]]),(2,rI b1),(3,rI [])],4⟩ (Wk.nils [] (by simp) (by simp) (by simp [nlA]) (by simp [entN,nlL,nlA,Cat.cells,Fn.cells,UA,U1,IA,I1,LA,L1,BA,B1,EA,E1,E2,eB,eI,eL]) (by simp)) (wkQ8 [(0,0),(1,1),(2,2),(3,3)])) ?_;clear h;intro k13 s13 c13 h hk13;refine Q5 ?_;refine Q5 ?_;refine runQ hN fun K hK=>?_;simp [-Q0,-Q7,-Q1,-Q8,-Q2];repeat refine sdQ ?_
  refine hK _ ?_;clear hK K;refine tn ?_;refine Q9 (st':=⟨[(1,.adr 0 0 0),(2,.adr 1 0 0),(3,.own 2 0 b1.length),(4,.own 3 0 s13.1.length),(6,iV s13.2),(23,.val (.bool (decide (s13.2<(c_.fr.length:Int)))))],[(0,.mix 5 [(Cat.cells true c_)]),(1,.mix 12 [[iV 0,.val (.slice none 0 0),.val (.slice none 0 0),.val (.slice none 0 0),.val (.slice none 0 0),iV 0,.val (.slice none 0 0),.val (.slice none 0 0),.val (.slice none 0 0),.val (.slice none 0 0),.val (.slice none 0 0),.val (.slice none 0 0)]]),(2,rI b1),(3,rI s13.1)],4⟩) (wkQ8 [(0,0),(1,1),(2,2),(3,3)]) ?_;refine Qd rfl (fun g=>?_) fun g=>?_
  ·have g14:s13.2<(c_.fr.length:Int):=gQ;clear g;replace h:=if_l g14 h;refine Qe ?_;refine tn ?_;refine Q5 ?_;refine Qc ?_;refine runQ hN fun K hK=>?_;replace h:=Q6 h;obtain ⟨a15,h⟩:=h;(try simp only [List.length_append,List.length_cons,List.length_nil] at a15);simp [-Q0,-Q7,-Q1,-Q8,-Q2,a15];(repeat refine sdQ ?_);refine hK _ ?_;clear hK K;refine bn ?_;refine tn ?_;refine Q9 (st':=⟨[(1,.adr 0 0 0),(2,.adr 1 0 0),(3,.own 2 0 b1.length),(4,.own 3 0 ((s13.1++[s13.2]).length)),(6,iV s13.2)],[(0,.mix 5 [(Cat.cells true c_)]),(1,.mix 12 [[iV 0,.val (.slice none 0 0),.val (.slice none 0 0),.val (.slice none 0 0),.val (.slice none 0 0),iV 0,.val (.slice none 0 0),.val (.slice none 0 0),.val (.slice none 0 0),.val (.slice none 0 0),.val (.slice none 0 0),.val (.slice none 0 0)]]),(2,rI b1),(3,rI (s13.1++[s13.2]))],4⟩) (wkQ8 [(0,0),(1,1),(2,2),(5,3)]) ?_;refine runQ hN fun K hK=>?_;replace h:=Q6 h;obtain ⟨a16,h⟩:=h;simp [-Q0,-Q7,-Q1,-Q8,-Q2,Qu a16];(repeat refine sdQ ?_);refine hK _ ?_;clear hK K;cases h;exact rn (s':=(s13.1++[s13.2],s13.2+1)) hk13 (wkQ8 [(0,0),(1,1),(2,2),(3,3)])
  have g14:¬ (s13.2<(c_.fr.length:Int)):=gQ;clear g;replace h:=if_r g14 h;refine Qp ?_;refine tx ?_;refine lx ?_;refine bh ?_;cases h;exact jn (b:=s13.1) hk13 (wkQ8 [(0,0),(1,1),(2,2),(3,3)])
 intro b9 hb9;have h:=h9;try rw [← hb9] at h
 clear h9;try dsimp only at h
 refine Q5 ?_;refine runQ hN fun K hK=>?_;simp [-Q0,-Q7,-Q1,-Q8,-Q2];repeat with_reducible refine sdQ ?_
 replace h:=bind_some h;obtain ⟨v17,hv17,h⟩:=h;refine Q3 (Q3C _ _ _ _ v17 hv17) (.cons (.aggL (.cons .val (.cons .lst (.cons .lst (.cons .lst (.cons .lst .nil)))))) (.cons (.aggL (.cons .val (.cons .lst (.cons .lst (.cons .lst (.cons .lst .nil)))))) (.cons (.whole (by simp) (by simp) (by simp)) (.cons (.whole (by simp) (by simp) (by simp)) .nil)))) ?_;simp [-Q0,-Q7,-Q1,-Q8,-Q2,unk,unA,unE,unT,unC,flat];repeat refine sdQ ?_
 refine hK _ ?_;clear hK K;refine tn ?_;refine Q9 (st':=⟨[(2,.adr 0 0 0)],[(0,.mix 12 [[iV v17.s.n,.own 1 0 v17.s.fr.length,.own 2 0 v17.s.to.length,.own 3 0 v17.s.id.length,.own 4 0 v17.s.cs.length,iV v17.t.n,.own 5 0 v17.t.fr.length,.own 6 0 v17.t.to.length,.own 7 0 v17.t.id.length,.own 8 0 v17.t.cs.length,.own 9 0 v17.ob.length,.own 10 0 v17.ar.length]]),(1,rI v17.s.fr),(2,rI v17.s.to),(3,rI v17.s.id),(4,.row 1 (Ls v17.s.cs)),(5,rI v17.t.fr),(6,rI v17.t.to),(7,rI v17.t.id),(8,.row 1 (Ls v17.t.cs)),(9,rI v17.ob),(10,rI v17.ar)],11⟩) (wkQ8 [(1,0),(5,1),(6,2),(7,3),(8,4),(10,5),(11,6),(12,7),(13,8),(14,9),(15,10)]) ?_;refine Qi ?_;have hr:=Option.some.inj h;rw [← hr];refine ⟨_,(.cell Q68 rfl rfl rfl (by simp) (by simp) .nil),?_⟩;refine ⟨(.agg rfl .nil),[iV v17.s.n,lI v17.s.fr,lI v17.s.to,lI v17.s.id,.lst true 1 (Ls v17.s.cs),iV v17.t.n,lI v17.t.fr,lI v17.t.to,lI v17.t.id,.lst true 1 (Ls v17.t.cs),lI v17.ob,lI v17.ar],[1,2,3,4,5,6,7,8,9,10],by simp [Cat.cells,Fn.cells,UA,U1,IA,I1,LA,L1,BA,B1,EA,E1,E2,eB,eI,eL],by simp,(UpL.refl _)⟩
attribute [local simp] eL eI Qo QH Q1N Cat.cells Fn.cells
noncomputable def Q2R (f_:Fn) (g_:Fn):Option Fn :=
 (Q2P f_.ob g_.ob).bind fun v1 =>
 (Q2P f_.ar g_.ar).bind fun v2 =>
 (Q1K f_.s g_.t v1 v2).bind fun v3 =>
 some v3
theorem Q8u (f_:Fn) (g_:Fn) (r:Fn) (h:Q2R f_ g_=some r):Contract Tryz.prog 125 [.agg (f_.cells true),.agg (g_.cells true)] (.agg (r.cells true)):=by
 refine Qf (rvs:=[.cell 4 33]) (rs:=[.agg (r.cells true)]) Tryz.func125 rfl rfl rfl rfl (by simp [Tryz.f125]) fun F hN hP=>?_;unfold Q2R at h;refine Q5 ?_;refine runQ hN fun K hK=>?_;simp [-Q0,-Q7,-Q1,-Q8,-Q2];repeat refine sdQ ?_
 refine hK _ ?_;clear hK K;refine tn ?_;refine Q9 (st':=⟨[(2,.adr 0 0 0),(3,.adr 1 0 0),(4,.adr 2 0 0)],[(0,.mix 12 [(Fn.cells true f_)]),(1,.mix 12 [(Fn.cells true g_)]),(2,.mix 12 [[iV 0,.val (.slice none 0 0),.val (.slice none 0 0),.val (.slice none 0 0),.val (.slice none 0 0),iV 0,.val (.slice none 0 0),.val (.slice none 0 0),.val (.slice none 0 0),.val (.slice none 0 0),.val (.slice none 0 0),.val (.slice none 0 0)]])],3⟩) (wkQ8 [(0,0),(1,1),(2,2)]) ?_;refine Q5 ?_;refine runQ hN fun K hK=>?_;simp [-Q0,-Q7,-Q1,-Q8,-Q2];repeat with_reducible refine sdQ ?_
 replace h:=bind_some h;obtain ⟨v1,hv1,h⟩:=h;refine Q3 (Q60 _ _ v1 hv1) (.cons .lst (.cons .lst .nil)) ?_;simp [-Q0,-Q7,-Q1,-Q8,-Q2,unk,unA,unE,unT,unC,flat];repeat with_reducible refine sdQ ?_
 replace h:=bind_some h;obtain ⟨v2,hv2,h⟩:=h;refine Q3 (Q60 _ _ v2 hv2) (.cons .lst (.cons .lst .nil)) ?_;simp [-Q0,-Q7,-Q1,-Q8,-Q2,unk,unA,unE,unT,unC,flat];repeat with_reducible refine sdQ ?_
 replace h:=bind_some h;obtain ⟨v3,hv3,h⟩:=h;refine Q3 (Q3C _ _ _ _ v3 hv3) (.cons (.aggL (.cons .val (.cons .lst (.cons .lst (.cons .lst (.cons .lst .nil)))))) (.cons (.aggL (.cons .val (.cons .lst (.cons .lst (.cons .lst (.cons .lst .nil)))))) (.cons (.whole (by simp) (by simp) (by simp)) (.cons (.whole (by simp) (by simp) (by simp)) .nil)))) ?_;simp [-Q0,-Q7,-Q1,-Q8,-Q2,unk,unA,unE,unT,unC,flat];repeat refine sdQ ?_
 refine hK _ ?_;clear hK K;refine tn ?_;refine Q9 (st':=⟨[(4,.adr 0 0 0)],[(0,.mix 12 [[iV v3.s.n,.own 1 0 v3.s.fr.length,.own 2 0 v3.s.to.length,.own 3 0 v3.s.id.length,.own 4 0 v3.s.cs.length,iV v3.t.n,.own 5 0 v3.t.fr.length,.own 6 0 v3.t.to.length,.own 7 0 v3.t.id.length,.own 8 0 v3.t.cs.length,.own 9 0 v3.ob.length,.own 10 0 v3.ar.length]]),(1,rI v3.s.fr),(2,rI v3.s.to),(3,rI v3.s.id),(4,.row 1 (Ls v3.s.cs)),(5,rI v3.t.fr),(6,rI v3.t.to),(7,rI v3.t.id),(8,.row 1 (Ls v3.t.cs)),(9,rI v3.ob),(10,rI v3.ar)],11⟩) (wkQ8 [(2,0),(6,1),(7,2),(8,3),(9,4),(11,5),(12,6),(13,7),(14,8),(15,9),(16,10)]) ?_;refine Qi ?_;have hr:=Option.some.inj h;rw [← hr];refine ⟨_,(.cell Q68 rfl rfl rfl (by simp) (by simp) .nil),?_⟩;refine ⟨(.agg rfl .nil),[iV v3.s.n,lI v3.s.fr,lI v3.s.to,lI v3.s.id,.lst true 1 (Ls v3.s.cs),iV v3.t.n,lI v3.t.fr,lI v3.t.to,lI v3.t.id,.lst true 1 (Ls v3.t.cs),lI v3.ob,lI v3.ar],[1,2,3,4,5,6,7,8,9,10],by simp [Cat.cells,Fn.cells,UA,U1,IA,I1,LA,L1,BA,B1,EA,E1,E2,eB,eI,eL],by simp,(UpL.refl _)⟩
theorem Q1S (f g:List Int) {j:Int} (h0:0≤j) (h1:j<f.length):ix (Q1L f g) j=ix g (ix f j):=by
 obtain ⟨i,rfl⟩:∃ i:Nat,j=i:=⟨j.toNat,by omega⟩;have hi:i<f.length:=by omega
 rw [← Q1G _ _ (show i<(Q1L f g).length by simpa [Q1L] using hi),← Q1G _ _ hi];simp [Q1L]
theorem Q2M (n:Nat) {j:Int} (h0:0≤j) (h1:j<n):ix (iota n) j=j:=by
 obtain ⟨i,rfl⟩:∃ i:Nat,j=i:=⟨j.toNat,by omega⟩;rw [← Q1G _ _ (show i<(iota n).length by simp [iota];omega)];simp [iota]
theorem set_fill {α:Type} (xs:List α) (k:Nat) (v z:α) {i:Nat} (h:i=xs.length):(xs++List.replicate (k+1) z).set i v=(xs++[v])++List.replicate k z:=by
 subst h;simp [List.replicate_succ]
theorem Q6O {f:List Int} {n:Int} (h:∀ j:Nat,j<f.length→0≤ix f j∧ix f j<n):∀ y∈f,0≤y∧y<n:=by
 intro y hy;obtain ⟨i,hi,rfl⟩:=List.getElem_of_mem hy;rw [Q1G _ _ hi];exact h i hi
def Q2W (c:Cat):Fn:=⟨c,c,iota c.n.toNat,iota c.fr.length⟩
def Q2X (f g:Fn):Fn:=⟨f.s,g.t,Q1L f.ob g.ob,Q1L f.ar g.ar⟩
theorem Cat.Is.ok {c:Cat} (h:c.Is):c.ok:=h.1.size2.1
theorem Fn.Is.lob {f:Fn} (h:f.Is):f.ob.length≤8:=by have:=h.lo;have:=h.s.1.n8;omega
theorem Fn.Is.lar {f:Fn} (h:f.Is):f.ar.length≤40:=by have:=h.la;have:=h.s.1.m40;omega
theorem Q4C {c d:Cat} {ob ar:List Int} (hc:c.ok) (hd:d.ok) (ho:ob.length≤1048576) (ha:ar.length≤1048576):Q1K c d ob ar=some ⟨c,d,ob,ar⟩:=by
 simp [Q1K,Q3k,Q2e,hc,hd,ho,ha]
theorem Q3e {c d:Cat} {ob ar:List Int} (hc:c.ok) (hd:d.ok) (ho:ob.length≤1048576) (ha:ar.length≤1048576):Q1s c d ob ar=some ⟨c,d,ob,ar⟩:=by
 simp [Q1s,Q1o,Q2o,hc,hd,ho,ha]
theorem e_numbers {n:Int} (h0:0≤n) (h1:n≤1048576):Q2d n=some (iota n.toNat):=by
 unfold Q2d;rw [Qa (by omega)];simp only [List.length_replicate];refine QN n.toNat (fun i:Nat=>iota i++List.replicate (n.toNat - i) 0) (e:=iota n.toNat) (by simp [iota]) (by omega) (fun i hi=>?_) (by simp) (by simp);obtain ⟨k,hk⟩:∃ k,n.toNat - i=k+1:=⟨n.toNat - i - 1,by omega⟩;have hl:(iota i).length=i:=by simp [iota]
 have hs:=set_fill (iota i) k (i:Int) 0 (i:=i) (by rw [hl]);rw [Q5I,hk,show n.toNat - (i+1)=k by omega,← hs];simp (disch:=omega) [Qa,B64,hl];omega
theorem Q9e {c:Cat} (h:c.Is):Q2p c=some (Q2W c):=by
 have:=h.1.n0;have:=h.1.n8;have:=h.1.m40;simp (disch:=(first|exact h.ok|(simp [iota];omega)|omega)) only [Q2p,Qs,e_numbers,Q3e,Option.bind_some];simp [Q2W]
theorem e_l06Self {c:Cat} (h:c.Is):Q2Q c=some (Q2W c):=by
 have n0:=h.1.n0;have n8:=h.1.n8;have m40:=h.1.m40;unfold Q2Q;refine QN c.n.toNat (fun i:Nat=>iota i) (e:=iota c.n.toNat) (by simp [iota]) (by omega) (fun i hi=>?_) (by simp;omega) ?_
 ·have hl:(iota i).length=i:=by simp [iota]
  simp (disch:=omega) [Qa,B64,Q5I,hl];omega
 refine QN c.fr.length (fun i:Nat=>iota i) (e:=iota c.fr.length) (by simp [iota]) (by omega) (fun i hi=>?_) (by simp) ?_
 ·have hl:(iota i).length=i:=by simp [iota]
  simp (disch:=omega) [Qa,B64,Q5I,hl];omega
 rw [Q4C h.ok h.ok (by simp [iota];omega) (by simp [iota];omega)];rfl
theorem e_l06Then {f g:Fn} (hf:f.Is) (hg:g.Is) (h:f.t=g.s):Q2R f g=some (Q2X f g):=by
 have h1:=hf.lob;have h2:=hf.lar;have h3:∀ y∈f.ob,0≤y∧y<(g.ob.length:Int):=Q6O (by rw [hg.lo,← h];exact hf.ob);have h4:∀ y∈f.ar,0≤y∧y<(g.ar.length:Int):=Q6O (by rw [hg.la,← h];exact hf.ar);unfold Q2R Q2P;rw [Qa (by omega),Qa h3,Qa (by omega),Qa h4];simp only [Option.bind_some];rw [Q4C hf.s.ok hg.t.ok (by simp [Q1L];omega) (by simp [Q1L];omega)];rfl
theorem e_Fthen {f g:Fn} (hf:f.Is) (hg:g.Is) (h:f.t=g.s):Q1y f g=some (Q2X f g):=by
 have h1:=hf.lob;have h2:=hf.lar;have h3:∀ y∈f.ob,0≤y∧y<(g.ob.length:Int):=Q6O (by rw [hg.lo,← h];exact hf.ob);have h4:∀ y∈f.ar,0≤y∧y<(g.ar.length:Int):=Q6O (by rw [hg.la,← h];exact hf.ar);unfold Q1y Q4L;rw [Qa (by omega),Qa h3,Qa (by omega),Qa h4];simp only [Option.bind_some];rw [Q3e hf.s.ok hg.t.ok (by simp [Q1L];omega) (by simp [Q1L];omega)];rfl
theorem self_is {c:Cat} (h:c.Is):(Q2W c).Is:=by
 have n0:=h.1.n0;have li:=h.1.li;refine ⟨h,h,by simp [Q2W,iota];omega,by simp [Q2W,iota],fun j hj=>?_,fun j hj=>?_,fun a ha=>?_,fun x hx=>?_,fun a ha b hb e=>?_⟩
 ·simp only [Q2W,iota,List.length_map,List.length_range] at hj ⊢;have:=Q2M c.n.toNat (j:=j) (by omega) (by omega);simp only [iota] at this;rw [this];omega
 ·simp only [Q2W,iota,List.length_map,List.length_range] at hj ⊢;have:=Q2M c.fr.length (j:=j) (by omega) (by omega);simp only [iota] at this;rw [this];omega
 ·simp only [Q2W] at ha ⊢;have hf:=h.1.frn ha;rw [Q2M _ (by omega) (by omega),Q2M _ (by omega) (by omega),Q2M _ (by omega) (by omega)];exact ⟨rfl,rfl⟩
 ·simp only [Q2W] at hx ⊢;have hf:=h.1.idn hx;rw [Q2M _ (by omega) (by omega),Q2M _ (by omega) (by omega)]
 simp only [Q2W] at ha hb e ⊢;have hc:=h.1.cmp (f:=a) (g:=b) (by omega) (by omega) (by omega) (by omega) e;rw [Q2M _ (by omega) (by omega),Q2M _ (by omega) (by omega),Q2M _ (by omega) (by omega)]
theorem then_is {f g:Fn} (hf:f.Is) (hg:g.Is) (h:f.t=g.s):(Q2X f g).Is:=by
 have lo:=hf.lo;have la:=hf.la;have lg:=hg.lo;have lb:=hg.la;have hg1:=hg.s.1;rw [← h] at lg lb hg1;have li:=hg1.li;have ls:=hf.s.1.li;refine ⟨hf.s,hg.t,by simpa [Q2X,Q1L] using lo,by simpa [Q2X,Q1L] using la,fun j hj=>?_,fun j hj=>?_,fun a ha=>?_,fun x hx=>?_,fun a ha b hb e=>?_⟩
 ·simp only [Q2X,Q1L,List.length_map] at hj ⊢;have:=Q1S f.ob g.ob (j:=j) (by omega) (by omega);simp only [Q1L] at this;rw [this];have hb:=hf.ob j hj;exact Q7k hg.ob (by omega) (by omega)
 ·simp only [Q2X,Q1L,List.length_map] at hj ⊢;have:=Q1S f.ar g.ar (j:=j) (by omega) (by omega);simp only [Q1L] at this;rw [this];have hb:=hf.ar j hj;exact Q7k hg.ar (by omega) (by omega)
 ·simp only [Q2X] at ha ⊢;have hfr:=hf.s.1.frn ha;have hb:=hf.ar a (by omega);have he:=hf.ends a ha;rw [Q1S _ _ (by omega) (by omega),Q1S _ _ (by omega) (by omega),Q1S _ _ (by omega) (by omega)];have q:=hg.ends (ix f.ar a).toNat (by rw [← h];omega);rw [Int.toNat_of_nonneg (by omega),← h] at q;rw [q.1,q.2,he.1,he.2];exact ⟨rfl,rfl⟩
 ·simp only [Q2X] at hx ⊢;have hid:=hf.s.1.idn hx;have hb:=hf.ob x (by omega);rw [Q1S _ _ (by omega) (by omega),Q1S _ _ (by omega) (by omega),hf.ids x hx];have q:=hg.ids (ix f.ob x).toNat (by rw [← h];omega);rw [Int.toNat_of_nonneg (by omega),← h] at q;exact q
 simp only [Q2X] at ha hb e ⊢;have hc:=hf.s.1.cmp (f:=a) (g:=b) (by omega) (by omega) (by omega) (by omega) e;have h1:=hf.ar a (by omega);have h2:=hf.ar b (by omega);have e1:=hf.ends a ha;have e2:=hf.ends b hb;rw [Q1S _ _ (by omega) (by omega),Q1S _ _ (by omega) (by omega),Q1S _ _ (by omega) (by omega),hf.comp a ha b hb e];have q:=hg.comp (ix f.ar a).toNat (by rw [← h];omega) (ix f.ar b).toNat (by rw [← h];omega);rw [Int.toNat_of_nonneg (by omega),Int.toNat_of_nonneg (by omega),← h] at q;exact q (by rw [e1.2,e2.1,e])
attribute [local simp] eL eI Qo QH Q1N Cat.cells Fn.cells
noncomputable def Q1x (f_:Fn):Option Bool :=
 (
  if ¬ ((f_.ob.length:Int)=f_.s.n) then
   some true
  else
   (Qs f_.s).bind fun v3 =>
   if ¬ ((f_.ar.length:Int)=v3) then
    some true
   else
    (Q1C f_.ob f_.t.n).bind fun v5 =>
    if ¬ (v5=true) then
     some true
    else
     (Qs f_.t).bind fun v7 =>
     (Q1C f_.ar v7).bind fun v8 =>
     some (!v8):Option (Bool)).bind fun b1 =>
 if b1=true then
  some false
 else
  (QE (σ:=Int) (ε:=Unit ⊕ Bool) (fun s23 =>
   if s23<(f_.ar.length:Int) then
    ass (0≤s23∧s23<(f_.ar.length:Int)) <|
    (
     ass (0≤ix f_.ar s23∧ix f_.ar s23<(f_.t.fr.length:Int)) <|
     ass (0≤s23∧s23<(f_.s.fr.length:Int)) <|
     ass (0≤ix f_.s.fr s23∧ix f_.s.fr s23<(f_.ob.length:Int)) <|
     if ¬ ((ix f_.t.fr (ix f_.ar s23))=(ix f_.ob (ix f_.s.fr s23))) then
      some true
     else
      ass (0≤ix f_.ar s23∧ix f_.ar s23<(f_.t.to.length:Int)) <|
      ass (0≤s23∧s23<(f_.s.to.length:Int)) <|
      ass (0≤ix f_.s.to s23∧ix f_.s.to s23<(f_.ob.length:Int)) <|
      some ((ix f_.t.to (ix f_.ar s23)) != (ix f_.ob (ix f_.s.to s23))):Option (Bool)).bind fun b26 =>
    if b26=true then
     some (Ctl.ret (Sum.inr false))
    else
     ass (B64 (s23+1)) <|
     some (Ctl.next (s23+1))
   else
    some (Ctl.ret (Sum.inl ()))) fuel 0).bind fun e10 =>
  match e10 with
  | .inl b10 =>
   (QE (σ:=Int) (ε:=Unit ⊕ Bool) (fun s44 =>
    if s44<(f_.s.id.length:Int) then
     ass (0≤s44∧s44<(f_.s.id.length:Int)) <|
     ass (0≤ix f_.s.id s44∧ix f_.s.id s44<(f_.ar.length:Int)) <|
     ass (0≤s44∧s44<(f_.ob.length:Int)) <|
     ass (0≤ix f_.ob s44∧ix f_.ob s44<(f_.t.id.length:Int)) <|
     if ¬ ((ix f_.ar (ix f_.s.id s44))=(ix f_.t.id (ix f_.ob s44))) then
      some (Ctl.ret (Sum.inr false))
     else
      ass (B64 (s44+1)) <|
      some (Ctl.next (s44+1))
    else
     some (Ctl.ret (Sum.inl ()))) fuel 0).bind fun e36 =>
   match e36 with
   | .inl b36 =>
    (QE (σ:=Int) (ε:=Unit ⊕ Bool) (fun s78 =>
     if s78<(f_.s.cs.length:Int) then
      (
       ass (0≤s78∧s78<(f_.s.cs.length:Int)) <|
       (QE (σ:=Int) (ε:=Bool ⊕ Unit) (fun s92 =>
        if s92<((rx f_.s.cs s78).length:Int) then
         ass (0≤s92∧s92<((rx f_.s.cs s78).length:Int)) <|
         (
          if (ix (rx f_.s.cs s78) s92) ≥ 0 then
           ass (0≤ix (rx f_.s.cs s78) s92∧ix (rx f_.s.cs s78) s92<(f_.ar.length:Int)) <|
           ass (0≤s78∧s78<(f_.ar.length:Int)) <|
           ass (0≤s92∧s92<(f_.ar.length:Int)) <|
           (Qn f_.t (ix f_.ar s78) (ix f_.ar s92)).bind fun v100 =>
           some ((ix f_.ar (ix (rx f_.s.cs s78) s92)) != v100)
          else
           some false:Option (Bool)).bind fun b95 =>
         if b95=true then
          some (Ctl.ret (Sum.inl false))
         else
          ass (B64 (s92+1)) <|
          some (Ctl.next (s92+1))
        else
         some (Ctl.ret (Sum.inr ()))) fuel 0).bind fun e92 =>
       match e92 with
       | .inl p92 =>
        some (Sum.inr p92)
       | .inr p92 =>
        some (Sum.inl p92):Option (Unit ⊕ Bool)).bind fun e80 =>
      match e80 with
      | .inl b80 =>
       ass (B64 (s78+1)) <|
       some (Ctl.next (s78+1))
      | .inr p80 =>
       some (Ctl.ret (Sum.inr p80))
     else
      some (Ctl.ret (Sum.inl ()))) fuel 0).bind fun e52 =>
    match e52 with
    | .inl b52 =>
     some true
    | .inr p52 =>
     some p52
   | .inr p36 =>
    some p36
  | .inr p10 =>
   some p10
theorem Q5r (f_:Fn) (r:Bool) (h:Q1x f_=some r):Contract Tryz.prog 142 [.rptr (f_.cells true)] (.val (.bool r)):=by
 refine Qf (rvs:=[.tmp 2]) (rs:=[.val (.bool r)]) Tryz.func142 rfl rfl rfl rfl (by simp [Tryz.f142]) fun F hN hP=>?_;unfold Q1x at h;refine Q5 ?_;refine runQ hN fun K hK=>?_;simp [-Q0,-Q7,-Q1,-Q8,-Q2];repeat refine sdQ ?_
 refine hK _ ?_;clear hK K;refine tn ?_;refine Q9 (st':=⟨[(0,.rptr (Fn.cells true f_))],[],0⟩) (wkQ8 []) ?_;refine Q5 ?_;refine runQ hN fun K hK=>?_;simp [-Q0,-Q7,-Q1,-Q8,-Q2];repeat refine sdQ ?_
 refine hK _ ?_;clear hK K;refine tn ?_;refine Q9 (st':=⟨[(0,.rptr (Fn.cells true f_)),(3,.rptr (Fn.cells true f_)),(4,.rptr [iV f_.t.n,lI f_.t.fr,lI f_.t.to,lI f_.t.id,.lst true 1 (Ls f_.t.cs),lI f_.ob,lI f_.ar])],[],0⟩) (wkQ8 []) ?_;refine Q5 ?_;refine Q5 ?_;replace h:=bind_some h;obtain ⟨e1,h,h1⟩:=h;refine Qj (fun b1:Bool=>⟨[(0,.rptr (Fn.cells true f_)),(3,.rptr (Fn.cells true f_)),(4,.rptr [iV f_.t.n,lI f_.t.fr,lI f_.t.to,lI f_.t.id,.lst true 1 (Ls f_.t.cs),lI f_.ob,lI f_.ar]),(60,.val (.bool b1))],[],0⟩) (fun b1=>b1=e1) ?_ ?_
 ·refine runQ hN fun K hK=>?_;simp [-Q0,-Q7,-Q1,-Q8,-Q2];repeat with_reducible refine sdQ ?_
  refine Qq (fun g=>?_) (fun g=>?_)
  ·have g2:¬ (¬ ((f_.ob.length:Int)=f_.s.n)):=gQ;clear g;replace h:=if_r g2 h;simp [-Q0,-Q7,-Q1,-Q8,-Q2];(repeat with_reducible refine sdQ ?_);replace h:=bind_some h;obtain ⟨v3,hv3,h⟩:=h;refine Q3 (Q1b _ v3 hv3) (.cons (.preT (by simp [Cat.cells,Fn.cells])) .nil) ?_;simp [-Q0,-Q7,-Q1,-Q8,-Q2,unk,unA,unE,unT,unC,flat];(repeat with_reducible refine sdQ ?_);refine Qq (fun g=>?_) (fun g=>?_)
   ·have g4:¬ (¬ ((f_.ar.length:Int)=v3)):=gQ;clear g;replace h:=if_r g4 h;simp [-Q0,-Q7,-Q1,-Q8,-Q2];(repeat with_reducible refine sdQ ?_);replace h:=bind_some h;obtain ⟨v5,hv5,h⟩:=h;refine Q3 (Q55 _ _ v5 hv5) (.cons .lst (.cons .val .nil)) ?_;simp [-Q0,-Q7,-Q1,-Q8,-Q2,unk,unA,unE,unT,unC,flat];(repeat with_reducible refine sdQ ?_);refine Qq (fun g=>?_) (fun g=>?_)
    ·have g6:¬ (¬ (v5=true)):=gQ;clear g;replace h:=if_r g6 h;simp [-Q0,-Q7,-Q1,-Q8,-Q2];(repeat with_reducible refine sdQ ?_);replace h:=bind_some h;obtain ⟨v7,hv7,h⟩:=h;refine Q3 (Q1b _ v7 hv7) (.cons (.preT (by simp [Cat.cells,Fn.cells])) .nil) ?_;simp [-Q0,-Q7,-Q1,-Q8,-Q2,unk,unA,unE,unT,unC,flat];(repeat with_reducible refine sdQ ?_);replace h:=bind_some h;obtain ⟨v8,hv8,h⟩:=h;refine Q3 (Q55 _ _ v8 hv8) (.cons .lst (.cons .val .nil)) ?_;simp [-Q0,-Q7,-Q1,-Q8,-Q2,unk,unA,unE,unT,unC,flat];(repeat refine sdQ ?_);refine hK _ ?_;exact jn (b:=!v8) (Option.some.inj h) (wkQ8 [])
    have g6:¬ (v5=true):=gQ;clear g;replace h:=if_l g6 h;simp [-Q0,-Q7,-Q1,-Q8,-Q2];(repeat refine sdQ ?_);refine hK _ ?_;exact jn (b:=true) (Option.some.inj h) (wkQ8 [])
   have g4:¬ ((f_.ar.length:Int)=v3):=gQ;clear g;replace h:=if_l g4 h;simp [-Q0,-Q7,-Q1,-Q8,-Q2];(repeat refine sdQ ?_);refine hK _ ?_;exact jn (b:=true) (Option.some.inj h) (wkQ8 [])
  have g2:¬ ((f_.ob.length:Int)=f_.s.n):=gQ;clear g;replace h:=if_l g2 h;simp [-Q0,-Q7,-Q1,-Q8,-Q2];repeat refine sdQ ?_
  refine hK _ ?_;exact jn (b:=true) (Option.some.inj h) (wkQ8 [])
 intro b1 hb1;have h:=h1;try rw [← hb1] at h
 clear h1;try dsimp only at h
 refine Qd rfl (fun g=>?_) fun g=>?_
 ·have g9:b1=true:=gQ;clear g;replace h:=if_l g9 h;refine Q5 ?_;refine runQ hN fun K hK=>?_;simp [-Q0,-Q7,-Q1,-Q8,-Q2];repeat refine sdQ ?_
  refine hK _ ?_;clear hK K;refine tn ?_;refine Q9 (st':=⟨[(2,.val (.bool false))],[],0⟩) (wkQ8 []) ?_;refine Qi ?_;refine tr ?_;have hr:=Option.some.inj h;rw [← hr];refine ⟨_,(.tmp .nil),?_⟩;refine ⟨(.one rfl rfl .nil),[.val (.bool false)],[],by simp [Cat.cells,Fn.cells,UA,U1,IA,I1,LA,L1,BA,B1,EA,E1,E2,eB,eI,eL],by simp,(UpL.refl _)⟩
 have g9:¬ (b1=true):=gQ;clear g;replace h:=if_r g9 h;refine Qe ?_;refine tn ?_;refine Q5 ?_;refine Q5 ?_;refine runQ hN fun K hK=>?_;simp [-Q0,-Q7,-Q1,-Q8,-Q2];repeat refine sdQ ?_
 refine hK _ ?_;clear hK K;refine tn ?_;refine Q9 (st':=⟨[(0,.rptr (Fn.cells true f_)),(3,.rptr (Fn.cells true f_)),(4,.rptr [iV f_.t.n,lI f_.t.fr,lI f_.t.to,lI f_.t.id,.lst true 1 (Ls f_.t.cs),lI f_.ob,lI f_.ar]),(64,lI f_.ar),(65,iV (f_.ar.length:Int)),(66,iV 0)],[],0⟩) (wkQ8 []) ?_;replace h:=bind_some h;obtain ⟨e10,h,h10⟩:=h;refine Qj (fun b10:Unit=>⟨[(0,.rptr (Fn.cells true f_)),(3,.rptr (Fn.cells true f_)),(4,.rptr [iV f_.t.n,lI f_.t.fr,lI f_.t.to,lI f_.t.id,.lst true 1 (Ls f_.t.cs),lI f_.ob,lI f_.ar])],[],0⟩) (fun b10=>Sum.inl b10=e10) ?_ ?_
 ·refine Qc ?_;refine Qz h (fun s23:Int=>⟨[(0,.rptr (Fn.cells true f_)),(3,.rptr (Fn.cells true f_)),(4,.rptr [iV f_.t.n,lI f_.t.fr,lI f_.t.to,lI f_.t.id,.lst true 1 (Ls f_.t.cs),lI f_.ob,lI f_.ar]),(64,lI f_.ar),(65,iV (f_.ar.length:Int)),(66,iV s23)],[],0⟩) (wkQ8 []) ?_;clear h;intro k23 s23 c23 h hk23;refine Q5 ?_;refine runQ hN fun K hK=>?_;simp [-Q0,-Q7,-Q1,-Q8,-Q2];repeat refine sdQ ?_
  refine hK _ ?_;clear hK K;refine tn ?_;refine Q9 (st':=⟨[(0,.rptr (Fn.cells true f_)),(3,.rptr (Fn.cells true f_)),(4,.rptr [iV f_.t.n,lI f_.t.fr,lI f_.t.to,lI f_.t.id,.lst true 1 (Ls f_.t.cs),lI f_.ob,lI f_.ar]),(64,lI f_.ar),(65,iV (f_.ar.length:Int)),(66,iV s23),(67,.val (.bool (decide (s23<(f_.ar.length:Int)))))],[],0⟩) (wkQ8 []) ?_;refine Q5 ?_;refine Qd rfl (fun g=>?_) fun g=>?_
  ·have g24:s23<(f_.ar.length:Int):=gQ;clear g;replace h:=if_l g24 h;refine Qe ?_;refine tn ?_;refine Q5 ?_;refine Qc ?_;refine Q5 ?_;refine runQ hN fun K hK=>?_;replace h:=Q6 h;obtain ⟨a25,h⟩:=h;simp [-Q0,-Q7,-Q1,-Q8,-Q2,at_I a25];(repeat refine sdQ ?_);refine hK _ ?_;clear hK K;refine tn ?_;refine Q9 (st':=⟨[(0,.rptr (Fn.cells true f_)),(3,.rptr (Fn.cells true f_)),(4,.rptr [iV f_.t.n,lI f_.t.fr,lI f_.t.to,lI f_.t.id,.lst true 1 (Ls f_.t.cs),lI f_.ob,lI f_.ar]),(5,iV s23),(6,iV (ix f_.ar s23)),(64,lI f_.ar),(65,iV (f_.ar.length:Int)),(66,iV s23)],[],0⟩) (wkQ8 []) ?_;refine Q5 ?_;replace h:=bind_some h;obtain ⟨e26,h,h26⟩:=h;refine Qj (fun b26:Bool=>⟨[(0,.rptr (Fn.cells true f_)),(3,.rptr (Fn.cells true f_)),(4,.rptr [iV f_.t.n,lI f_.t.fr,lI f_.t.to,lI f_.t.id,.lst true 1 (Ls f_.t.cs),lI f_.ob,lI f_.ar]),(64,lI f_.ar),(65,iV (f_.ar.length:Int)),(66,iV s23),(114,.val (.bool b26))],[],0⟩) (fun b26=>b26=e26) ?_ ?_
   ·refine runQ hN fun K hK=>?_;replace h:=Q6 h;obtain ⟨a27,h⟩:=h;replace h:=Q6 h;obtain ⟨a28,h⟩:=h;replace h:=Q6 h;obtain ⟨a29,h⟩:=h;simp [-Q0,-Q7,-Q1,-Q8,-Q2,at_I a27,at_I a28,at_I a29];(repeat with_reducible refine sdQ ?_);refine Qq (fun g=>?_) (fun g=>?_)
    ·have g30:¬ (¬ ((ix f_.t.fr (ix f_.ar s23))=(ix f_.ob (ix f_.s.fr s23)))):=gQ;clear g;replace h:=if_r g30 h;replace h:=Q6 h;obtain ⟨a31,h⟩:=h;replace h:=Q6 h;obtain ⟨a32,h⟩:=h;replace h:=Q6 h;obtain ⟨a33,h⟩:=h;simp [-Q0,-Q7,-Q1,-Q8,-Q2,at_I a27,at_I a28,at_I a29,at_I a31,at_I a32,at_I a33];(repeat refine sdQ ?_);refine hK _ ?_;exact jn (b:=(ix f_.t.to (ix f_.ar s23)) != (ix f_.ob (ix f_.s.to s23))) (Option.some.inj h) (wkQ8 [])
    have g30:¬ ((ix f_.t.fr (ix f_.ar s23))=(ix f_.ob (ix f_.s.fr s23))):=gQ;clear g;replace h:=if_l g30 h;simp [-Q0,-Q7,-Q1,-Q8,-Q2,at_I a27,at_I a28,at_I a29];(repeat refine sdQ ?_);refine hK _ ?_;exact jn (b:=true) (Option.some.inj h) (wkQ8 [])
   intro b26 hb26;have h:=h26;(try rw [← hb26] at h);clear h26;(try dsimp only at h);refine Qd rfl (fun g=>?_) fun g=>?_
   ·have g34:b26=true:=gQ;clear g;replace h:=if_l g34 h;refine Q5 ?_;refine runQ hN fun K hK=>?_;simp [-Q0,-Q7,-Q1,-Q8,-Q2];(repeat refine sdQ ?_);refine hK _ ?_;clear hK K;refine tn ?_;refine Q9 (st':=⟨[(2,.val (.bool false))],[],0⟩) (wkQ8 []) ?_;refine Qi ?_;refine br ?_;refine tr ?_;refine lr ?_;refine br ?_;refine tr ?_;cases h;have q:_=e10:=hk23;have h:=h10;rw [← q] at h;clear q;(try dsimp only at h);have hr:=Option.some.inj h;rw [← hr];refine ⟨_,(.tmp .nil),?_⟩;refine ⟨(.one rfl rfl .nil),[.val (.bool false)],[],by simp [Cat.cells,Fn.cells,UA,U1,IA,I1,LA,L1,BA,B1,EA,E1,E2,eB,eI,eL],by simp,(UpL.refl _)⟩
   have g34:¬ (b26=true):=gQ;clear g;replace h:=if_r g34 h;refine Qe ?_;refine bn ?_;refine tn ?_;refine runQ hN fun K hK=>?_;replace h:=Q6 h;obtain ⟨a35,h⟩:=h;simp [-Q0,-Q7,-Q1,-Q8,-Q2,Qu a35];(repeat refine sdQ ?_);refine hK _ ?_;clear hK K;cases h;exact rn (s':=s23+1) hk23 (wkQ8 [])
  have g24:¬ (s23<(f_.ar.length:Int)):=gQ;clear g;replace h:=if_r g24 h;refine Qp ?_;refine tx ?_;refine lx ?_;refine bh ?_;cases h;exact jn (b:=()) hk23 (wkQ8 [])
 intro b10 hb10;have h:=h10;try rw [← hb10] at h
 clear h10;try dsimp only at h
 refine Q5 ?_;refine Q5 ?_;refine runQ hN fun K hK=>?_;simp [-Q0,-Q7,-Q1,-Q8,-Q2];repeat refine sdQ ?_
 refine hK _ ?_;clear hK K;refine tn ?_;refine Q9 (st':=⟨[(0,.rptr (Fn.cells true f_)),(3,.rptr (Fn.cells true f_)),(4,.rptr [iV f_.t.n,lI f_.t.fr,lI f_.t.to,lI f_.t.id,.lst true 1 (Ls f_.t.cs),lI f_.ob,lI f_.ar]),(119,lI f_.s.id),(120,iV (f_.s.id.length:Int)),(121,iV 0)],[],0⟩) (wkQ8 []) ?_;replace h:=bind_some h;obtain ⟨e36,h,h36⟩:=h;refine Qj (fun b36:Unit=>⟨[(0,.rptr (Fn.cells true f_)),(3,.rptr (Fn.cells true f_)),(4,.rptr [iV f_.t.n,lI f_.t.fr,lI f_.t.to,lI f_.t.id,.lst true 1 (Ls f_.t.cs),lI f_.ob,lI f_.ar])],[],0⟩) (fun b36=>Sum.inl b36=e36) ?_ ?_
 ·refine Qc ?_;refine Qz h (fun s44:Int=>⟨[(0,.rptr (Fn.cells true f_)),(3,.rptr (Fn.cells true f_)),(4,.rptr [iV f_.t.n,lI f_.t.fr,lI f_.t.to,lI f_.t.id,.lst true 1 (Ls f_.t.cs),lI f_.ob,lI f_.ar]),(119,lI f_.s.id),(120,iV (f_.s.id.length:Int)),(121,iV s44)],[],0⟩) (wkQ8 []) ?_;clear h;intro k44 s44 c44 h hk44;refine Q5 ?_;refine runQ hN fun K hK=>?_;simp [-Q0,-Q7,-Q1,-Q8,-Q2];repeat refine sdQ ?_
  refine hK _ ?_;clear hK K;refine tn ?_;refine Q9 (st':=⟨[(0,.rptr (Fn.cells true f_)),(3,.rptr (Fn.cells true f_)),(4,.rptr [iV f_.t.n,lI f_.t.fr,lI f_.t.to,lI f_.t.id,.lst true 1 (Ls f_.t.cs),lI f_.ob,lI f_.ar]),(119,lI f_.s.id),(120,iV (f_.s.id.length:Int)),(121,iV s44),(122,.val (.bool (decide (s44<(f_.s.id.length:Int)))))],[],0⟩) (wkQ8 []) ?_;refine Q5 ?_;refine Qd rfl (fun g=>?_) fun g=>?_
  ·have g45:s44<(f_.s.id.length:Int):=gQ;clear g;replace h:=if_l g45 h;refine Qe ?_;refine tn ?_;refine Q5 ?_;refine Qc ?_;refine Q5 ?_;refine runQ hN fun K hK=>?_;replace h:=Q6 h;obtain ⟨a46,h⟩:=h;simp [-Q0,-Q7,-Q1,-Q8,-Q2,at_I a46];(repeat refine sdQ ?_);refine hK _ ?_;clear hK K;refine tn ?_;refine Q9 (st':=⟨[(0,.rptr (Fn.cells true f_)),(3,.rptr (Fn.cells true f_)),(4,.rptr [iV f_.t.n,lI f_.t.fr,lI f_.t.to,lI f_.t.id,.lst true 1 (Ls f_.t.cs),lI f_.ob,lI f_.ar]),(7,iV s44),(8,iV (ix f_.s.id s44)),(119,lI f_.s.id),(120,iV (f_.s.id.length:Int)),(121,iV s44)],[],0⟩) (wkQ8 []) ?_;refine Q5 ?_;refine runQ hN fun K hK=>?_;replace h:=Q6 h;obtain ⟨a47,h⟩:=h;replace h:=Q6 h;obtain ⟨a48,h⟩:=h;replace h:=Q6 h;obtain ⟨a49,h⟩:=h;simp [-Q0,-Q7,-Q1,-Q8,-Q2,at_I a47,at_I a48,at_I a49];(repeat refine sdQ ?_);refine hK _ ?_;clear hK K;refine tn ?_;refine Q9 (st':=⟨[(0,.rptr (Fn.cells true f_)),(3,.rptr (Fn.cells true f_)),(4,.rptr [iV f_.t.n,lI f_.t.fr,lI f_.t.to,lI f_.t.id,.lst true 1 (Ls f_.t.cs),lI f_.ob,lI f_.ar]),(119,lI f_.s.id),(120,iV (f_.s.id.length:Int)),(121,iV s44),(146,.val (.bool ((ix f_.ar (ix f_.s.id s44)) != (ix f_.t.id (ix f_.ob s44)))))],[],0⟩) (wkQ8 []) ?_;refine Qd rfl (fun g=>?_) fun g=>?_
   ·have g50:¬ ((ix f_.ar (ix f_.s.id s44))=(ix f_.t.id (ix f_.ob s44))):=gQ;clear g;replace h:=if_l g50 h;refine Q5 ?_;refine runQ hN fun K hK=>?_;simp [-Q0,-Q7,-Q1,-Q8,-Q2];(repeat refine sdQ ?_);refine hK _ ?_;clear hK K;refine tn ?_;refine Q9 (st':=⟨[(2,.val (.bool false))],[],0⟩) (wkQ8 []) ?_;refine Qi ?_;refine br ?_;refine tr ?_;refine lr ?_;refine br ?_;refine tr ?_;cases h;have q:_=e36:=hk44;have h:=h36;rw [← q] at h;clear q;(try dsimp only at h);have hr:=Option.some.inj h;rw [← hr];refine ⟨_,(.tmp .nil),?_⟩;refine ⟨(.one rfl rfl .nil),[.val (.bool false)],[],by simp [Cat.cells,Fn.cells,UA,U1,IA,I1,LA,L1,BA,B1,EA,E1,E2,eB,eI,eL],by simp,(UpL.refl _)⟩
   have g50:¬ (¬ ((ix f_.ar (ix f_.s.id s44))=(ix f_.t.id (ix f_.ob s44)))):=gQ;clear g;replace h:=if_r g50 h;refine Qe ?_;refine bn ?_;refine tn ?_;refine runQ hN fun K hK=>?_;replace h:=Q6 h;obtain ⟨a51,h⟩:=h;simp [-Q0,-Q7,-Q1,-Q8,-Q2,Qu a51];(repeat refine sdQ ?_);refine hK _ ?_;clear hK K;cases h;exact rn (s':=s44+1) hk44 (wkQ8 [])
  have g45:¬ (s44<(f_.s.id.length:Int)):=gQ;clear g;replace h:=if_r g45 h;refine Qp ?_;refine tx ?_;refine lx ?_;refine bh ?_;cases h;exact jn (b:=()) hk44 (wkQ8 [])
 intro b36 hb36;have h:=h36;try rw [← hb36] at h
 clear h36;try dsimp only at h
 refine Q5 ?_;refine Q5 ?_;refine runQ hN fun K hK=>?_;simp [-Q0,-Q7,-Q1,-Q8,-Q2];repeat refine sdQ ?_
 refine hK _ ?_;clear hK K;refine tn ?_;refine Q9 (st':=⟨[(0,.rptr (Fn.cells true f_)),(4,.rptr [iV f_.t.n,lI f_.t.fr,lI f_.t.to,lI f_.t.id,.lst true 1 (Ls f_.t.cs),lI f_.ob,lI f_.ar]),(151,.lst true 1 (Ls f_.s.cs)),(152,iV (f_.s.cs.length:Int)),(153,iV 0)],[],0⟩) (wkQ8 []) ?_;replace h:=bind_some h;obtain ⟨e52,h,h52⟩:=h;refine Qj (fun b52:Unit=>⟨[],[],0⟩) (fun b52=>Sum.inl b52=e52) ?_ ?_
 ·refine Qc ?_;refine Qz h (fun s78:Int=>⟨[(0,.rptr (Fn.cells true f_)),(4,.rptr [iV f_.t.n,lI f_.t.fr,lI f_.t.to,lI f_.t.id,.lst true 1 (Ls f_.t.cs),lI f_.ob,lI f_.ar]),(151,.lst true 1 (Ls f_.s.cs)),(152,iV (f_.s.cs.length:Int)),(153,iV s78)],[],0⟩) (wkQ8 []) ?_;clear h;intro k78 s78 c78 h hk78;refine Q5 ?_;refine runQ hN fun K hK=>?_;simp [-Q0,-Q7,-Q1,-Q8,-Q2];repeat refine sdQ ?_
  refine hK _ ?_;clear hK K;refine tn ?_;refine Q9 (st':=⟨[(0,.rptr (Fn.cells true f_)),(4,.rptr [iV f_.t.n,lI f_.t.fr,lI f_.t.to,lI f_.t.id,.lst true 1 (Ls f_.t.cs),lI f_.ob,lI f_.ar]),(151,.lst true 1 (Ls f_.s.cs)),(152,iV (f_.s.cs.length:Int)),(153,iV s78),(154,.val (.bool (decide (s78<(f_.s.cs.length:Int)))))],[],0⟩) (wkQ8 []) ?_;refine Q5 ?_;refine Qd rfl (fun g=>?_) fun g=>?_
  ·have g79:s78<(f_.s.cs.length:Int):=gQ;clear g;replace h:=if_l g79 h;refine Qe ?_;refine tn ?_;refine Q5 ?_;replace h:=bind_some h;obtain ⟨e80,h,h80⟩:=h;refine Qj (fun b80:Unit=>⟨[(0,.rptr (Fn.cells true f_)),(4,.rptr [iV f_.t.n,lI f_.t.fr,lI f_.t.to,lI f_.t.id,.lst true 1 (Ls f_.t.cs),lI f_.ob,lI f_.ar]),(151,.lst true 1 (Ls f_.s.cs)),(152,iV (f_.s.cs.length:Int)),(153,iV s78)],[],0⟩) (fun b80=>Sum.inl b80=e80) ?_ ?_
   ·refine Qc ?_;refine Q5 ?_;refine runQ hN fun K hK=>?_;replace h:=Q6 h;obtain ⟨a81,h⟩:=h;simp [-Q0,-Q7,-Q1,-Q8,-Q2,at_L a81];(repeat refine sdQ ?_);refine hK _ ?_;clear hK K;refine tn ?_;refine Q9 (st':=⟨[(0,.rptr (Fn.cells true f_)),(4,.rptr [iV f_.t.n,lI f_.t.fr,lI f_.t.to,lI f_.t.id,.lst true 1 (Ls f_.t.cs),lI f_.ob,lI f_.ar]),(9,iV s78),(10,lI (rx f_.s.cs s78)),(151,.lst true 1 (Ls f_.s.cs)),(152,iV (f_.s.cs.length:Int)),(153,iV s78)],[],0⟩) (wkQ8 []) ?_;refine Q5 ?_;refine runQ hN fun K hK=>?_;simp [-Q0,-Q7,-Q1,-Q8,-Q2];(repeat refine sdQ ?_);refine hK _ ?_;clear hK K;refine tn ?_;refine Q9 (st':=⟨[(0,.rptr (Fn.cells true f_)),(4,.rptr [iV f_.t.n,lI f_.t.fr,lI f_.t.to,lI f_.t.id,.lst true 1 (Ls f_.t.cs),lI f_.ob,lI f_.ar]),(9,iV s78),(151,.lst true 1 (Ls f_.s.cs)),(152,iV (f_.s.cs.length:Int)),(153,iV s78),(158,lI (rx f_.s.cs s78)),(159,iV ((rx f_.s.cs s78).length:Int)),(160,iV 0)],[],0⟩) (wkQ8 []) ?_;refine Qc ?_;replace h:=bind_some h;obtain ⟨e92,he92,h92⟩:=h;refine Qz he92 (fun s92:Int=>⟨[(0,.rptr (Fn.cells true f_)),(4,.rptr [iV f_.t.n,lI f_.t.fr,lI f_.t.to,lI f_.t.id,.lst true 1 (Ls f_.t.cs),lI f_.ob,lI f_.ar]),(9,iV s78),(151,.lst true 1 (Ls f_.s.cs)),(152,iV (f_.s.cs.length:Int)),(153,iV s78),(158,lI (rx f_.s.cs s78)),(159,iV ((rx f_.s.cs s78).length:Int)),(160,iV s92)],[],0⟩) (wkQ8 []) ?_;intro k92 s92 c92 h hk92;refine Q5 ?_;refine runQ hN fun K hK=>?_;simp [-Q0,-Q7,-Q1,-Q8,-Q2];(repeat refine sdQ ?_);refine hK _ ?_;clear hK K;refine tn ?_;refine Q9 (st':=⟨[(0,.rptr (Fn.cells true f_)),(4,.rptr [iV f_.t.n,lI f_.t.fr,lI f_.t.to,lI f_.t.id,.lst true 1 (Ls f_.t.cs),lI f_.ob,lI f_.ar]),(9,iV s78),(151,.lst true 1 (Ls f_.s.cs)),(152,iV (f_.s.cs.length:Int)),(153,iV s78),(158,lI (rx f_.s.cs s78)),(159,iV ((rx f_.s.cs s78).length:Int)),(160,iV s92),(161,.val (.bool (decide (s92<((rx f_.s.cs s78).length:Int)))))],[],0⟩) (wkQ8 []) ?_;refine Q5 ?_;refine Qd rfl (fun g=>?_) fun g=>?_
    ·have g93:s92<((rx f_.s.cs s78).length:Int):=gQ;clear g;replace h:=if_l g93 h;refine Qe ?_;refine tn ?_;refine Q5 ?_;refine Qc ?_;refine Q5 ?_;refine runQ hN fun K hK=>?_;replace h:=Q6 h;obtain ⟨a94,h⟩:=h;simp [-Q0,-Q7,-Q1,-Q8,-Q2,at_I a94];(repeat refine sdQ ?_);refine hK _ ?_;clear hK K;refine tn ?_;refine Q9 (st':=⟨[(0,.rptr (Fn.cells true f_)),(4,.rptr [iV f_.t.n,lI f_.t.fr,lI f_.t.to,lI f_.t.id,.lst true 1 (Ls f_.t.cs),lI f_.ob,lI f_.ar]),(9,iV s78),(11,iV s92),(12,iV (ix (rx f_.s.cs s78) s92)),(151,.lst true 1 (Ls f_.s.cs)),(152,iV (f_.s.cs.length:Int)),(153,iV s78),(158,lI (rx f_.s.cs s78)),(159,iV ((rx f_.s.cs s78).length:Int)),(160,iV s92)],[],0⟩) (wkQ8 []) ?_;refine Q5 ?_;replace h:=bind_some h;obtain ⟨e95,h,h95⟩:=h;refine Qj (fun b95:Bool=>⟨[(0,.rptr (Fn.cells true f_)),(4,.rptr [iV f_.t.n,lI f_.t.fr,lI f_.t.to,lI f_.t.id,.lst true 1 (Ls f_.t.cs),lI f_.ob,lI f_.ar]),(9,iV s78),(151,.lst true 1 (Ls f_.s.cs)),(152,iV (f_.s.cs.length:Int)),(153,iV s78),(158,lI (rx f_.s.cs s78)),(159,iV ((rx f_.s.cs s78).length:Int)),(160,iV s92),(192,.val (.bool b95))],[],0⟩) (fun b95=>b95=e95) ?_ ?_
     ·refine runQ hN fun K hK=>?_;simp [-Q0,-Q7,-Q1,-Q8,-Q2];(repeat with_reducible refine sdQ ?_);refine Qq (fun g=>?_) (fun g=>?_)
      ·have g96:(ix (rx f_.s.cs s78) s92) ≥ 0:=gQ;clear g;replace h:=if_l g96 h;replace h:=Q6 h;obtain ⟨a97,h⟩:=h;replace h:=Q6 h;obtain ⟨a98,h⟩:=h;replace h:=Q6 h;obtain ⟨a99,h⟩:=h;simp [-Q0,-Q7,-Q1,-Q8,-Q2,at_I a97,at_I a98,at_I a99];(repeat with_reducible refine sdQ ?_);replace h:=bind_some h;obtain ⟨v100,hv100,h⟩:=h;refine Q3 (QB _ _ _ v100 hv100) (.cons (.preT (by simp [Cat.cells,Fn.cells])) (.cons .val (.cons .val .nil))) ?_;simp [-Q0,-Q7,-Q1,-Q8,-Q2,unk,unA,unE,unT,unC,flat,at_I a97,at_I a98,at_I a99];(repeat refine sdQ ?_);refine hK _ ?_;exact jn (b:=(ix f_.ar (ix (rx f_.s.cs s78) s92)) != v100) (Option.some.inj h) (wkQ8 [])
      have g96:¬ ((ix (rx f_.s.cs s78) s92) ≥ 0):=gQ;clear g;replace h:=if_r g96 h;simp [-Q0,-Q7,-Q1,-Q8,-Q2];(repeat refine sdQ ?_);refine hK _ ?_;exact jn (b:=false) (Option.some.inj h) (wkQ8 [])
     intro b95 hb95;have h:=h95;(try rw [← hb95] at h);clear h95;(try dsimp only at h);refine Qd rfl (fun g=>?_) fun g=>?_
     ·have g101:b95=true:=gQ;clear g;replace h:=if_l g101 h;refine Q5 ?_;refine runQ hN fun K hK=>?_;simp [-Q0,-Q7,-Q1,-Q8,-Q2];(repeat refine sdQ ?_);refine hK _ ?_;clear hK K;refine tn ?_;refine Q9 (st':=⟨[(2,.val (.bool false))],[],0⟩) (wkQ8 []) ?_;refine Qi ?_;refine br ?_;refine tr ?_;refine lr ?_;refine br ?_;refine br ?_;refine tr ?_;refine lr ?_;refine br ?_;refine tr ?_;cases h;have q:_=e92:=hk92;have h:=h92;rw [← q] at h;clear q;(try dsimp only at h);cases h;have h:=h80;(try dsimp only at h);cases h;have q:_=e52:=hk78;have h:=h52;rw [← q] at h;clear q;(try dsimp only at h);have hr:=Option.some.inj h;rw [← hr];refine ⟨_,(.tmp .nil),?_⟩;refine ⟨(.one rfl rfl .nil),[.val (.bool false)],[],by simp [Cat.cells,Fn.cells,UA,U1,IA,I1,LA,L1,BA,B1,EA,E1,E2,eB,eI,eL],by simp,(UpL.refl _)⟩
     have g101:¬ (b95=true):=gQ;clear g;replace h:=if_r g101 h;refine Qe ?_;refine bn ?_;refine tn ?_;refine runQ hN fun K hK=>?_;replace h:=Q6 h;obtain ⟨a102,h⟩:=h;simp [-Q0,-Q7,-Q1,-Q8,-Q2,Qu a102];(repeat refine sdQ ?_);refine hK _ ?_;clear hK K;cases h;exact rn (s':=s92+1) hk92 (wkQ8 [])
    have g93:¬ (s92<((rx f_.s.cs s78).length:Int)):=gQ;clear g;replace h:=if_r g93 h;refine Qp ?_;refine tx ?_;refine lx ?_;refine bh ?_;refine bn ?_;cases h;have q:_=e92:=hk92;have h:=h92;rw [← q] at h;clear q;(try dsimp only at h);exact jn (b:=()) (Option.some.inj h) (wkQ8 [])
   intro b80 hb80;have h:=h80;(try rw [← hb80] at h);clear h80;(try dsimp only at h);refine runQ hN fun K hK=>?_;replace h:=Q6 h;obtain ⟨a103,h⟩:=h;simp [-Q0,-Q7,-Q1,-Q8,-Q2,Qu a103];(repeat refine sdQ ?_);refine hK _ ?_;clear hK K;cases h;exact rn (s':=s78+1) hk78 (wkQ8 [])
  have g79:¬ (s78<(f_.s.cs.length:Int)):=gQ;clear g;replace h:=if_r g79 h;refine Qp ?_;refine tx ?_;refine lx ?_;refine bh ?_;cases h;exact jn (b:=()) hk78 (wkQ8 [])
 intro b52 hb52;have h:=h52;try rw [← hb52] at h
 clear h52;try dsimp only at h
 refine Q5 ?_;refine runQ hN fun K hK=>?_;simp [-Q0,-Q7,-Q1,-Q8,-Q2];repeat refine sdQ ?_
 refine hK _ ?_;clear hK K;refine tn ?_;refine Q9 (st':=⟨[(2,.val (.bool true))],[],0⟩) (wkQ8 []) ?_;refine Qi ?_;have hr:=Option.some.inj h;rw [← hr];refine ⟨_,(.tmp .nil),?_⟩;refine ⟨(.one rfl rfl .nil),[.val (.bool true)],[],by simp [Cat.cells,Fn.cells,UA,U1,IA,I1,LA,L1,BA,B1,EA,E1,E2,eB,eI,eL],by simp,(UpL.refl _)⟩
attribute [local simp] eL eI Qo QH Cat.cells
noncomputable def Q1q (list_:List Cat):Option Bool :=
 (QE (σ:=Int) (ε:=Unit ⊕ Bool) (fun s7 =>
  if s7<(list_.length:Int) then
   ass (0≤s7∧s7<(list_.length:Int)) <|
   (QV (gx list_ s7)).bind fun v10 =>
   if ¬ (v10=true) then
    some (Ctl.ret (Sum.inr false))
   else
    ass (B64 (s7+1)) <|
    some (Ctl.next (s7+1))
  else
   some (Ctl.ret (Sum.inl ()))) fuel 0).bind fun e1 =>
 match e1 with
 | .inl b1 =>
  some true
 | .inr p1 =>
  some p1
theorem Q53 (list_:List Cat) (r:Bool) (h:Q1q list_=some r):Contract Tryz.prog 141 [.lst true 1 (Es QH list_)] (.val (.bool r)):=by
 refine Qf (rvs:=[.tmp 2]) (rs:=[.val (.bool r)]) Tryz.func141 rfl rfl rfl rfl (by simp [Tryz.f141]) fun F hN hP=>?_;unfold Q1q at h;refine Q5 ?_;refine runQ hN fun K hK=>?_;simp [-Q0,-Q7,-Q1,-Q8,-Q2];repeat refine sdQ ?_
 refine hK _ ?_;clear hK K;refine tn ?_;refine Q9 (st':=⟨[(0,.lst true 1 (Es QH list_))],[],0⟩) (wkQ8 []) ?_;refine Q5 ?_;refine Q5 ?_;refine runQ hN fun K hK=>?_;simp [-Q0,-Q7,-Q1,-Q8,-Q2];repeat refine sdQ ?_
 refine hK _ ?_;clear hK K;refine tn ?_;refine Q9 (st':=⟨[(5,.lst true 1 (Es QH list_)),(6,iV (list_.length:Int)),(7,iV 0)],[],0⟩) (wkQ8 []) ?_;replace h:=bind_some h;obtain ⟨e1,h,h1⟩:=h;refine Qj (fun b1:Unit=>⟨[],[],0⟩) (fun b1=>Sum.inl b1=e1) ?_ ?_
 ·refine Qc ?_;refine Qz h (fun s7:Int=>⟨[(5,.lst true 1 (Es QH list_)),(6,iV (list_.length:Int)),(7,iV s7)],[],0⟩) (wkQ8 []) ?_;clear h;intro k7 s7 c7 h hk7;refine Q5 ?_;refine runQ hN fun K hK=>?_;simp [-Q0,-Q7,-Q1,-Q8,-Q2];repeat refine sdQ ?_
  refine hK _ ?_;clear hK K;refine tn ?_;refine Q9 (st':=⟨[(5,.lst true 1 (Es QH list_)),(6,iV (list_.length:Int)),(7,iV s7),(8,.val (.bool (decide (s7<(list_.length:Int)))))],[],0⟩) (wkQ8 []) ?_;refine Q5 ?_;refine Qd rfl (fun g=>?_) fun g=>?_
  ·have g8:s7<(list_.length:Int):=gQ;clear g;replace h:=if_l g8 h;refine Qe ?_;refine tn ?_;refine Q5 ?_;refine Qc ?_;refine Q5 ?_;refine runQ hN fun K hK=>?_;replace h:=Q6 h;obtain ⟨a9,h⟩:=h;simp [-Q0,-Q7,-Q1,-Q8,-Q2,at_E (c:=QH) a9];(repeat refine sdQ ?_);refine hK _ ?_;clear hK K;refine tn ?_;refine Q9 (st':=⟨[(4,.rptr (Cat.cells true (gx list_ s7))),(5,.lst true 1 (Es QH list_)),(6,iV (list_.length:Int)),(7,iV s7)],[],0⟩) (wkQ8 []) ?_;refine Q5 ?_;refine runQ hN fun K hK=>?_;simp [-Q0,-Q7,-Q1,-Q8,-Q2];(repeat with_reducible refine sdQ ?_);replace h:=bind_some h;obtain ⟨v10,hv10,h⟩:=h;refine Q3 (Q3B _ v10 hv10) (.cons (.preT (by simp [Cat.cells])) .nil) ?_;simp [-Q0,-Q7,-Q1,-Q8,-Q2,unk,unA,unE,unT,unC,flat];(repeat refine sdQ ?_);refine hK _ ?_;clear hK K;refine tn ?_;refine Q9 (st':=⟨[(5,.lst true 1 (Es QH list_)),(6,iV (list_.length:Int)),(7,iV s7),(13,.val (.bool (!v10)))],[],0⟩) (wkQ8 []) ?_;refine Qd rfl (fun g=>?_) fun g=>?_
   ·have g11:¬ (v10=true):=gQ;clear g;replace h:=if_l g11 h;refine Q5 ?_;refine runQ hN fun K hK=>?_;simp [-Q0,-Q7,-Q1,-Q8,-Q2];(repeat refine sdQ ?_);refine hK _ ?_;clear hK K;refine tn ?_;refine Q9 (st':=⟨[(2,.val (.bool false))],[],0⟩) (wkQ8 []) ?_;refine Qi ?_;refine br ?_;refine tr ?_;refine lr ?_;refine br ?_;refine tr ?_;cases h;have q:_=e1:=hk7;have h:=h1;rw [← q] at h;clear q;(try dsimp only at h);have hr:=Option.some.inj h;rw [← hr];refine ⟨_,(.tmp .nil),?_⟩;refine ⟨(.one rfl rfl .nil),[.val (.bool false)],[],by simp [Cat.cells,UA,U1,IA,I1,LA,L1,BA,B1,EA,E1,E2,eB,eI,eL],by simp,(UpL.refl _)⟩
   have g11:¬ (¬ (v10=true)):=gQ;clear g;replace h:=if_r g11 h;refine Qe ?_;refine bn ?_;refine tn ?_;refine runQ hN fun K hK=>?_;replace h:=Q6 h;obtain ⟨a12,h⟩:=h;simp [-Q0,-Q7,-Q1,-Q8,-Q2,Qu a12];(repeat refine sdQ ?_);refine hK _ ?_;clear hK K;cases h;exact rn (s':=s7+1) hk7 (wkQ8 [])
  have g8:¬ (s7<(list_.length:Int)):=gQ;clear g;replace h:=if_r g8 h;refine Qp ?_;refine tx ?_;refine lx ?_;refine bh ?_;cases h;exact jn (b:=()) hk7 (wkQ8 [])
 intro b1 hb1;have h:=h1;try rw [← hb1] at h
 clear h1;try dsimp only at h
 refine Q5 ?_;refine runQ hN fun K hK=>?_;simp [-Q0,-Q7,-Q1,-Q8,-Q2];repeat refine sdQ ?_
 refine hK _ ?_;clear hK K;refine tn ?_;refine Q9 (st':=⟨[(2,.val (.bool true))],[],0⟩) (wkQ8 []) ?_;refine Qi ?_;have hr:=Option.some.inj h;rw [← hr];refine ⟨_,(.tmp .nil),?_⟩;refine ⟨(.one rfl rfl .nil),[.val (.bool true)],[],by simp [Cat.cells,UA,U1,IA,I1,LA,L1,BA,B1,EA,E1,E2,eB,eI,eL],by simp,(UpL.refl _)⟩
attribute [local simp] eL eI Qo QH Q1N Cat.cells Fn.cells
noncomputable def QR (f_:Fn):Option Bool :=
 (
  (Q1q [f_.s,f_.t]).bind fun v2 =>
  if v2=true then
   (Q1x f_).bind fun v4 =>
   some v4
  else
   some false:Option (Bool)).bind fun b1 =>
 some b1
theorem Q2r (f_:Fn) (r:Bool) (h:QR f_=some r):Contract Tryz.prog 113 [.rptr (f_.cells true)] (.val (.bool r)):=by
 refine Qf (rvs:=[.tmp 2]) (rs:=[.val (.bool r)]) Tryz.func113 rfl rfl rfl rfl (by simp [Tryz.f113]) fun F hN hP=>?_;unfold QR at h;refine Q5 ?_;refine runQ hN fun K hK=>?_;simp [-Q0,-Q7,-Q1,-Q8,-Q2];repeat refine sdQ ?_
 refine hK _ ?_;clear hK K;refine tn ?_;refine Q9 (st':=⟨[(0,.rptr (Fn.cells true f_))],[],0⟩) (wkQ8 []) ?_;refine Q5 ?_;replace h:=bind_some h;obtain ⟨e1,h,h1⟩:=h;refine Qj (fun b1:Bool=>⟨[(2,.val (.bool b1))],[],0⟩) (fun b1=>b1=e1) ?_ ?_
 ·refine runQ hN fun K hK=>?_;simp [-Q0,-Q7,-Q1,-Q8,-Q2];repeat with_reducible refine sdQ ?_
  replace h:=bind_some h;obtain ⟨v2,hv2,h⟩:=h;refine Q3 (Q53 _ v2 hv2) (.cons (.lits (es:=_) rfl (.cons rfl (.cons (.preT (by simp [Cat.cells,Fn.cells])) .nil) (.cons rfl (.cons (.preT (by simp [Cat.cells,Fn.cells])) .nil) .nil)) rfl) .nil) ?_;simp [-Q0,-Q7,-Q1,-Q8,-Q2,unk,unA,unE,unT,unC,flat];repeat with_reducible refine sdQ ?_
  refine Qq (fun g=>?_) (fun g=>?_)
  ·have g3:v2=true:=gQ;clear g;replace h:=if_l g3 h;simp [-Q0,-Q7,-Q1,-Q8,-Q2];(repeat with_reducible refine sdQ ?_);replace h:=bind_some h;obtain ⟨v4,hv4,h⟩:=h;refine Q3 (Q5r _ v4 hv4) (.cons (.preT (by simp [Cat.cells,Fn.cells])) .nil) ?_;simp [-Q0,-Q7,-Q1,-Q8,-Q2,unk,unA,unE,unT,unC,flat];(repeat refine sdQ ?_);refine hK _ ?_;exact jn (b:=v4) (Option.some.inj h) (wkQ8 [])
  have g3:¬ (v2=true):=gQ;clear g;replace h:=if_r g3 h;simp [-Q0,-Q7,-Q1,-Q8,-Q2];repeat refine sdQ ?_
  refine hK _ ?_;exact jn (b:=false) (Option.some.inj h) (wkQ8 [])
 intro b1 hb1;have h:=h1;try rw [← hb1] at h
 clear h1;try dsimp only at h
 refine Qi ?_;have hr:=Option.some.inj h;rw [← hr];refine ⟨_,(.tmp .nil),?_⟩;refine ⟨(.one rfl rfl .nil),[.val (.bool b1)],[],by simp [Cat.cells,Fn.cells,UA,U1,IA,I1,LA,L1,BA,B1,EA,E1,E2,eB,eI,eL],by simp,(UpL.refl _)⟩
attribute [local simp] eL eI Qo Q1N Fn.cells
noncomputable def Q1H (list_:List Fn):Option Bool :=
 (QE (σ:=Int) (ε:=Unit ⊕ Bool) (fun s7 =>
  if s7<(list_.length:Int) then
   ass (0≤s7∧s7<(list_.length:Int)) <|
   (QR (gx list_ s7)).bind fun v10 =>
   if ¬ (v10=true) then
    some (Ctl.ret (Sum.inr false))
   else
    ass (B64 (s7+1)) <|
    some (Ctl.next (s7+1))
  else
   some (Ctl.ret (Sum.inl ()))) fuel 0).bind fun e1 =>
 match e1 with
 | .inl b1 =>
  some true
 | .inr p1 =>
  some p1
theorem Q5Y (list_:List Fn) (r:Bool) (h:Q1H list_=some r):Contract Tryz.prog 127 [.lst true 1 (Es Q1N list_)] (.val (.bool r)):=by
 refine Qf (rvs:=[.tmp 2]) (rs:=[.val (.bool r)]) Tryz.func127 rfl rfl rfl rfl (by simp [Tryz.f127]) fun F hN hP=>?_;unfold Q1H at h;refine Q5 ?_;refine runQ hN fun K hK=>?_;simp [-Q0,-Q7,-Q1,-Q8,-Q2];repeat refine sdQ ?_
 refine hK _ ?_;clear hK K;refine tn ?_;refine Q9 (st':=⟨[(0,.lst true 1 (Es Q1N list_))],[],0⟩) (wkQ8 []) ?_;refine Q5 ?_;refine Q5 ?_;refine runQ hN fun K hK=>?_;simp [-Q0,-Q7,-Q1,-Q8,-Q2];repeat refine sdQ ?_
 refine hK _ ?_;clear hK K;refine tn ?_;refine Q9 (st':=⟨[(5,.lst true 1 (Es Q1N list_)),(6,iV (list_.length:Int)),(7,iV 0)],[],0⟩) (wkQ8 []) ?_;replace h:=bind_some h;obtain ⟨e1,h,h1⟩:=h;refine Qj (fun b1:Unit=>⟨[],[],0⟩) (fun b1=>Sum.inl b1=e1) ?_ ?_
 ·refine Qc ?_;refine Qz h (fun s7:Int=>⟨[(5,.lst true 1 (Es Q1N list_)),(6,iV (list_.length:Int)),(7,iV s7)],[],0⟩) (wkQ8 []) ?_;clear h;intro k7 s7 c7 h hk7;refine Q5 ?_;refine runQ hN fun K hK=>?_;simp [-Q0,-Q7,-Q1,-Q8,-Q2];repeat refine sdQ ?_
  refine hK _ ?_;clear hK K;refine tn ?_;refine Q9 (st':=⟨[(5,.lst true 1 (Es Q1N list_)),(6,iV (list_.length:Int)),(7,iV s7),(8,.val (.bool (decide (s7<(list_.length:Int)))))],[],0⟩) (wkQ8 []) ?_;refine Q5 ?_;refine Qd rfl (fun g=>?_) fun g=>?_
  ·have g8:s7<(list_.length:Int):=gQ;clear g;replace h:=if_l g8 h;refine Qe ?_;refine tn ?_;refine Q5 ?_;refine Qc ?_;refine Q5 ?_;refine runQ hN fun K hK=>?_;replace h:=Q6 h;obtain ⟨a9,h⟩:=h;simp [-Q0,-Q7,-Q1,-Q8,-Q2,at_E (c:=Q1N) a9];(repeat refine sdQ ?_);refine hK _ ?_;clear hK K;refine tn ?_;refine Q9 (st':=⟨[(4,.rptr (Fn.cells true (gx list_ s7))),(5,.lst true 1 (Es Q1N list_)),(6,iV (list_.length:Int)),(7,iV s7)],[],0⟩) (wkQ8 []) ?_;refine Q5 ?_;refine runQ hN fun K hK=>?_;simp [-Q0,-Q7,-Q1,-Q8,-Q2];(repeat with_reducible refine sdQ ?_);replace h:=bind_some h;obtain ⟨v10,hv10,h⟩:=h;refine Q3 (Q2r _ v10 hv10) (.cons (.preT (by simp [Fn.cells])) .nil) ?_;simp [-Q0,-Q7,-Q1,-Q8,-Q2,unk,unA,unE,unT,unC,flat];(repeat refine sdQ ?_);refine hK _ ?_;clear hK K;refine tn ?_;refine Q9 (st':=⟨[(5,.lst true 1 (Es Q1N list_)),(6,iV (list_.length:Int)),(7,iV s7),(13,.val (.bool (!v10)))],[],0⟩) (wkQ8 []) ?_;refine Qd rfl (fun g=>?_) fun g=>?_
   ·have g11:¬ (v10=true):=gQ;clear g;replace h:=if_l g11 h;refine Q5 ?_;refine runQ hN fun K hK=>?_;simp [-Q0,-Q7,-Q1,-Q8,-Q2];(repeat refine sdQ ?_);refine hK _ ?_;clear hK K;refine tn ?_;refine Q9 (st':=⟨[(2,.val (.bool false))],[],0⟩) (wkQ8 []) ?_;refine Qi ?_;refine br ?_;refine tr ?_;refine lr ?_;refine br ?_;refine tr ?_;cases h;have q:_=e1:=hk7;have h:=h1;rw [← q] at h;clear q;(try dsimp only at h);have hr:=Option.some.inj h;rw [← hr];refine ⟨_,(.tmp .nil),?_⟩;refine ⟨(.one rfl rfl .nil),[.val (.bool false)],[],by simp [Fn.cells,UA,U1,IA,I1,LA,L1,BA,B1,EA,E1,E2,eB,eI,eL],by simp,(UpL.refl _)⟩
   have g11:¬ (¬ (v10=true)):=gQ;clear g;replace h:=if_r g11 h;refine Qe ?_;refine bn ?_;refine tn ?_;refine runQ hN fun K hK=>?_;replace h:=Q6 h;obtain ⟨a12,h⟩:=h;simp [-Q0,-Q7,-Q1,-Q8,-Q2,Qu a12];(repeat refine sdQ ?_);refine hK _ ?_;clear hK K;cases h;exact rn (s':=s7+1) hk7 (wkQ8 [])
  have g8:¬ (s7<(list_.length:Int)):=gQ;clear g;replace h:=if_r g8 h;refine Qp ?_;refine tx ?_;refine lx ?_;refine bh ?_;cases h;exact jn (b:=()) hk7 (wkQ8 [])
 intro b1 hb1;have h:=h1;try rw [← hb1] at h
 clear h1;try dsimp only at h
 refine Q5 ?_;refine runQ hN fun K hK=>?_;simp [-Q0,-Q7,-Q1,-Q8,-Q2];repeat refine sdQ ?_
 refine hK _ ?_;clear hK K;refine tn ?_;refine Q9 (st':=⟨[(2,.val (.bool true))],[],0⟩) (wkQ8 []) ?_;refine Qi ?_;have hr:=Option.some.inj h;rw [← hr];refine ⟨_,(.tmp .nil),?_⟩;refine ⟨(.one rfl rfl .nil),[.val (.bool true)],[],by simp [Fn.cells,UA,U1,IA,I1,LA,L1,BA,B1,EA,E1,E2,eB,eI,eL],by simp,(UpL.refl _)⟩
attribute [local simp] eL eI Qo QH Q1N Cat.cells Fn.cells
noncomputable def Q16 (f_:Fn) (g_:Fn):Option Bool :=
 (
  (Q13 f_.s g_.s).bind fun v2 =>
  if v2=true then
   (Q13 f_.t g_.t).bind fun v4 =>
   some v4
  else
   some false:Option (Bool)).bind fun b1 =>
 some b1
theorem Q4c (f_:Fn) (g_:Fn) (r:Bool) (h:Q16 f_ g_=some r):Contract Tryz.prog 148 [.rptr (f_.cells true),.rptr (g_.cells true)] (.val (.bool r)):=by
 refine Qf (rvs:=[.tmp 4]) (rs:=[.val (.bool r)]) Tryz.func148 rfl rfl rfl rfl (by simp [Tryz.f148]) fun F hN hP=>?_;unfold Q16 at h;refine Q5 ?_;refine runQ hN fun K hK=>?_;simp [-Q0,-Q7,-Q1,-Q8,-Q2];repeat refine sdQ ?_
 refine hK _ ?_;clear hK K;refine tn ?_;refine Q9 (st':=⟨[(0,.rptr (Fn.cells true f_)),(1,.rptr (Fn.cells true g_))],[],0⟩) (wkQ8 []) ?_;refine Q5 ?_;replace h:=bind_some h;obtain ⟨e1,h,h1⟩:=h;refine Qj (fun b1:Bool=>⟨[(4,.val (.bool b1))],[],0⟩) (fun b1=>b1=e1) ?_ ?_
 ·refine runQ hN fun K hK=>?_;simp [-Q0,-Q7,-Q1,-Q8,-Q2];repeat with_reducible refine sdQ ?_
  replace h:=bind_some h;obtain ⟨v2,hv2,h⟩:=h;refine Q3 (Q2w _ _ v2 hv2) (.cons (.preT (by simp [Cat.cells,Fn.cells])) (.cons (.preT (by simp [Cat.cells,Fn.cells])) .nil)) ?_;simp [-Q0,-Q7,-Q1,-Q8,-Q2,unk,unA,unE,unT,unC,flat];repeat with_reducible refine sdQ ?_
  refine Qq (fun g=>?_) (fun g=>?_)
  ·have g3:v2=true:=gQ;clear g;replace h:=if_l g3 h;simp [-Q0,-Q7,-Q1,-Q8,-Q2];(repeat with_reducible refine sdQ ?_);replace h:=bind_some h;obtain ⟨v4,hv4,h⟩:=h;refine Q3 (Q2w _ _ v4 hv4) (.cons (.preT (by simp [Cat.cells,Fn.cells])) (.cons (.preT (by simp [Cat.cells,Fn.cells])) .nil)) ?_;simp [-Q0,-Q7,-Q1,-Q8,-Q2,unk,unA,unE,unT,unC,flat];(repeat refine sdQ ?_);refine hK _ ?_;exact jn (b:=v4) (Option.some.inj h) (wkQ8 [])
  have g3:¬ (v2=true):=gQ;clear g;replace h:=if_r g3 h;simp [-Q0,-Q7,-Q1,-Q8,-Q2];repeat refine sdQ ?_
  refine hK _ ?_;exact jn (b:=false) (Option.some.inj h) (wkQ8 [])
 intro b1 hb1;have h:=h1;try rw [← hb1] at h
 clear h1;try dsimp only at h
 refine Qi ?_;have hr:=Option.some.inj h;rw [← hr];refine ⟨_,(.tmp .nil),?_⟩;refine ⟨(.one rfl rfl .nil),[.val (.bool b1)],[],by simp [Cat.cells,Fn.cells,UA,U1,IA,I1,LA,L1,BA,B1,EA,E1,E2,eB,eI,eL],by simp,(UpL.refl _)⟩
attribute [local simp] eL eI Qo QH eP_Ends Q1N Q3d Cat.cells Ends.cells Fn.cells Tra.cells
noncomputable def QK (t_:Tra):Option Bool :=
 (
  (Q1H [t_.s,t_.t]).bind fun v2 =>
  if ¬ (v2=true) then
   some true
  else
   (Q16 t_.s t_.t).bind fun v4 =>
   if ¬ (v4=true) then
    some true
   else
    if ¬ ((t_.p.length:Int)=t_.s.s.n) then
     some true
    else
     (Qs t_.s.t).bind fun v7 =>
     (Q1C t_.p v7).bind fun v8 =>
     some (!v8):Option (Bool)).bind fun b1 =>
 if b1=true then
  some false
 else
  (QE (σ:=Int) (ε:=Unit ⊕ Bool) (fun s18 =>
   if s18<(t_.p.length:Int) then
    ass (0≤s18∧s18<(t_.p.length:Int)) <|
    (QQ t_.s.t (ix t_.p s18)).bind fun v21 =>
    ass (0≤s18∧s18<(t_.s.ob.length:Int)) <|
    ass (0≤s18∧s18<(t_.t.ob.length:Int)) <|
    if ¬ (v21.a=ix t_.s.ob s18∧v21.b=ix t_.t.ob s18) then
     some (Ctl.ret (Sum.inr false))
    else
     ass (B64 (s18+1)) <|
     some (Ctl.next (s18+1))
   else
    some (Ctl.ret (Sum.inl ()))) fuel 0).bind fun e10 =>
  match e10 with
  | .inl b10 =>
   some true
  | .inr p10 =>
   some p10
theorem Q2Y (t_:Tra) (r:Bool) (h:QK t_=some r):Contract Tryz.prog 134 [.rptr (t_.cells true)] (.val (.bool r)):=by
 refine Qf (rvs:=[.tmp 2]) (rs:=[.val (.bool r)]) Tryz.func134 rfl rfl rfl rfl (by simp [Tryz.f134]) fun F hN hP=>?_;unfold QK at h;refine Q5 ?_;refine runQ hN fun K hK=>?_;simp [-Q0,-Q7,-Q1,-Q8,-Q2];repeat refine sdQ ?_
 refine hK _ ?_;clear hK K;refine tn ?_;refine Q9 (st':=⟨[(0,.rptr (Tra.cells true t_))],[],0⟩) (wkQ8 []) ?_;refine Q5 ?_;refine runQ hN fun K hK=>?_;simp [-Q0,-Q7,-Q1,-Q8,-Q2];repeat refine sdQ ?_
 refine hK _ ?_;clear hK K;refine tn ?_;refine Q9 (st':=⟨[(0,.rptr (Tra.cells true t_)),(3,.rptr (Tra.cells true t_)),(4,.rptr [iV t_.t.s.n,lI t_.t.s.fr,lI t_.t.s.to,lI t_.t.s.id,.lst true 1 (Ls t_.t.s.cs),iV t_.t.t.n,lI t_.t.t.fr,lI t_.t.t.to,lI t_.t.t.id,.lst true 1 (Ls t_.t.t.cs),lI t_.t.ob,lI t_.t.ar,lI t_.p])],[],0⟩) (wkQ8 []) ?_;refine Q5 ?_;refine Q5 ?_;replace h:=bind_some h;obtain ⟨e1,h,h1⟩:=h;refine Qj (fun b1:Bool=>⟨[(0,.rptr (Tra.cells true t_)),(3,.rptr (Tra.cells true t_)),(4,.rptr [iV t_.t.s.n,lI t_.t.s.fr,lI t_.t.s.to,lI t_.t.s.id,.lst true 1 (Ls t_.t.s.cs),iV t_.t.t.n,lI t_.t.t.fr,lI t_.t.t.to,lI t_.t.t.id,.lst true 1 (Ls t_.t.t.cs),lI t_.t.ob,lI t_.t.ar,lI t_.p]),(48,.val (.bool b1))],[],0⟩) (fun b1=>b1=e1) ?_ ?_
 ·refine runQ hN fun K hK=>?_;simp [-Q0,-Q7,-Q1,-Q8,-Q2];repeat with_reducible refine sdQ ?_
  replace h:=bind_some h;obtain ⟨v2,hv2,h⟩:=h;refine Q3 (Q5Y _ v2 hv2) (.cons (.lits (es:=_) rfl (.cons rfl (.cons (.preT (by simp [Fn.cells,Tra.cells])) .nil) (.cons rfl (.cons (.preT (by simp [Fn.cells,Tra.cells])) .nil) .nil)) rfl) .nil) ?_;simp [-Q0,-Q7,-Q1,-Q8,-Q2,unk,unA,unE,unT,unC,flat];repeat with_reducible refine sdQ ?_
  refine Qq (fun g=>?_) (fun g=>?_)
  ·have g3:¬ (¬ (v2=true)):=gQ;clear g;replace h:=if_r g3 h;simp [-Q0,-Q7,-Q1,-Q8,-Q2];(repeat with_reducible refine sdQ ?_);replace h:=bind_some h;obtain ⟨v4,hv4,h⟩:=h;refine Q3 (Q4c _ _ v4 hv4) (.cons (.preT (by simp [Fn.cells,Tra.cells])) (.cons (.preT (by simp [Fn.cells,Tra.cells])) .nil)) ?_;simp [-Q0,-Q7,-Q1,-Q8,-Q2,unk,unA,unE,unT,unC,flat];(repeat with_reducible refine sdQ ?_);refine Qq (fun g=>?_) (fun g=>?_)
   ·have g5:¬ (¬ (v4=true)):=gQ;clear g;replace h:=if_r g5 h;simp [-Q0,-Q7,-Q1,-Q8,-Q2];(repeat with_reducible refine sdQ ?_);refine Qq (fun g=>?_) (fun g=>?_)
    ·have g6:¬ (¬ ((t_.p.length:Int)=t_.s.s.n)):=gQ;clear g;replace h:=if_r g6 h;simp [-Q0,-Q7,-Q1,-Q8,-Q2];(repeat with_reducible refine sdQ ?_);replace h:=bind_some h;obtain ⟨v7,hv7,h⟩:=h;refine Q3 (Q1b _ v7 hv7) (.cons (.preT (by simp [Cat.cells,Fn.cells,Tra.cells])) .nil) ?_;simp [-Q0,-Q7,-Q1,-Q8,-Q2,unk,unA,unE,unT,unC,flat];(repeat with_reducible refine sdQ ?_);replace h:=bind_some h;obtain ⟨v8,hv8,h⟩:=h;refine Q3 (Q55 _ _ v8 hv8) (.cons .lst (.cons .val .nil)) ?_;simp [-Q0,-Q7,-Q1,-Q8,-Q2,unk,unA,unE,unT,unC,flat];(repeat refine sdQ ?_);refine hK _ ?_;exact jn (b:=!v8) (Option.some.inj h) (wkQ8 [])
    have g6:¬ ((t_.p.length:Int)=t_.s.s.n):=gQ;clear g;replace h:=if_l g6 h;simp [-Q0,-Q7,-Q1,-Q8,-Q2];(repeat refine sdQ ?_);refine hK _ ?_;exact jn (b:=true) (Option.some.inj h) (wkQ8 [])
   have g5:¬ (v4=true):=gQ;clear g;replace h:=if_l g5 h;simp [-Q0,-Q7,-Q1,-Q8,-Q2];(repeat refine sdQ ?_);refine hK _ ?_;exact jn (b:=true) (Option.some.inj h) (wkQ8 [])
  have g3:¬ (v2=true):=gQ;clear g;replace h:=if_l g3 h;simp [-Q0,-Q7,-Q1,-Q8,-Q2];repeat refine sdQ ?_
  refine hK _ ?_;exact jn (b:=true) (Option.some.inj h) (wkQ8 [])
 intro b1 hb1;have h:=h1;try rw [← hb1] at h
 clear h1;try dsimp only at h
 refine Qd rfl (fun g=>?_) fun g=>?_
 ·have g9:b1=true:=gQ;clear g;replace h:=if_l g9 h;refine Q5 ?_;refine runQ hN fun K hK=>?_;simp [-Q0,-Q7,-Q1,-Q8,-Q2];repeat refine sdQ ?_
  refine hK _ ?_;clear hK K;refine tn ?_;refine Q9 (st':=⟨[(2,.val (.bool false))],[],0⟩) (wkQ8 []) ?_;refine Qi ?_;refine tr ?_;have hr:=Option.some.inj h;rw [← hr];refine ⟨_,(.tmp .nil),?_⟩;refine ⟨(.one rfl rfl .nil),[.val (.bool false)],[],by simp [Cat.cells,Ends.cells,Fn.cells,Tra.cells,UA,U1,IA,I1,LA,L1,BA,B1,EA,E1,E2,eB,eI,eL],by simp,(UpL.refl _)⟩
 have g9:¬ (b1=true):=gQ;clear g;replace h:=if_r g9 h;refine Qe ?_;refine tn ?_;refine Q5 ?_;refine Q5 ?_;refine runQ hN fun K hK=>?_;simp [-Q0,-Q7,-Q1,-Q8,-Q2];repeat refine sdQ ?_
 refine hK _ ?_;clear hK K;refine tn ?_;refine Q9 (st':=⟨[(3,.rptr (Tra.cells true t_)),(4,.rptr [iV t_.t.s.n,lI t_.t.s.fr,lI t_.t.s.to,lI t_.t.s.id,.lst true 1 (Ls t_.t.s.cs),iV t_.t.t.n,lI t_.t.t.fr,lI t_.t.t.to,lI t_.t.t.id,.lst true 1 (Ls t_.t.t.cs),lI t_.t.ob,lI t_.t.ar,lI t_.p]),(52,lI t_.p),(53,iV (t_.p.length:Int)),(54,iV 0)],[],0⟩) (wkQ8 []) ?_;replace h:=bind_some h;obtain ⟨e10,h,h10⟩:=h;refine Qj (fun b10:Unit=>⟨[],[],0⟩) (fun b10=>Sum.inl b10=e10) ?_ ?_
 ·refine Qc ?_;refine Qz h (fun s18:Int=>⟨[(3,.rptr (Tra.cells true t_)),(4,.rptr [iV t_.t.s.n,lI t_.t.s.fr,lI t_.t.s.to,lI t_.t.s.id,.lst true 1 (Ls t_.t.s.cs),iV t_.t.t.n,lI t_.t.t.fr,lI t_.t.t.to,lI t_.t.t.id,.lst true 1 (Ls t_.t.t.cs),lI t_.t.ob,lI t_.t.ar,lI t_.p]),(52,lI t_.p),(53,iV (t_.p.length:Int)),(54,iV s18)],[],0⟩) (wkQ8 []) ?_;clear h;intro k18 s18 c18 h hk18;refine Q5 ?_;refine runQ hN fun K hK=>?_;simp [-Q0,-Q7,-Q1,-Q8,-Q2];repeat refine sdQ ?_
  refine hK _ ?_;clear hK K;refine tn ?_;refine Q9 (st':=⟨[(3,.rptr (Tra.cells true t_)),(4,.rptr [iV t_.t.s.n,lI t_.t.s.fr,lI t_.t.s.to,lI t_.t.s.id,.lst true 1 (Ls t_.t.s.cs),iV t_.t.t.n,lI t_.t.t.fr,lI t_.t.t.to,lI t_.t.t.id,.lst true 1 (Ls t_.t.t.cs),lI t_.t.ob,lI t_.t.ar,lI t_.p]),(52,lI t_.p),(53,iV (t_.p.length:Int)),(54,iV s18),(55,.val (.bool (decide (s18<(t_.p.length:Int)))))],[],0⟩) (wkQ8 []) ?_;refine Q5 ?_;refine Qd rfl (fun g=>?_) fun g=>?_
  ·have g19:s18<(t_.p.length:Int):=gQ;clear g;replace h:=if_l g19 h;refine Qe ?_;refine tn ?_;refine Q5 ?_;refine Qc ?_;refine Q5 ?_;refine runQ hN fun K hK=>?_;replace h:=Q6 h;obtain ⟨a20,h⟩:=h;simp [-Q0,-Q7,-Q1,-Q8,-Q2,at_I a20];(repeat refine sdQ ?_);refine hK _ ?_;clear hK K;refine tn ?_;refine Q9 (st':=⟨[(3,.rptr (Tra.cells true t_)),(4,.rptr [iV t_.t.s.n,lI t_.t.s.fr,lI t_.t.s.to,lI t_.t.s.id,.lst true 1 (Ls t_.t.s.cs),iV t_.t.t.n,lI t_.t.t.fr,lI t_.t.t.to,lI t_.t.t.id,.lst true 1 (Ls t_.t.t.cs),lI t_.t.ob,lI t_.t.ar,lI t_.p]),(5,iV s18),(6,iV (ix t_.p s18)),(52,lI t_.p),(53,iV (t_.p.length:Int)),(54,iV s18)],[],0⟩) (wkQ8 []) ?_;refine Q5 ?_;refine runQ hN fun K hK=>?_;simp [-Q0,-Q7,-Q1,-Q8,-Q2];(repeat with_reducible refine sdQ ?_);replace h:=bind_some h;obtain ⟨v21,hv21,h⟩:=h;refine Q3 (Q3n _ _ v21 hv21) (.cons (.preT (by simp [Cat.cells,Ends.cells,Fn.cells,Tra.cells])) (.cons .val .nil)) ?_;replace h:=Q6 h;obtain ⟨a22,h⟩:=h;replace h:=Q6 h;obtain ⟨a23,h⟩:=h;simp [-Q0,-Q7,-Q1,-Q8,-Q2,unk,unA,unE,unT,unC,flat,at_I a22,at_I a23];(repeat refine sdQ ?_);refine hK _ ?_;clear hK K;refine tn ?_;refine Q9 (st':=⟨[(3,.rptr (Tra.cells true t_)),(4,.rptr [iV t_.t.s.n,lI t_.t.s.fr,lI t_.t.s.to,lI t_.t.s.id,.lst true 1 (Ls t_.t.s.cs),iV t_.t.t.n,lI t_.t.t.fr,lI t_.t.t.to,lI t_.t.t.id,.lst true 1 (Ls t_.t.t.cs),lI t_.t.ob,lI t_.t.ar,lI t_.p]),(52,lI t_.p),(53,iV (t_.p.length:Int)),(54,iV s18),(79,.val (.bool (!([v21.a,v21.b] == [ix t_.s.ob s18,ix t_.t.ob s18]))))],[],0⟩) (wkQ8 []) ?_;refine Qd rfl (fun g=>?_) fun g=>?_
   ·have g24:¬ (v21.a=ix t_.s.ob s18∧v21.b=ix t_.t.ob s18):=gQ;clear g;replace h:=if_l g24 h;refine Q5 ?_;refine runQ hN fun K hK=>?_;simp [-Q0,-Q7,-Q1,-Q8,-Q2];(repeat refine sdQ ?_);refine hK _ ?_;clear hK K;refine tn ?_;refine Q9 (st':=⟨[(2,.val (.bool false))],[],0⟩) (wkQ8 []) ?_;refine Qi ?_;refine br ?_;refine tr ?_;refine lr ?_;refine br ?_;refine tr ?_;cases h;have q:_=e10:=hk18;have h:=h10;rw [← q] at h;clear q;(try dsimp only at h);have hr:=Option.some.inj h;rw [← hr];refine ⟨_,(.tmp .nil),?_⟩;refine ⟨(.one rfl rfl .nil),[.val (.bool false)],[],by simp [Cat.cells,Ends.cells,Fn.cells,Tra.cells,UA,U1,IA,I1,LA,L1,BA,B1,EA,E1,E2,eB,eI,eL],by simp,(UpL.refl _)⟩
   have g24:¬ (¬ (v21.a=ix t_.s.ob s18∧v21.b=ix t_.t.ob s18)):=gQ;clear g;replace h:=if_r g24 h;refine Qe ?_;refine bn ?_;refine tn ?_;refine runQ hN fun K hK=>?_;replace h:=Q6 h;obtain ⟨a25,h⟩:=h;simp [-Q0,-Q7,-Q1,-Q8,-Q2,Qu a25];(repeat refine sdQ ?_);refine hK _ ?_;clear hK K;cases h;exact rn (s':=s18+1) hk18 (wkQ8 [])
  have g19:¬ (s18<(t_.p.length:Int)):=gQ;clear g;replace h:=if_r g19 h;refine Qp ?_;refine tx ?_;refine lx ?_;refine bh ?_;cases h;exact jn (b:=()) hk18 (wkQ8 [])
 intro b10 hb10;have h:=h10;try rw [← hb10] at h
 clear h10;try dsimp only at h
 refine Q5 ?_;refine runQ hN fun K hK=>?_;simp [-Q0,-Q7,-Q1,-Q8,-Q2];repeat refine sdQ ?_
 refine hK _ ?_;clear hK K;refine tn ?_;refine Q9 (st':=⟨[(2,.val (.bool true))],[],0⟩) (wkQ8 []) ?_;refine Qi ?_;have hr:=Option.some.inj h;rw [← hr];refine ⟨_,(.tmp .nil),?_⟩;refine ⟨(.one rfl rfl .nil),[.val (.bool true)],[],by simp [Cat.cells,Ends.cells,Fn.cells,Tra.cells,UA,U1,IA,I1,LA,L1,BA,B1,EA,E1,E2,eB,eI,eL],by simp,(UpL.refl _)⟩
end Go.Vc.T
