/- A part of the proof: a verified generator of conditions, and what each function of the program does. -/
import Derived.Test.YtjfnifbgmcjjkaaS7
set_option maxRecDepth 100000
set_option maxHeartbeats 4000000
set_option linter.unusedSimpArgs false
set_option linter.unusedVariables false

namespace Go.Vc.T
open Go Go.Vc Go.Proofs
def Es {α:Type} (c:α→List AV) (xs:List α):List (List AV):=xs.map c
def gx {α:Type} [Inhabited α] (xs:List α) (j:Int):α:=xs.getD j.toNat default
def eB (b:Bool):List AV:=[.val (.bool b)]
def eI (b:Int):List AV:=[iV b]
def eL (x:List (List Int)):List AV:=[.lst true 1 (Ls x)]
section
variable {α:Type} {c:α→List AV}
@[simp] theorem Es_length (xs:List α):(Es c xs).length=xs.length:=by simp [Es]
@[simp] theorem Es_nil:Es c []=[]:=rfl
theorem Es_append (xs ys:List α):Es c (xs++ys)=Es c xs++Es c ys:=by simp [Es]
theorem Es_set' (xs:List α) (i:Nat) (x:α):Es c (xs.set i x)=(Es c xs).set i (c x):=by simp [Es,List.map_set]
theorem at_E [Inhabited α] {xs:List α} {j:Int} (h:0≤j∧j<(xs.length:Int)):(Es c xs)[j.toNat]? = some (c (gx xs j)):=by
 have h2:j.toNat<xs.length:=by omega
 simp [Es,gx,List.getD_eq_getElem?_getD,h2]
end
@[simp] theorem Cs_E (xs:List Cat):Cs xs=Es (Cat.cells true) xs:=rfl
@[simp] theorem Fs_E (xs:List Fn):Fs xs=Es (Fn.cells true) xs:=rfl
@[simp] theorem Ls_nil':Ls []=[]:=rfl
theorem Ls_append (xs ys:List (List Int)):Ls (xs++ys)=Ls xs++Ls ys:=by simp [Ls]
@[simp] theorem Ls_rep0 (n:Nat):Ls (List.replicate n [])=List.replicate n [AV.lst true 1 []]:=by simp [Ls]
theorem at_I {xs:List Int} {j:Int} (h:0≤j∧j<(xs.length:Int)):(Is xs)[j.toNat]? = some [iV (ix xs j)]:=by
 have h2:j.toNat<xs.length:=by omega
 simp [Is,ix,List.getD_eq_getElem?_getD,h2]
theorem at_L {xs:List (List Int)} {j:Int} (h:0≤j∧j<(xs.length:Int)):(Ls xs)[j.toNat]? = some [lI (rx xs j)]:=by
 have h2:j.toNat<xs.length:=by omega
 simp [Ls,rx,List.getD_eq_getElem?_getD,h2]
@[simp] theorem Is_takeE (xs:List Int) (k:Nat):List.take k (Is xs)=Is (xs.take k):=by simp [Is,List.map_take]
@[simp] theorem Ls_takeA (xs:List (List Int)):List.take xs.length (Ls xs)=Ls xs:=List.take_of_length_le (by simp)
@[simp] theorem u8_min:IntKind.u8.min=0:=rfl
@[simp] theorem u8_max:IntKind.u8.max=255:=rfl
@[simp] theorem Es_takeA {α:Type} {c:α→List AV} (xs:List α):List.take xs.length (Es c xs)=Es c xs:=List.take_of_length_le (by simp)
@[simp] theorem Bs_nil':Bs []=[]:=rfl
theorem Bs_append (xs ys:List Bool):Bs (xs++ys)=Bs xs++Bs ys:=by simp [Bs]
theorem IA (xs ys:List Int):Is (xs++ys)=Is xs++Is ys:=Is_append xs ys
theorem I1 (x:Int) (xs:List Int):Is (x :: xs)=[iV x] :: Is xs:=rfl
theorem LA (xs ys:List (List Int)):Ls (xs++ys)=Ls xs++Ls ys:=Ls_append xs ys
theorem L1 (x:List Int) (xs:List (List Int)):Ls (x :: xs)=[lI x] :: Ls xs:=rfl
theorem BA (xs ys:List Bool):Bs (xs++ys)=Bs xs++Bs ys:=Bs_append xs ys
theorem B1 (x:Bool) (xs:List Bool):Bs (x :: xs)=[.val (.bool x)] :: Bs xs:=rfl
theorem EA {α:Type} {c:α→List AV} (xs ys:List α):Es c (xs++ys)=Es c xs++Es c ys:=Es_append xs ys
theorem E1 {α:Type} {c:α→List AV} (x:α) (xs:List α):Es c (x :: xs)=c x :: Es c xs:=rfl
theorem E2 {α:Type} {c:α→List AV} (xs:List α) (i:Nat) (x:α):Es c (xs.set i x)=(Es c xs).set i (c x):=Es_set' xs i x
theorem rlLL_c {α:Type} {m:List (Nat × Nat)} {c:α→List AV} (h:∀ x,rlL m (c x)=c x):∀ xs:List α,rlLL m (xs.map c)=xs.map c:=by
 intro xs
 induction xs with
 | nil=>rfl
 | cons a r ih=>simp only [List.map_cons,rlLL,h,ih]
@[simp] theorem Qh {α:Type} (m:List (Nat × Nat)) (c:α→List AV) (xs:List α) (h:∀ x,rlL m (c x)=c x):rlLL m (Es c xs)=Es c xs:=rlLL_c h xs
@[simp] theorem rlLL_append (m:List (Nat × Nat)) (xs ys:List (List AV)):rlLL m (xs++ys)=rlLL m xs++rlLL m ys:=by
 induction xs with
 | nil=>rfl
 | cons a r ih=>simp only [List.cons_append,rlLL,ih]
theorem Ls_st {xss:List (List Int)} {i:Nat} {x:List Int}:(Ls xss).set i (((Ls xss).getD i []).set 0 (lI x))=Ls (xss.set i x):=by
 by_cases h:i<xss.length
 ·rw [← Ls_set];congr 1;simp [Ls,List.getD_eq_getElem?_getD,h]
 rw [List.set_eq_of_length_le (by simp;omega),List.set_eq_of_length_le (by omega)]
def QH (x:Cat):List AV:=[.rptr (x.cells true)]
def Q1B (x:Fn):List AV:=[.rptr (x.cells true)]
instance:Inhabited Cat:=⟨⟨0,[],[],[],[]⟩⟩
instance:Inhabited Fn:=⟨⟨default,default,[],[]⟩⟩
structure Cone where
 a:Int
 l:List Int
def Cone.cells (u:Bool) (f:Cone):List AV:=[iV f.a,.lst u 1 (Is f.l)]
instance:Inhabited Cone:=⟨⟨default,default⟩⟩
def Q24 (x:Cone):List AV:=[.rptr (x.cells true)]
structure Ends where
 a:Int
 b:Int
def Ends.cells (u:Bool) (f:Ends):List AV:=[iV f.a,iV f.b]
structure XTerm where
 variable_:Int
 arrow_:Int
def XTerm.cells (u:Bool) (f:XTerm):List AV:=[iV f.variable_,iV f.arrow_]
structure XQuery where
 variables_:List Int
 left_:List XTerm
 right_:List XTerm
 output_:List Int
def XQuery.cells (u:Bool) (f:XQuery):List AV:=[.lst u 1 (Is f.variables_),.lst u 2 (Es (XTerm.cells true) f.left_),.lst u 2 (Es (XTerm.cells true) f.right_),.lst u 1 (Is f.output_)]
structure XCocones where
 opposite_:Fn
def XCocones.cells (u:Bool) (f:XCocones):List AV:=[.rptr (Fn.cells true f.opposite_)]
instance:Inhabited XCocones:=⟨⟨default⟩⟩
def QZ (x:XCocones):List AV:=[.rptr (x.cells true)]
structure XL07State where
 f_:Fn
 g_:Fn
 iso_:Bool
 most_:Int
 found_:List (List Int)
def XL07State.cells (u:Bool) (f:XL07State):List AV:=[iV f.f_.s.n,.lst u 1 (Is f.f_.s.fr),.lst u 1 (Is f.f_.s.to),.lst u 1 (Is f.f_.s.id),.lst u 1 (Ls f.f_.s.cs),iV f.f_.t.n,.lst u 1 (Is f.f_.t.fr),.lst u 1 (Is f.f_.t.to),.lst u 1 (Is f.f_.t.id),.lst u 1 (Ls f.f_.t.cs),.lst u 1 (Is f.f_.ob),.lst u 1 (Is f.f_.ar),iV f.g_.s.n,.lst u 1 (Is f.g_.s.fr),.lst u 1 (Is f.g_.s.to),.lst u 1 (Is f.g_.s.id),.lst u 1 (Ls f.g_.s.cs),iV f.g_.t.n,.lst u 1 (Is f.g_.t.fr),.lst u 1 (Is f.g_.t.to),.lst u 1 (Is f.g_.t.id),.lst u 1 (Ls f.g_.t.cs),.lst u 1 (Is f.g_.ob),.lst u 1 (Is f.g_.ar),.val (.bool f.iso_),iV f.most_,.lst u 1 (Ls f.found_)]
instance:Inhabited XL07State:=⟨⟨default,default,default,default,default⟩⟩
def Ql (x:XL07State):List AV:=[.rptr (x.cells true)]
structure XPairint64 where
 first_:Int
 second_:Int
def XPairint64.cells (u:Bool) (f:XPairint64):List AV:=[iV f.first_,iV f.second_]
@[simp] theorem ef_137:elm Try.prog 137=some 54:=by kernel_rfl
@[simp] theorem ef_176:elm Try.prog 176=some 77:=by kernel_rfl
@[simp] theorem ff_51_0:fld Try.prog 51 0=some (0,5,true):=by kernel_rfl
@[simp] theorem ff_51_1:fld Try.prog 51 1=some (5,5,true):=by kernel_rfl
@[simp] theorem ff_51_2:fld Try.prog 51 2=some (10,1,false):=by kernel_rfl
@[simp] theorem ff_51_3:fld Try.prog 51 3=some (11,1,false):=by kernel_rfl
@[simp] theorem ff_54_0:fld Try.prog 54 0=some (0,1,false):=by kernel_rfl
@[simp] theorem ff_54_1:fld Try.prog 54 1=some (1,1,false):=by kernel_rfl
@[simp] theorem ff_58_0:fld Try.prog 58 0=some (0,5,true):=by kernel_rfl
@[simp] theorem ff_58_1:fld Try.prog 58 1=some (5,5,true):=by kernel_rfl
@[simp] theorem ff_58_2:fld Try.prog 58 2=some (10,1,false):=by kernel_rfl
@[simp] theorem ff_58_3:fld Try.prog 58 3=some (11,1,false):=by kernel_rfl
@[simp] theorem ff_148_0:fld Try.prog 148 0=some (0,1,false):=by kernel_rfl
@[simp] theorem ff_195_0:fld Try.prog 195 0=some (0,12,true):=by kernel_rfl
@[simp] theorem ff_195_1:fld Try.prog 195 1=some (12,12,true):=by kernel_rfl
@[simp] theorem ff_195_2:fld Try.prog 195 2=some (24,1,false):=by kernel_rfl
@[simp] theorem ff_195_3:fld Try.prog 195 3=some (25,1,false):=by kernel_rfl
@[simp] theorem ff_195_4:fld Try.prog 195 4=some (26,1,false):=by kernel_rfl
@[simp] theorem hf_148_173 : mth Try.prog 148 "loop.example/g01083/impl.diagram" = some 173 := by kernel_rfl
@[simp] theorem pf_54:Q3h Try.prog 54=some [(0,1),(1,1)]:=by kernel_rfl
@[simp] theorem pf_58:Q3h Try.prog 58=some [(0,5),(5,5),(10,1),(11,1)]:=by kernel_rfl
@[simp] theorem pf_148:Q3h Try.prog 148=some [(0,1)]:=by kernel_rfl
@[simp] theorem pf_195:Q3h Try.prog 195=some [(0,12),(12,12),(24,1),(25,1),(26,1)]:=by kernel_rfl
@[simp] theorem sf_148:sty Try.prog 148=true:=by kernel_rfl
@[simp] theorem tf_3:tyi Try.prog 3=some ⟨false,1,8,[.int .i64 0]⟩:=by kernel_rfl
@[simp] theorem tf_22:tyi Try.prog 22=some ⟨false,1,24,[.slice none 0 0]⟩:=by kernel_rfl
@[simp] theorem tf_31:tyi Try.prog 31=some ⟨true,5,104,[.int .i64 0,.slice none 0 0,.slice none 0 0,.slice none 0 0,.slice none 0 0]⟩:=by kernel_rfl
@[simp] theorem Q5g:tyi Try.prog 54=some ⟨true,2,32,[.int .i64 0,.slice none 0 0]⟩:=by kernel_rfl
@[simp] theorem Q8K:tyi Try.prog 58=some ⟨true,12,256,[.int .i64 0,.slice none 0 0,.slice none 0 0,.slice none 0 0,.slice none 0 0,.int .i64 0,.slice none 0 0,.slice none 0 0,.slice none 0 0,.slice none 0 0,.slice none 0 0,.slice none 0 0]⟩:=by kernel_rfl
@[simp] theorem tf_77:tyi Try.prog 77=some ⟨false,1,8,[.pointer none]⟩:=by kernel_rfl
@[simp] theorem tf_93:tyi Try.prog 93=some ⟨false,1,8,[.pointer none]⟩:=by kernel_rfl
@[simp] theorem tf_135:tyi Try.prog 135=some ⟨false,1,8,[.nilFunc]⟩:=by kernel_rfl
@[simp] theorem tf_137:tyi Try.prog 137=some ⟨false,1,24,[.slice none 0 0]⟩:=by kernel_rfl
@[simp] theorem tf_148:tyi Try.prog 148=some ⟨true,1,8,[.pointer none]⟩:=by kernel_rfl
@[simp] theorem tf_192:tyi Try.prog 192=some ⟨false,1,8,[.nilFunc]⟩:=by kernel_rfl
@[simp] theorem tf_195:tyi Try.prog 195=some ⟨true,27,552,[.int .i64 0,.slice none 0 0,.slice none 0 0,.slice none 0 0,.slice none 0 0,.int .i64 0,.slice none 0 0,.slice none 0 0,.slice none 0 0,.slice none 0 0,.slice none 0 0,.slice none 0 0,.int .i64 0,.slice none 0 0,.slice none 0 0,.slice none 0 0,.slice none 0 0,.int .i64 0,.slice none 0 0,.slice none 0 0,.slice none 0 0,.slice none 0 0,.slice none 0 0,.slice none 0 0,.bool false,.int .i64 0,.slice none 0 0]⟩:=by kernel_rfl
theorem toCat (u:Bool) (c:Cat) (hc:c.ok):Contract Try.prog 9 [.agg (c.cells u)] (.agg (c.cells true)):=c18 c u hc
theorem cszCat (u:Bool) (c:Cat) (l:Int) (h1:0≤l) (h2:l≤1048576):Contract Try.prog 6 [.agg (c.cells u),iV l] (iV (Q32 l c)):=c13 u c l h1 h2
theorem Q2r {l:Int} {f:Cat} (h:l≤1048576):Q32 l f≤1048576:=szCat_le h
theorem mu_len {ms:List Mu} (h:∀ u∈ms,u.fs.length=u.es.length):∀ j,j<ms.length→(ms.getD j .none).fs.length=(ms.getD j .none).es.length:=fun j hj=>by rw [List.getD_eq_getElem?_getD,List.getElem?_eq_getElem hj];exact h _ (List.getElem_mem hj)
theorem markCat (f:Cat) (k:Int) (hf:f.ok) (h2:0≤k) (h3:k+f.size≤576460752303423488):MContract Try.prog 16 [.agg [iV f.n,.own 0 0 f.fr.length,.own 1 0 f.to.length,.own 2 0 f.id.length,.own 3 0 f.cs.length],iV k] (f.mu k) (iV (k+f.size)):=by
 have q:=m31 f k hf h2 (by omega)
 rwa [show k+f.fr.length+f.to.length+f.id.length+sumL f.cs=k+f.size by simp [Cat.size,Int.add_assoc]] at q
def Fn.mu (f:Fn) (k:Int):List Mu:=[⟨1,Is f.s.fr,Is (f.mark k).s.fr⟩,⟨1,Is f.s.to,Is (f.mark k).s.to⟩,⟨1,Is f.s.id,Is (f.mark k).s.id⟩,⟨1,Ls f.s.cs,Ls (f.mark k).s.cs⟩,⟨1,Is f.t.fr,Is (f.mark k).t.fr⟩,⟨1,Is f.t.to,Is (f.mark k).t.to⟩,⟨1,Is f.t.id,Is (f.mark k).t.id⟩,⟨1,Ls f.t.cs,Ls (f.mark k).t.cs⟩,⟨1,Is f.ob,Is (f.mark k).ob⟩,⟨1,Is f.ar,Is (f.mark k).ar⟩]
theorem Fn.ok_size {f:Fn} (h:f.ok):f.size≤2199031644160:=by
 obtain ⟨hs,ht,hob,har⟩:=h;have s_s:=Cat.ok_size hs;have s_t:=Cat.ok_size ht;simp only [Fn.size];omega
theorem eqFn (u v:Bool) (f:Fn):Contract Try.prog 27 [.agg (f.cells u),.agg (f.cells v)] (.val (.bool true)):=by
 refine Qg (rs:=[.val (.bool true)]) Try.func27 rfl rfl rfl rfl (by simp [Try.f27]) fun F hN hP=>?_;refine srQ hN fun K hK=>?_;simp [Fn.cells];refine hK _ ?_;clear hK K;refine Q3 ?_;refine srQ hN fun K hK=>?_;simp;refine Q7 (c26 u v f.s) (.cons (.aggL Cat.pur) (.cons (.aggL Cat.pur) .nil)) ?_;simp [unk,unA,unE,flat];refine hK _ ?_;clear hK K;refine Qc rfl (fun h=>by simp at h) fun _=>?_;refine Qd ?_;refine Q3 ?_;refine srQ hN fun K hK=>?_;simp;refine Q7 (c26 u v f.t) (.cons (.aggL Cat.pur) (.cons (.aggL Cat.pur) .nil)) ?_;simp [unk,unA,unE,flat];refine hK _ ?_;clear hK K;refine Qc rfl (fun h=>by simp at h) fun _=>?_;refine Qd ?_;refine Q3 ?_;refine srQ hN fun K hK=>?_;simp;refine Q7 (c29 u v f.ob f.ob) (.cons .lst (.cons .lst .nil)) ?_;simp [unk,unA,unE,flat];refine hK _ ?_;clear hK K;refine Qc rfl (fun h=>by simp at h) fun _=>?_;refine Qd ?_;refine Q3 ?_;refine srQ hN fun K hK=>?_;simp;refine Q7 (c29 u v f.ar f.ar) (.cons .lst (.cons .lst .nil)) ?_;simp [unk,unA,unE,flat];refine hK _ ?_;clear hK K;refine Qc rfl (fun h=>by simp at h) fun _=>?_;refine Qd ?_;refine srQ hN fun K hK=>?_;simp;refine hK _ ?_;clear hK K;refine Qk (Qp rfl rfl)
theorem toFn (u:Bool) (f:Fn) (hf:f.ok):Contract Try.prog 24 [.agg (f.cells u)] (.agg (f.cells true)):=by
 obtain ⟨hs,ht,hob,har⟩:=hf;refine Q1c Try.func24 rfl rfl Q8K rfl rfl (by simp [Try.f24]) fun F hN hP=>?_;refine srQ hN fun K hK=>?_;simp [Fn.cells];refine hK _ ?_;clear hK K;refine srQ hN fun K hK=>?_;simp;refine hK _ ?_;clear hK K;refine srQ hN fun K hK=>?_;simp;refine Q7 (toCat u f.s hs) (.cons (.aggL Cat.pur) .nil) ?_;simp [unk,unA,unE,flat,unC,Cat.cells];refine hK _ ?_;clear hK K;refine srQ hN fun K hK=>?_;simp;refine Q7 (toCat u f.t ht) (.cons (.aggL Cat.pur) .nil) ?_;simp [unk,unA,unE,flat,unC,Cat.cells];refine hK _ ?_;clear hK K;refine srQ hN fun K hK=>?_;simp;refine Q7 (c19 u f.ob hob) (.cons .lst .nil) ?_;simp [unk,unA,unE,flat];refine hK _ ?_;clear hK K;refine srQ hN fun K hK=>?_;simp;refine Q7 (c19 u f.ar har) (.cons .lst .nil) ?_;simp [unk,unA,unE,flat];refine hK _ ?_;clear hK K;refine srQ hN fun K hK=>?_;simp;refine hK _ ?_;clear hK K;refine Qk ⟨_,_,_,_,_,rfl,rfl,by simp,by simp,?_⟩;exact ⟨.agg rfl .nil,[iV f.s.n,lI f.s.fr,lI f.s.to,lI f.s.id,.lst true 1 (Ls f.s.cs),iV f.t.n,lI f.t.fr,lI f.t.to,lI f.t.id,.lst true 1 (Ls f.t.cs),lI f.ob,lI f.ar],[4,5,6,7,9,10,11,12,13,14],by simp,by simp,UpL.refl _⟩
def szFn (l:Int) (f:Fn):Int:=nn (Q32 l f.s) fun a0=>nn (Q32 a0 f.t) fun a1=>nn (less a1 f.ob.length) fun a2=>nn (less a2 f.ar.length) fun a3=>a3
theorem szFn_ok {l:Int} {f:Fn} (hl:l≤1048576) (h:0≤szFn l f):f.ok:=by
 unfold szFn at h;obtain ⟨p0,q0,_⟩:=Q6C h;have b0:=Q2r (f:=f.s) hl;obtain ⟨p1,q1,_⟩:=Q6C q0;have b1:=Q2r (f:=f.t) b0;obtain ⟨p2,q2,_⟩:=Q6C q1;obtain ⟨e2,_⟩:=Q42 p2;have b2:=Q2w (n:=f.ob.length) b1;obtain ⟨p3,q3,_⟩:=Q6C q2;obtain ⟨e3,_⟩:=Q42 p3;have b3:=Q2w (n:=f.ar.length) b2;exact ⟨Q87 hl p0,Q87 b0 p1,by omega,by omega⟩
theorem cszFn (u:Bool) (f:Fn) (l:Int) (h1:0≤l) (h2:l≤1048576):Contract Try.prog 22 [.agg (f.cells u),iV l] (iV (szFn l f)):=by
 refine Qg (rs:=[iV (szFn l f)]) Try.func22 rfl rfl rfl rfl (by simp [Try.f22]) fun F hN hP=>?_;refine srQ hN fun K hK=>?_;simp [Fn.cells];refine hK _ ?_;clear hK K;refine srQ hN fun K hK=>?_;simp;refine Q7 (cszCat u f.s (l) h1 (h2)) (.cons (.aggL Cat.pur) (.cons .val .nil)) ?_;simp [unk,unA,unE,flat];refine hK _ ?_;clear hK K;refine Q3 ?_;refine srQ hN fun K hK=>?_;simp;refine hK _ ?_;clear hK K;refine Qc rfl (fun g1=>?_) fun g1=>?_
 ·simp at g1;refine srQ hN fun K hK=>?_;simp;refine hK _ ?_;clear hK K;refine Qk (Qp rfl ?_);simp only [szFn,nn];rw [if_pos g1]
 simp at g1;refine Qd ?_;refine srQ hN fun K hK=>?_;simp;refine Q7 (cszCat u f.t (Q32 (l) f.s) g1 (Q2r (h2))) (.cons (.aggL Cat.pur) (.cons .val .nil)) ?_;simp [unk,unA,unE,flat];refine hK _ ?_;clear hK K;refine Q3 ?_;refine srQ hN fun K hK=>?_;simp;refine hK _ ?_;clear hK K;refine Qc rfl (fun g2=>?_) fun g2=>?_
 ·simp at g2;refine srQ hN fun K hK=>?_;simp;refine hK _ ?_;clear hK K;refine Qk (Qp rfl ?_);simp only [szFn,nn];rw [if_neg (Int.not_lt.2 g1),if_pos g2]
 simp at g2;refine Qd ?_;refine srQ hN fun K hK=>?_;simp;refine Q7 (c14 u f.ob (Q32 (Q32 (l) f.s) f.t) g2 (Q2r (Q2r (h2)))) (.cons .lst (.cons .val .nil)) ?_;simp [unk,unA,unE,flat];refine hK _ ?_;clear hK K;refine Q3 ?_;refine srQ hN fun K hK=>?_;simp;refine hK _ ?_;clear hK K;refine Qc rfl (fun g3=>?_) fun g3=>?_
 ·simp at g3;refine srQ hN fun K hK=>?_;simp;refine hK _ ?_;clear hK K;refine Qk (Qp rfl ?_);simp only [szFn,nn];rw [if_neg (Int.not_lt.2 g1),if_neg (Int.not_lt.2 g2),if_pos g3]
 simp at g3;refine Qd ?_;refine srQ hN fun K hK=>?_;simp;refine Q7 (c14 u f.ar (less (Q32 (Q32 (l) f.s) f.t) f.ob.length) g3 (Q2w (Q2r (Q2r (h2))))) (.cons .lst (.cons .val .nil)) ?_;simp [unk,unA,unE,flat];refine hK _ ?_;clear hK K;refine Q3 ?_;refine srQ hN fun K hK=>?_;simp;refine hK _ ?_;clear hK K;refine Qc rfl (fun g4=>?_) fun g4=>?_
 ·simp at g4;refine srQ hN fun K hK=>?_;simp;refine hK _ ?_;clear hK K;refine Qk (Qp rfl ?_);simp only [szFn,nn];rw [if_neg (Int.not_lt.2 g1),if_neg (Int.not_lt.2 g2),if_neg (Int.not_lt.2 g3),if_pos g4]
 simp at g4;refine Qd ?_;refine srQ hN fun K hK=>?_;simp;refine hK _ ?_;clear hK K;refine Qk (Qp rfl ?_);simp only [szFn,nn];rw [if_neg (Int.not_lt.2 g1),if_neg (Int.not_lt.2 g2),if_neg (Int.not_lt.2 g3),if_neg (Int.not_lt.2 g4)]
theorem markFn (f:Fn) (k:Int) (hf:f.ok) (h2:0≤k) (h3:k+f.size≤576460752303423488) :
  MContract Try.prog 28 [.agg [iV f.s.n,.own 0 0 f.s.fr.length,.own 1 0 f.s.to.length,.own 2 0 f.s.id.length,.own 3 0 f.s.cs.length,iV f.t.n,.own 4 0 f.t.fr.length,.own 5 0 f.t.to.length,.own 6 0 f.t.id.length,.own 7 0 f.t.cs.length,.own 8 0 f.ob.length,.own 9 0 f.ar.length],iV k] (f.mu k) (iV (k+f.size)):=by
 obtain ⟨hs,ht,hob,har⟩:=hf;have hz:f.size=f.s.size+f.t.size+f.ob.length+f.ar.length:=rfl;refine Q1e (ts:=[4]) (rv:=.int .i64 (k+f.size)) Try.func28 rfl rfl ?_ rfl (by simp [Try.f28]) ?_ fun F hN hP=>?_
 ·have:(-9223372036854775808≤k+f.size)∧k+f.size≤9223372036854775807:=by omega
  simp [resV,this]
 ·exact mu_len (by simp [Fn.mu,Fn.mark,Cat.mark])
 refine srQ hN fun K hK=>?_;simp [Q43,Fn.mu];refine hK _ ?_;clear hK K;refine Q58 mo (by rw [hN];decide) fun K hK=>?_;simp;refine Q2R (m:=[0,1,2,3]) (markCat f.s (k) hs (by omega) (by omega)) (by decide) (.cons rfl (.cons rfl (.cons rfl (.cons rfl .nil)))) (.cons (.aggL (.cons .val (.cons (.own (j:=0) (by decide)) (.cons (.own (j:=1) (by decide)) (.cons (.own (j:=2) (by decide)) (.cons (.own (j:=3) (by decide)) .nil)))))) (.cons .val .nil)) rfl (by simp) ?_;simp [Q46,Cat.mu];refine hK _ ?_;clear hK K;refine Q58 mo (by rw [hN];decide) fun K hK=>?_;simp;refine Q2R (m:=[4,5,6,7]) (markCat f.t (k+f.s.size) ht (by omega) (by omega)) (by decide) (.cons rfl (.cons rfl (.cons rfl (.cons rfl .nil)))) (.cons (.aggL (.cons .val (.cons (.own (j:=0) (by decide)) (.cons (.own (j:=1) (by decide)) (.cons (.own (j:=2) (by decide)) (.cons (.own (j:=3) (by decide)) .nil)))))) (.cons .val .nil)) rfl (by simp) ?_;simp [Q46,Cat.mu];refine hK _ ?_;clear hK K;refine Q58 mo (by rw [hN];decide) fun K hK=>?_;simp;refine Q1L (m32 f.ob (k+f.s.size+f.t.size) hob (by omega) (by omega)) rfl (by simp) ?_;simp;refine hK _ ?_;clear hK K;refine Q58 mo (by rw [hN];decide) fun K hK=>?_;simp;refine Q1L (m32 f.ar (k+f.s.size+f.t.size+f.ob.length) har (by omega) (by omega)) rfl (by simp) ?_;simp;refine hK _ ?_;clear hK K;refine srQ hN fun K hK=>?_;simp;refine hK _ ?_;clear hK K;refine Qk (mret ?_ ?_)
 ·simp [hz,Int.add_assoc]
 exact (.cons rfl (.cons rfl (.cons rfl (.cons rfl (.cons rfl (.cons rfl (.cons rfl (.cons rfl (.cons rfl (.cons rfl .nil))))))))))
def Cone.mark (k:Int) (f:Cone):Cone:=⟨f.a,run (k) f.l.length⟩
def Cone.size (f:Cone):Nat:=f.l.length
def Cone.ok (f:Cone):Prop:=f.l.length≤1048576∧True
def Cone.mu (f:Cone) (k:Int):List Mu:=[⟨1,Is f.l,Is (f.mark k).l⟩]
theorem eqCone (u v:Bool) (f:Cone):Contract Try.prog 26 [.agg (f.cells u),.agg (f.cells v)] (.val (.bool true)):=by
 refine Qg (rs:=[.val (.bool true)]) Try.func26 rfl rfl rfl rfl (by simp [Try.f26]) fun F hN hP=>?_;refine srQ hN fun K hK=>?_;simp [Cone.cells];refine hK _ ?_;clear hK K;refine Q3 ?_;refine srQ hN fun K hK=>?_;simp;refine hK _ ?_;clear hK K;refine Qc rfl (fun h=>by simp at h) fun _=>?_;refine Qd ?_;refine Q3 ?_;refine srQ hN fun K hK=>?_;simp;refine Q7 (c29 u v f.l f.l) (.cons .lst (.cons .lst .nil)) ?_;simp [unk,unA,unE,flat];refine hK _ ?_;clear hK K;refine Qc rfl (fun h=>by simp at h) fun _=>?_;refine Qd ?_;refine srQ hN fun K hK=>?_;simp;refine hK _ ?_;clear hK K;refine Qk (Qp rfl rfl)
theorem Q7O (u:Bool) (f:Cone) (k:Int) (hf:f.ok) (h2:0≤k) (h3:k+f.size≤1152921504606846976):Contract Try.prog 30 [.agg ((f.mark k).cells u),iV k] (iV (k+f.size)):=by
 obtain ⟨hl,_⟩:=hf;have hz:f.size=f.l.length:=rfl;refine Qg (rs:=[iV (k+f.size)]) Try.func30 rfl rfl rfl rfl (by simp [Try.f30]) fun F hN hP=>?_;refine srQ hN fun K hK=>?_;simp [Cone.cells,Cone.mark];refine hK _ ?_;clear hK K;refine srQ hN fun K hK=>?_;simp;refine Q7 (c53 u (run (k) f.l.length) (k) (by simpa using hl) (by omega) (by omega)) (.cons .lst (.cons .val .nil)) ?_;simp [unk,unA,unE,flat];refine hK _ ?_;clear hK K;refine Q3 ?_;refine srQ hN fun K hK=>?_;simp;refine hK _ ?_;clear hK K;refine Qc rfl (fun g=>?_) fun g=>?_
 ·simp at g;omega
 refine Qd ?_;refine srQ hN fun K hK=>?_;simp;refine hK _ ?_;clear hK K;refine Qk (Qp rfl ?_);simp [hz,Int.add_assoc]
theorem markCone (f:Cone) (k:Int) (hf:f.ok) (h2:0≤k) (h3:k+f.size≤576460752303423488) :
  MContract Try.prog 29 [.agg [iV f.a,.own 0 0 f.l.length],iV k] (f.mu k) (iV (k+f.size)):=by
 obtain ⟨hl,_⟩:=hf;have hz:f.size=f.l.length:=rfl;refine Q1e (ts:=[4]) (rv:=.int .i64 (k+f.size)) Try.func29 rfl rfl ?_ rfl (by simp [Try.f29]) ?_ fun F hN hP=>?_
 ·have:(-9223372036854775808≤k+f.size)∧k+f.size≤9223372036854775807:=by omega
  simp [resV,this]
 ·exact mu_len (by simp [Cone.mu,Cone.mark])
 refine srQ hN fun K hK=>?_;simp [Q43,Cone.mu];refine hK _ ?_;clear hK K;refine Q58 mo (by rw [hN];decide) fun K hK=>?_;simp;refine Q1L (m32 f.l (k) hl (by omega) (by omega)) rfl (by simp) ?_;simp;refine hK _ ?_;clear hK K;refine srQ hN fun K hK=>?_;simp;refine hK _ ?_;clear hK K;refine Qk (mret ?_ ?_)
 ·simp [hz,Int.add_assoc]
 exact (.cons rfl .nil)
noncomputable def Q1N (xs:List Int) (n:Int):Option (Bool) :=
 ass (B64 (n - 1)) <| some ((xs.all (inR n)))
theorem Q5E (xs:List Int) (n:Int) (r:Bool) (h:Q1N xs n=some r):Contract Try.prog 117 [lI xs,iV n] (.val (.bool r)):=by
 unfold Q1N at h;replace h:=Q4 h;obtain ⟨hn,h⟩:=h;cases h;exact c22 true xs n hn
noncomputable def Q1O (n:Int) (xs:List Int):Option (Bool) :=
 some ((xs.all (inR n)))
theorem Q5F (n:Int) (xs:List Int) (r:Bool) (h:Q1O n xs=some r):Contract Try.prog 65 [iV n,lI xs] (.val (.bool r)):=by
 unfold Q1O at h;cases h;exact c57 true xs n
noncomputable def QG (xs:List Int):Option (List Int) :=
 ass (xs.length≤1048576) <| some (xs)
theorem Q1x (xs:List Int) (r:List Int) (h:QG xs=some r):Contract Try.prog 124 [lI xs] (lI r):=by
 unfold QG at h;replace h:=Q4 h;obtain ⟨hx,h⟩:=h;cases h;exact c58 true xs hx
noncomputable def Q1f (xs:List Int):Option (List Int) :=
 ass (xs.length≤1048576) <| some (xs)
theorem Q2M (xs:List Int) (r:List Int) (h:Q1f xs=some r):Contract Try.prog 120 [lI xs] (lI r):=by
 unfold Q1f at h;replace h:=Q4 h;obtain ⟨hx,h⟩:=h;cases h;exact c47 true xs hx
noncomputable def Qy (c:Cat):Option (Int) :=
 some (c.fr.length)
theorem Q1u (c:Cat) (r:Int) (h:Qy c=some r):Contract Try.prog 125 [.rptr (c.cells true)] (iV r):=by
 unfold Qy at h;cases h;have q:=c61 true c [];simp only [List.append_nil] at q;exact q
noncomputable def Q2e (c:Cat):Option (Cat) :=
 ass (c.ok) <| some (c)
theorem Q5H (c:Cat) (r:Cat) (h:Q2e c=some r):Contract Try.prog 111 [.agg (c.cells true)] (.agg (r.cells true)):=by
 unfold Q2e at h;replace h:=Q4 h;obtain ⟨hc,h⟩:=h;cases h;exact c41 true c hc
noncomputable def QW (c:Cat):Option (Cat) :=
 ass (c.ok) <| some (c)
theorem Q2L (c:Cat) (r:Cat) (h:QW c=some r):Contract Try.prog 82 [.rptr (c.cells true)] (.agg (r.cells true)):=by
 unfold QW at h;replace h:=Q4 h;obtain ⟨hc,h⟩:=h;cases h;have q:=c23 true c [] hc;simp only [List.append_nil] at q;exact q
noncomputable def Qu (c:Cat) (f:Int) (g:Int):Option (Int) :=
 ass (0≤f) <| ass (f<c.cs.length) <| ass (0≤g) <| ass (g<(rx c.cs f).length) <| some ((ix (rx c.cs f) g))
theorem Q1l (c:Cat) (f:Int) (g:Int) (r:Int) (h:Qu c f g=some r):Contract Try.prog 81 [.rptr (c.cells true),iV f,iV g] (iV r):=by
 unfold Qu at h;replace h:=Q4 h;obtain ⟨h1,h⟩:=h;replace h:=Q4 h;obtain ⟨h2,h⟩:=h;replace h:=Q4 h;obtain ⟨h3,h⟩:=h;replace h:=Q4 h;obtain ⟨h4,h⟩:=h;cases h;have q:=c69 true c [] f g h1 h2 h3 h4;simp only [List.append_nil] at q;exact q
noncomputable def Q1h (c:Cat):Option (Bool) :=
 some ((bo c.Is))
theorem Q6P (c:Cat) (r:Bool) (h:Q1h c=some r):Contract Try.prog 64 [.agg (c.cells true)] (.val (.bool r)):=by
 unfold Q1h at h;cases h;exact c55 true c
noncomputable def QF (c:Cat):Option (Bool) :=
 some ((bo c.Is))
theorem Q33 (c:Cat) (r:Bool) (h:QF c=some r):Contract Try.prog 75 [.rptr (c.cells true)] (.val (.bool r)):=by
 unfold QF at h;cases h;have q:=c60 true c [];simp only [List.append_nil] at q;exact q
noncomputable def Q48 (xs:List Int) (n:Int):Option (Bool) :=
 some ((bo (n∈xs)))
theorem Q8M (xs:List Int) (n:Int) (r:Bool) (h:Q48 xs n=some r):Contract Try.prog 154 [lI xs,iV n] (.val (.bool r)):=by
 unfold Q48 at h;cases h;exact iq72 true xs n
@[simp] theorem ass_true {α:Type} {k:Option α}:ass True k=k:=Q9 trivial
theorem bo_tt (p:Prop):(bo p=true)=p:=by simp [bo]
theorem QY {p:Prop} (h:p):bo p=true:=by simp [bo,h]
theorem QD {p:Prop} (h:¬ p):bo p=false:=by simp [bo,h]
theorem bo_iff2 {p q:Prop} (h:p↔q):bo p=bo q:=by simp [bo,h]
theorem loop_go {σ ε:Type} {body:σ→Option (Ctl σ ε)} (g:Nat→σ) (m:Nat):∀ (k:Nat),m≤k→(∀ i,i<m→body (g i)=some (.next (g (i+1))))→QA body k (g 0)=QA body (k - m) (g m):=by
 induction m with
 | zero=>intro k _ _;rfl
 | succ m ih =>
  intro k hk h;rw [ih k (by omega) fun i hi=>h i (by omega)];obtain ⟨j,hj⟩:∃ j,k - m=j+1:=⟨k - m - 1,by omega⟩;rw [hj,show k - (m+1)=j by omega];simp only [QA,h m (by omega)]
theorem Q5W {σ ε:Type} {body:σ→Option (Ctl σ ε)} (g:Nat→σ) (n:Nat) {e:ε} {s0:σ} (h0:s0=g 0) (hn:n<4611686018427387904) (h:∀ i,i<n→body (g i)=some (.next (g (i+1)))) (he:body (g n)=some (.ret e)):QA body fuel s0=some e:=by
 subst h0;rw [loop_go g n fuel (by unfold fuel;omega) h];obtain ⟨j,hj⟩:∃ j,fuel - n=j+1:=⟨fuel - n - 1,by unfold fuel;omega⟩;rw [hj];simp only [QA,he]
theorem loop_chk {ε:Type} {body:Int→Option (Ctl Int ε)} (n:Nat) (p:Nat→Prop) {eb eg:ε} (hn:n<4611686018427387904) (h1:∀ i:Nat,i<n→p i→body (i:Int)=some (.next ((i:Int)+1))) (h2:∀ i:Nat,i<n→¬ p i→body (i:Int)=some (.ret eb)) (h3:body (n:Int)=some (.ret eg)) :
  QA body fuel 0=some (@ite _ (∀ i:Nat,i<n→p i) (Classical.propDecidable _) eg eb):=by
 by_cases hall:∀ i:Nat,i<n→p i
 ·rw [if_pos hall];exact Q5W (fun i:Nat=>(i:Int)) n rfl hn (fun i hi=>h1 i hi (hall i hi)) h3
 rw [if_neg hall];have hex:∃ i,i<n∧¬ p i:=Classical.byContradiction fun hx=>hall fun i hi=>Classical.byContradiction fun hp=>hx ⟨i,hi,hp⟩;obtain ⟨m,⟨hm,hp⟩,hmin⟩:∃ m,(m<n∧¬ p m)∧∀ k,k<m→¬ (k<n∧¬ p k):=by
  obtain ⟨i,hi⟩:=hex
  induction i using Nat.strongRecOn with
  | _ i ih =>
   by_cases h:∃ k,k<i∧k<n∧¬ p k
   ·obtain ⟨k,h1,h2⟩:=h;exact ih k h1 h2
   exact ⟨i,hi,fun k hk hh=>h ⟨k,hk,hh⟩⟩
 exact Q5W (fun i:Nat=>(i:Int)) m rfl (by omega) (fun i hi=>h1 i (by omega) (Classical.byContradiction fun hh=>hmin i hi ⟨by omega,hh⟩)) (h2 m hm hp)
theorem loop_acc {α ε:Type} {body:α × Int→Option (Ctl (α × Int) ε)} (g:Nat→α) (n:Nat) {e:ε} {a0:α} (h0:a0=g 0) (hn:n<4611686018427387904) (h:∀ i:Nat,i<n→body (g i,(i:Int))=some (.next (g (i+1),(i:Int)+1))) (he:body (g n,(n:Int))=some (.ret e)):QA body fuel (a0,0)=some e:=by
 subst h0;exact Q5W (fun i:Nat=>(g i,(i:Int))) n rfl hn h he
theorem all_inR {xs:List Int} {n:Int}:xs.all (inR n)=true↔∀ j:Nat,j<xs.length→0≤ix xs j∧ix xs j<n:=by
 rw [List.all_eq_true];constructor
 ·intro h j hj;have:=h _ (List.getElem_mem hj);rw [Q1r _ _ hj] at this;simp only [inR,Bool.and_eq_true,decide_eq_true_eq] at this;omega
 intro h x hx;obtain ⟨i,hi,rfl⟩:=List.getElem_of_mem hx;rw [Q1r _ _ hi];have:=h i hi;simp only [inR,Bool.and_eq_true,decide_eq_true_eq];omega
theorem Q1j {ε β:Type} {body:Int→Option (Ctl Int ε)} {K:ε→Option β} {r:β} (n:Nat) (p:Nat→Prop) {eb eg:ε} (hn:n<4611686018427387904) (h1:∀ i:Nat,i<n→p i→body (i:Int)=some (.next ((i:Int)+1))) (h2:∀ i:Nat,i<n→¬ p i→body (i:Int)=some (.ret eb)) (h3:body (n:Int)=some (.ret eg))
  (hb:(¬ ∀ i:Nat,i<n→p i)→K eb=some r) (hg:(∀ i:Nat,i<n→p i)→K eg=some r):(QA body fuel 0).bind K=some r:=by
 rw [loop_chk n p hn h1 h2 h3]
 by_cases h:∀ i:Nat,i<n→p i
 ·rw [if_pos h];exact hg h
 rw [if_neg h];exact hb h
theorem Q1y {α ε β:Type} {body:α × Int→Option (Ctl (α × Int) ε)} {K:ε→Option β} {r:Option β} {a0:α} (n:Nat) (g:Nat→α) {e:ε} (h0:a0=g 0) (hn:n<4611686018427387904) (h:∀ i:Nat,i<n→body (g i,(i:Int))=some (.next (g (i+1),(i:Int)+1))) (he:body (g n,(n:Int))=some (.ret e)) (hk:K e=r):(QA body fuel (a0,0)).bind K=r:=by
 rw [loop_acc g n h0 hn h he];exact hk
attribute [local simp] eL eI Qs QH Q1B Cat.cells Fn.cells
noncomputable def Q3j (f_:Fn):Option Bool :=
 (
  (Q1h f_.s).bind fun v2 =>
  if ¬ (v2=true) then
   some true
  else
   (Q1h f_.t).bind fun v4 =>
   if ¬ (v4=true) then
    some true
   else
    if ¬ ((f_.ob.length:Int)=f_.s.n) then
     some true
    else
     some ((f_.ar.length:Int) != (f_.s.fr.length:Int)):Option (Bool)).bind fun b1 =>
 if b1=true then
  some false
 else
  (
   (Q1O f_.t.n f_.ob).bind fun v9 =>
   if ¬ (v9=true) then
    some true
   else
    (Q1O (f_.t.fr.length:Int) f_.ar).bind fun v11 =>
    some (!v11):Option (Bool)).bind fun b8 =>
  if b8=true then
   some false
  else
   (QA (σ:=Int) (ε:=Unit ⊕ Bool) (fun s27 =>
    if s27<(f_.s.fr.length:Int) then
     (
      ass (0≤s27∧s27<(f_.ar.length:Int)) <|
      ass (0≤ix f_.ar s27∧ix f_.ar s27<(f_.t.fr.length:Int)) <|
      ass (0≤s27∧s27<(f_.s.fr.length:Int)) <|
      ass (0≤ix f_.s.fr s27∧ix f_.s.fr s27<(f_.ob.length:Int)) <|
      if ¬ ((ix f_.t.fr (ix f_.ar s27))=(ix f_.ob (ix f_.s.fr s27))) then
       some true
      else
       ass (0≤s27∧s27<(f_.ar.length:Int)) <|
       ass (0≤ix f_.ar s27∧ix f_.ar s27<(f_.t.to.length:Int)) <|
       ass (0≤s27∧s27<(f_.s.to.length:Int)) <|
       ass (0≤ix f_.s.to s27∧ix f_.s.to s27<(f_.ob.length:Int)) <|
       some ((ix f_.t.to (ix f_.ar s27)) != (ix f_.ob (ix f_.s.to s27))):Option (Bool)).bind fun b29 =>
     if b29=true then
      some (Ctl.ret (Sum.inr false))
     else
      ass (B64 (s27+1)) <|
      some (Ctl.next (s27+1))
    else
     some (Ctl.ret (Sum.inl ()))) fuel 0).bind fun e13 =>
   match e13 with
   | .inl b13 =>
    (QA (σ:=Int) (ε:=Unit ⊕ Bool) (fun s49 =>
     if s49<f_.s.n then
      ass (0≤s49∧s49<(f_.s.id.length:Int)) <|
      ass (0≤ix f_.s.id s49∧ix f_.s.id s49<(f_.ar.length:Int)) <|
      ass (0≤s49∧s49<(f_.ob.length:Int)) <|
      ass (0≤ix f_.ob s49∧ix f_.ob s49<(f_.t.id.length:Int)) <|
      if ¬ ((ix f_.ar (ix f_.s.id s49))=(ix f_.t.id (ix f_.ob s49))) then
       some (Ctl.ret (Sum.inr false))
      else
       ass (B64 (s49+1)) <|
       some (Ctl.next (s49+1))
     else
      some (Ctl.ret (Sum.inl ()))) fuel 0).bind fun e41 =>
    match e41 with
    | .inl b41 =>
     (QA (σ:=Int) (ε:=Unit ⊕ Bool) (fun s90 =>
      if s90<(f_.s.fr.length:Int) then
       (
        (QA (σ:=Int) (ε:=Bool ⊕ Unit) (fun s107 =>
         if s107<(f_.s.fr.length:Int) then
          (
           ass (0≤s90∧s90<(f_.s.to.length:Int)) <|
           ass (0≤s107∧s107<(f_.s.fr.length:Int)) <|
           if (ix f_.s.to s90)=(ix f_.s.fr s107) then
            ass (0≤s90∧s90<(f_.s.cs.length:Int)) <|
            ass (0≤s107∧s107<((rx f_.s.cs s90).length:Int)) <|
            ass (0≤ix (rx f_.s.cs s90) s107∧ix (rx f_.s.cs s90) s107<(f_.ar.length:Int)) <|
            ass (0≤s90∧s90<(f_.ar.length:Int)) <|
            ass (0≤ix f_.ar s90∧ix f_.ar s90<(f_.t.cs.length:Int)) <|
            ass (0≤s107∧s107<(f_.ar.length:Int)) <|
            ass (0≤ix f_.ar s107∧ix f_.ar s107<((rx f_.t.cs (ix f_.ar s90)).length:Int)) <|
            some ((ix f_.ar (ix (rx f_.s.cs s90) s107)) != (ix (rx f_.t.cs (ix f_.ar s90)) (ix f_.ar s107)))
           else
            some false:Option (Bool)).bind fun b109 =>
          if b109=true then
           some (Ctl.ret (Sum.inl false))
          else
           ass (B64 (s107+1)) <|
           some (Ctl.next (s107+1))
         else
          some (Ctl.ret (Sum.inr ()))) fuel 0).bind fun e107 =>
        match e107 with
        | .inl p107 =>
         some (Sum.inr p107)
        | .inr p107 =>
         some (Sum.inl p107):Option (Unit ⊕ Bool)).bind fun e92 =>
       match e92 with
       | .inl b92 =>
        ass (B64 (s90+1)) <|
        some (Ctl.next (s90+1))
       | .inr p92 =>
        some (Ctl.ret (Sum.inr p92))
      else
       some (Ctl.ret (Sum.inl ()))) fuel 0).bind fun e57 =>
     match e57 with
     | .inl b57 =>
      some true
     | .inr p57 =>
      some p57
    | .inr p41 =>
     some p41
   | .inr p13 =>
    some p13
theorem wkQ8 {F : Fx} {st st' : St} (m : List (Nat × Nat)) (h : (m.map Prod.fst).Nodup ∧ (m.map Prod.snd).Nodup ∧ (∀ id, id < F.pins → look id m = some id) ∧ (∀ p ∈ m, p.2 < st'.n) ∧ (∀ p ∈ st'.h, p.1 < st'.n) ∧ (∀ p ∈ st'.s, p.2 = rl m (st.get p.1) ∨ p.2 = .bot) ∧ ∀ p ∈ st'.h, hhOk m st.h p.1 p.2 := by simp [hP, hhOk, back, Cat.cells, Fn.cells, UA, U1, IA, I1, LA, L1, BA, B1, EA, E1, E2, eB, eI, eL]) : Wk F st st' := Wk.r1 m h
theorem w_s_l06Is (f_:Fn) (r:Bool) (h:Q3j f_=some r):Contract Try.prog 50 [.agg (f_.cells true)] (.val (.bool r)):=by
 refine Qe (rvs:=[.tmp 2]) (rs:=[.val (.bool r)]) Try.func50 rfl rfl rfl rfl (by simp [Try.f50]) fun F hN hP=>?_;unfold Q3j at h;refine Q3 ?_;refine runQ hN fun K hK=>?_;simp [-Q0,-Q5,-Q1,-Q6,-Q2];repeat refine sdQ ?_
 refine hK _ ?_;clear hK K;refine tn ?_;refine Q8 (st':=⟨[(1,.adr 0 0 0)],[(0,.mix 12 [(Fn.cells true f_)])],1⟩) (wkQ8 [(0,0)]) ?_;refine Q3 ?_;refine w_runS mo (by rw [hN];decide) fun K hK=>?_;simp [-Q0,-Q5,-Q1,-Q6,-Q2];repeat refine sdQ ?_
 refine hK _ ?_;clear hK K;refine tn ?_;refine Q8 (st':=⟨[(1,.adr 0 0 0),(3,.adr 1 0 0),(4,.adr 2 0 0)],[(0,.mix 12 [(Fn.cells true f_)]),(1,.mix 5 [(Cat.cells true f_.s)]),(2,.mix 5 [(Cat.cells true f_.t)])],3⟩) (wkQ8 [(0,0),(1,1),(2,2)]) ?_;refine Q3 ?_;refine Q3 ?_;replace h:=bind_some h;obtain ⟨e1,h,h1⟩:=h;refine Qj (fun b1:Bool=>⟨[(1,.adr 0 0 0),(3,.adr 1 0 0),(4,.adr 2 0 0),(37,.val (.bool b1))],[(0,.mix 12 [(Fn.cells true f_)]),(1,.mix 5 [(Cat.cells true f_.s)]),(2,.mix 5 [(Cat.cells true f_.t)])],3⟩) (fun b1=>b1=e1) ?_ ?_
 ·refine runQ hN fun K hK=>?_;simp [-Q0,-Q5,-Q1,-Q6,-Q2];repeat with_reducible refine sdQ ?_
  replace h:=bind_some h;obtain ⟨v2,hv2,h⟩:=h;refine Q7 (Q6P _ v2 hv2) (.cons (.aggL (.cons .val (.cons .lst (.cons .lst (.cons .lst (.cons .lst .nil)))))) .nil) ?_;simp [-Q0,-Q5,-Q1,-Q6,-Q2,unk,unA,unE,unT,unC,flat];repeat with_reducible refine sdQ ?_
  refine Qn (fun g=>?_) (fun g=>?_)
  ·have g3:¬ (¬ (v2=true)):=gQ;clear g;replace h:=if_r g3 h;simp [-Q0,-Q5,-Q1,-Q6,-Q2];(repeat with_reducible refine sdQ ?_);replace h:=bind_some h;obtain ⟨v4,hv4,h⟩:=h;refine Q7 (Q6P _ v4 hv4) (.cons (.aggL (.cons .val (.cons .lst (.cons .lst (.cons .lst (.cons .lst .nil)))))) .nil) ?_;simp [-Q0,-Q5,-Q1,-Q6,-Q2,unk,unA,unE,unT,unC,flat];(repeat with_reducible refine sdQ ?_);refine Qn (fun g=>?_) (fun g=>?_)
   ·have g5:¬ (¬ (v4=true)):=gQ;clear g;replace h:=if_r g5 h;simp [-Q0,-Q5,-Q1,-Q6,-Q2];(repeat with_reducible refine sdQ ?_);refine Qn (fun g=>?_) (fun g=>?_)
    ·have g6:¬ (¬ ((f_.ob.length:Int)=f_.s.n)):=gQ;clear g;replace h:=if_r g6 h;simp [-Q0,-Q5,-Q1,-Q6,-Q2];(repeat refine sdQ ?_);refine hK _ ?_;exact jn (b:=(f_.ar.length:Int) != (f_.s.fr.length:Int)) (Option.some.inj h) (wkQ8 [(0,0),(1,1),(2,2)])
    have g6:¬ ((f_.ob.length:Int)=f_.s.n):=gQ;clear g;replace h:=if_l g6 h;simp [-Q0,-Q5,-Q1,-Q6,-Q2];(repeat refine sdQ ?_);refine hK _ ?_;exact jn (b:=true) (Option.some.inj h) (wkQ8 [(0,0),(1,1),(2,2)])
   have g5:¬ (v4=true):=gQ;clear g;replace h:=if_l g5 h;simp [-Q0,-Q5,-Q1,-Q6,-Q2];(repeat refine sdQ ?_);refine hK _ ?_;exact jn (b:=true) (Option.some.inj h) (wkQ8 [(0,0),(1,1),(2,2)])
  have g3:¬ (v2=true):=gQ;clear g;replace h:=if_l g3 h;simp [-Q0,-Q5,-Q1,-Q6,-Q2];repeat refine sdQ ?_
  refine hK _ ?_;exact jn (b:=true) (Option.some.inj h) (wkQ8 [(0,0),(1,1),(2,2)])
 intro b1 hb1;have h:=h1;try rw [← hb1] at h
 clear h1;try dsimp only at h
 refine Qc rfl (fun g=>?_) fun g=>?_
 ·have g7:b1=true:=gQ;clear g;replace h:=if_l g7 h;refine Q3 ?_;refine runQ hN fun K hK=>?_;simp [-Q0,-Q5,-Q1,-Q6,-Q2];repeat refine sdQ ?_
  refine hK _ ?_;clear hK K;refine tn ?_;refine Q8 (st':=⟨[(2,.val (.bool false))],[],0⟩) (wkQ8 []) ?_;refine Qk ?_;refine tr ?_;have hr:=Option.some.inj h;rw [← hr];refine ⟨_,(.tmp .nil),?_⟩;refine ⟨(.one rfl rfl .nil),[.val (.bool false)],[],by simp [Cat.cells,Fn.cells,UA,U1,IA,I1,LA,L1,BA,B1,EA,E1,E2,eB,eI,eL],by simp,(UpL.refl _)⟩
 have g7:¬ (b1=true):=gQ;clear g;replace h:=if_r g7 h;refine Qd ?_;refine tn ?_;refine Q3 ?_;refine Q3 ?_;replace h:=bind_some h;obtain ⟨e8,h,h8⟩:=h;refine Qj (fun b8:Bool=>⟨[(1,.adr 0 0 0),(3,.adr 1 0 0),(4,.adr 2 0 0),(52,.val (.bool b8))],[(0,.mix 12 [(Fn.cells true f_)]),(1,.mix 5 [(Cat.cells true f_.s)]),(2,.mix 5 [(Cat.cells true f_.t)])],3⟩) (fun b8=>b8=e8) ?_ ?_
 ·refine runQ hN fun K hK=>?_;simp [-Q0,-Q5,-Q1,-Q6,-Q2];repeat with_reducible refine sdQ ?_
  replace h:=bind_some h;obtain ⟨v9,hv9,h⟩:=h;refine Q7 (Q5F _ _ v9 hv9) (.cons .val (.cons .lst .nil)) ?_;simp [-Q0,-Q5,-Q1,-Q6,-Q2,unk,unA,unE,unT,unC,flat];repeat with_reducible refine sdQ ?_
  refine Qn (fun g=>?_) (fun g=>?_)
  ·have g10:¬ (¬ (v9=true)):=gQ;clear g;replace h:=if_r g10 h;simp [-Q0,-Q5,-Q1,-Q6,-Q2];(repeat with_reducible refine sdQ ?_);replace h:=bind_some h;obtain ⟨v11,hv11,h⟩:=h;refine Q7 (Q5F _ _ v11 hv11) (.cons .val (.cons .lst .nil)) ?_;simp [-Q0,-Q5,-Q1,-Q6,-Q2,unk,unA,unE,unT,unC,flat];(repeat refine sdQ ?_);refine hK _ ?_;exact jn (b:=!v11) (Option.some.inj h) (wkQ8 [(0,0),(1,1),(2,2)])
  have g10:¬ (v9=true):=gQ;clear g;replace h:=if_l g10 h;simp [-Q0,-Q5,-Q1,-Q6,-Q2];repeat refine sdQ ?_
  refine hK _ ?_;exact jn (b:=true) (Option.some.inj h) (wkQ8 [(0,0),(1,1),(2,2)])
 intro b8 hb8;have h:=h8;try rw [← hb8] at h
 clear h8;try dsimp only at h
 refine Qc rfl (fun g=>?_) fun g=>?_
 ·have g12:b8=true:=gQ;clear g;replace h:=if_l g12 h;refine Q3 ?_;refine runQ hN fun K hK=>?_;simp [-Q0,-Q5,-Q1,-Q6,-Q2];repeat refine sdQ ?_
  refine hK _ ?_;clear hK K;refine tn ?_;refine Q8 (st':=⟨[(2,.val (.bool false))],[],0⟩) (wkQ8 []) ?_;refine Qk ?_;refine tr ?_;have hr:=Option.some.inj h;rw [← hr];refine ⟨_,(.tmp .nil),?_⟩;refine ⟨(.one rfl rfl .nil),[.val (.bool false)],[],by simp [Cat.cells,Fn.cells,UA,U1,IA,I1,LA,L1,BA,B1,EA,E1,E2,eB,eI,eL],by simp,(UpL.refl _)⟩
 have g12:¬ (b8=true):=gQ;clear g;replace h:=if_r g12 h;refine Qd ?_;refine tn ?_;refine Q3 ?_;refine Q3 ?_;refine runQ hN fun K hK=>?_;simp [-Q0,-Q5,-Q1,-Q6,-Q2];repeat refine sdQ ?_
 refine hK _ ?_;clear hK K;refine tn ?_;refine Q8 (st':=⟨[(1,.adr 0 0 0),(3,.adr 1 0 0),(4,.adr 2 0 0),(5,iV 0)],[(0,.mix 12 [(Fn.cells true f_)]),(1,.mix 5 [(Cat.cells true f_.s)]),(2,.mix 5 [(Cat.cells true f_.t)])],3⟩) (wkQ8 [(0,0),(1,1),(2,2)]) ?_;replace h:=bind_some h;obtain ⟨e13,h,h13⟩:=h;refine Qj (fun b13:Unit=>⟨[(1,.adr 0 0 0),(3,.adr 1 0 0),(4,.adr 2 0 0)],[(0,.mix 12 [(Fn.cells true f_)]),(1,.mix 5 [(Cat.cells true f_.s)]),(2,.mix 5 [(Cat.cells true f_.t)])],3⟩) (fun b13=>Sum.inl b13=e13) ?_ ?_
 ·refine Qa ?_;refine Qx h (fun s27:Int=>⟨[(1,.adr 0 0 0),(3,.adr 1 0 0),(4,.adr 2 0 0),(5,iV s27)],[(0,.mix 12 [(Fn.cells true f_)]),(1,.mix 5 [(Cat.cells true f_.s)]),(2,.mix 5 [(Cat.cells true f_.t)])],3⟩) (wkQ8 [(0,0),(1,1),(2,2)]) ?_;clear h;intro k27 s27 c27 h hk27;refine Q3 ?_;refine Q3 ?_;refine runQ hN fun K hK=>?_;simp [-Q0,-Q5,-Q1,-Q6,-Q2];repeat refine sdQ ?_
  refine hK _ ?_;clear hK K;refine tn ?_;refine Q8 (st':=⟨[(1,.adr 0 0 0),(3,.adr 1 0 0),(4,.adr 2 0 0),(5,iV s27),(57,.val (.bool (decide (s27<(f_.s.fr.length:Int)))))],[(0,.mix 12 [(Fn.cells true f_)]),(1,.mix 5 [(Cat.cells true f_.s)]),(2,.mix 5 [(Cat.cells true f_.t)])],3⟩) (wkQ8 [(0,0),(1,1),(2,2)]) ?_;refine Qc rfl (fun g=>?_) fun g=>?_
  ·have g28:s27<(f_.s.fr.length:Int):=gQ;clear g;replace h:=if_l g28 h;refine Qd ?_;refine tn ?_;refine Q3 ?_;refine Qa ?_;refine Q3 ?_;replace h:=bind_some h;obtain ⟨e29,h,h29⟩:=h;refine Qj (fun b29:Bool=>⟨[(1,.adr 0 0 0),(3,.adr 1 0 0),(4,.adr 2 0 0),(5,iV s27),(99,.val (.bool b29))],[(0,.mix 12 [(Fn.cells true f_)]),(1,.mix 5 [(Cat.cells true f_.s)]),(2,.mix 5 [(Cat.cells true f_.t)])],3⟩) (fun b29=>b29=e29) ?_ ?_
   ·refine runQ hN fun K hK=>?_;replace h:=Q4 h;obtain ⟨a30,h⟩:=h;replace h:=Q4 h;obtain ⟨a31,h⟩:=h;replace h:=Q4 h;obtain ⟨a32,h⟩:=h;replace h:=Q4 h;obtain ⟨a33,h⟩:=h;simp [-Q0,-Q5,-Q1,-Q6,-Q2,at_I a30,at_I a31,at_I a32,at_I a33];(repeat with_reducible refine sdQ ?_);refine Qn (fun g=>?_) (fun g=>?_)
    ·have g34:¬ (¬ ((ix f_.t.fr (ix f_.ar s27))=(ix f_.ob (ix f_.s.fr s27)))):=gQ;clear g;replace h:=if_r g34 h;replace h:=Q4 h;obtain ⟨a35,h⟩:=h;replace h:=Q4 h;obtain ⟨a36,h⟩:=h;replace h:=Q4 h;obtain ⟨a37,h⟩:=h;replace h:=Q4 h;obtain ⟨a38,h⟩:=h;simp [-Q0,-Q5,-Q1,-Q6,-Q2,at_I a30,at_I a31,at_I a32,at_I a33,at_I a35,at_I a36,at_I a37,at_I a38];(repeat refine sdQ ?_);refine hK _ ?_;exact jn (b:=(ix f_.t.to (ix f_.ar s27)) != (ix f_.ob (ix f_.s.to s27))) (Option.some.inj h) (wkQ8 [(0,0),(1,1),(2,2)])
    have g34:¬ ((ix f_.t.fr (ix f_.ar s27))=(ix f_.ob (ix f_.s.fr s27))):=gQ;clear g;replace h:=if_l g34 h;simp [-Q0,-Q5,-Q1,-Q6,-Q2,at_I a30,at_I a31,at_I a32,at_I a33];(repeat refine sdQ ?_);refine hK _ ?_;exact jn (b:=true) (Option.some.inj h) (wkQ8 [(0,0),(1,1),(2,2)])
   intro b29 hb29;have h:=h29;(try rw [← hb29] at h);clear h29;(try dsimp only at h);refine Qc rfl (fun g=>?_) fun g=>?_
   ·have g39:b29=true:=gQ;clear g;replace h:=if_l g39 h;refine Q3 ?_;refine runQ hN fun K hK=>?_;simp [-Q0,-Q5,-Q1,-Q6,-Q2];(repeat refine sdQ ?_);refine hK _ ?_;clear hK K;refine tn ?_;refine Q8 (st':=⟨[(2,.val (.bool false))],[],0⟩) (wkQ8 []) ?_;refine Qk ?_;refine br ?_;refine tr ?_;refine lr ?_;refine br ?_;refine tr ?_;cases h;have q:_=e13:=hk27;have h:=h13;rw [← q] at h;clear q;(try dsimp only at h);have hr:=Option.some.inj h;rw [← hr];refine ⟨_,(.tmp .nil),?_⟩;refine ⟨(.one rfl rfl .nil),[.val (.bool false)],[],by simp [Cat.cells,Fn.cells,UA,U1,IA,I1,LA,L1,BA,B1,EA,E1,E2,eB,eI,eL],by simp,(UpL.refl _)⟩
   have g39:¬ (b29=true):=gQ;clear g;replace h:=if_r g39 h;refine Qd ?_;refine bn ?_;refine tn ?_;refine runQ hN fun K hK=>?_;replace h:=Q4 h;obtain ⟨a40,h⟩:=h;simp [-Q0,-Q5,-Q1,-Q6,-Q2,Qt a40];(repeat refine sdQ ?_);refine hK _ ?_;clear hK K;cases h;exact rn (s':=s27+1) hk27 (wkQ8 [(0,0),(1,1),(2,2)])
  have g28:¬ (s27<(f_.s.fr.length:Int)):=gQ;clear g;replace h:=if_r g28 h;refine Qq ?_;refine tx ?_;refine lx ?_;refine bh ?_;cases h;exact jn (b:=()) hk27 (wkQ8 [(0,0),(1,1),(2,2)])
 intro b13 hb13;have h:=h13;try rw [← hb13] at h
 clear h13;try dsimp only at h
 refine Q3 ?_;refine Q3 ?_;refine runQ hN fun K hK=>?_;simp [-Q0,-Q5,-Q1,-Q6,-Q2];repeat refine sdQ ?_
 refine hK _ ?_;clear hK K;refine tn ?_;refine Q8 (st':=⟨[(1,.adr 0 0 0),(3,.adr 1 0 0),(4,.adr 2 0 0),(6,iV 0)],[(0,.mix 12 [(Fn.cells true f_)]),(1,.mix 5 [(Cat.cells true f_.s)]),(2,.mix 5 [(Cat.cells true f_.t)])],3⟩) (wkQ8 [(0,0),(1,1),(2,2)]) ?_;replace h:=bind_some h;obtain ⟨e41,h,h41⟩:=h;refine Qj (fun b41:Unit=>⟨[(1,.adr 0 0 0),(3,.adr 1 0 0),(4,.adr 2 0 0)],[(0,.mix 12 [(Fn.cells true f_)]),(1,.mix 5 [(Cat.cells true f_.s)]),(2,.mix 5 [(Cat.cells true f_.t)])],3⟩) (fun b41=>Sum.inl b41=e41) ?_ ?_
 ·refine Qa ?_;refine Qx h (fun s49:Int=>⟨[(1,.adr 0 0 0),(3,.adr 1 0 0),(4,.adr 2 0 0),(6,iV s49)],[(0,.mix 12 [(Fn.cells true f_)]),(1,.mix 5 [(Cat.cells true f_.s)]),(2,.mix 5 [(Cat.cells true f_.t)])],3⟩) (wkQ8 [(0,0),(1,1),(2,2)]) ?_;clear h;intro k49 s49 c49 h hk49;refine Q3 ?_;refine Q3 ?_;refine runQ hN fun K hK=>?_;simp [-Q0,-Q5,-Q1,-Q6,-Q2];repeat refine sdQ ?_
  refine hK _ ?_;clear hK K;refine tn ?_;refine Q8 (st':=⟨[(1,.adr 0 0 0),(3,.adr 1 0 0),(4,.adr 2 0 0),(6,iV s49),(103,.val (.bool (decide (s49<f_.s.n))))],[(0,.mix 12 [(Fn.cells true f_)]),(1,.mix 5 [(Cat.cells true f_.s)]),(2,.mix 5 [(Cat.cells true f_.t)])],3⟩) (wkQ8 [(0,0),(1,1),(2,2)]) ?_;refine Qc rfl (fun g=>?_) fun g=>?_
  ·have g50:s49<f_.s.n:=gQ;clear g;replace h:=if_l g50 h;refine Qd ?_;refine tn ?_;refine Q3 ?_;refine Qa ?_;refine Q3 ?_;refine runQ hN fun K hK=>?_;replace h:=Q4 h;obtain ⟨a51,h⟩:=h;replace h:=Q4 h;obtain ⟨a52,h⟩:=h;replace h:=Q4 h;obtain ⟨a53,h⟩:=h;replace h:=Q4 h;obtain ⟨a54,h⟩:=h;simp [-Q0,-Q5,-Q1,-Q6,-Q2,at_I a51,at_I a52,at_I a53,at_I a54];(repeat refine sdQ ?_);refine hK _ ?_;clear hK K;refine tn ?_;refine Q8 (st':=⟨[(1,.adr 0 0 0),(3,.adr 1 0 0),(4,.adr 2 0 0),(6,iV s49),(124,.val (.bool ((ix f_.ar (ix f_.s.id s49)) != (ix f_.t.id (ix f_.ob s49)))))],[(0,.mix 12 [(Fn.cells true f_)]),(1,.mix 5 [(Cat.cells true f_.s)]),(2,.mix 5 [(Cat.cells true f_.t)])],3⟩) (wkQ8 [(0,0),(1,1),(2,2)]) ?_;refine Qc rfl (fun g=>?_) fun g=>?_
   ·have g55:¬ ((ix f_.ar (ix f_.s.id s49))=(ix f_.t.id (ix f_.ob s49))):=gQ;clear g;replace h:=if_l g55 h;refine Q3 ?_;refine runQ hN fun K hK=>?_;simp [-Q0,-Q5,-Q1,-Q6,-Q2];(repeat refine sdQ ?_);refine hK _ ?_;clear hK K;refine tn ?_;refine Q8 (st':=⟨[(2,.val (.bool false))],[],0⟩) (wkQ8 []) ?_;refine Qk ?_;refine br ?_;refine tr ?_;refine lr ?_;refine br ?_;refine tr ?_;cases h;have q:_=e41:=hk49;have h:=h41;rw [← q] at h;clear q;(try dsimp only at h);have hr:=Option.some.inj h;rw [← hr];refine ⟨_,(.tmp .nil),?_⟩;refine ⟨(.one rfl rfl .nil),[.val (.bool false)],[],by simp [Cat.cells,Fn.cells,UA,U1,IA,I1,LA,L1,BA,B1,EA,E1,E2,eB,eI,eL],by simp,(UpL.refl _)⟩
   have g55:¬ (¬ ((ix f_.ar (ix f_.s.id s49))=(ix f_.t.id (ix f_.ob s49)))):=gQ;clear g;replace h:=if_r g55 h;refine Qd ?_;refine bn ?_;refine tn ?_;refine runQ hN fun K hK=>?_;replace h:=Q4 h;obtain ⟨a56,h⟩:=h;simp [-Q0,-Q5,-Q1,-Q6,-Q2,Qt a56];(repeat refine sdQ ?_);refine hK _ ?_;clear hK K;cases h;exact rn (s':=s49+1) hk49 (wkQ8 [(0,0),(1,1),(2,2)])
  have g50:¬ (s49<f_.s.n):=gQ;clear g;replace h:=if_r g50 h;refine Qq ?_;refine tx ?_;refine lx ?_;refine bh ?_;cases h;exact jn (b:=()) hk49 (wkQ8 [(0,0),(1,1),(2,2)])
 intro b41 hb41;have h:=h41;try rw [← hb41] at h
 clear h41;try dsimp only at h
 refine Q3 ?_;refine Q3 ?_;refine runQ hN fun K hK=>?_;simp [-Q0,-Q5,-Q1,-Q6,-Q2];repeat refine sdQ ?_
 refine hK _ ?_;clear hK K;refine tn ?_;refine Q8 (st':=⟨[(1,.adr 0 0 0),(3,.adr 1 0 0),(4,.adr 2 0 0),(7,iV 0)],[(0,.mix 12 [(Fn.cells true f_)]),(1,.mix 5 [(Cat.cells true f_.s)]),(2,.mix 5 [(Cat.cells true f_.t)])],3⟩) (wkQ8 [(0,0),(1,1),(2,2)]) ?_;replace h:=bind_some h;obtain ⟨e57,h,h57⟩:=h;refine Qj (fun b57:Unit=>⟨[],[],0⟩) (fun b57=>Sum.inl b57=e57) ?_ ?_
 ·refine Qa ?_;refine Qx h (fun s90:Int=>⟨[(1,.adr 0 0 0),(3,.adr 1 0 0),(4,.adr 2 0 0),(7,iV s90)],[(0,.mix 12 [(Fn.cells true f_)]),(1,.mix 5 [(Cat.cells true f_.s)]),(2,.mix 5 [(Cat.cells true f_.t)])],3⟩) (wkQ8 [(0,0),(1,1),(2,2)]) ?_;clear h;intro k90 s90 c90 h hk90;refine Q3 ?_;refine Q3 ?_;refine runQ hN fun K hK=>?_;simp [-Q0,-Q5,-Q1,-Q6,-Q2];repeat refine sdQ ?_
  refine hK _ ?_;clear hK K;refine tn ?_;refine Q8 (st':=⟨[(1,.adr 0 0 0),(3,.adr 1 0 0),(4,.adr 2 0 0),(7,iV s90),(129,.val (.bool (decide (s90<(f_.s.fr.length:Int)))))],[(0,.mix 12 [(Fn.cells true f_)]),(1,.mix 5 [(Cat.cells true f_.s)]),(2,.mix 5 [(Cat.cells true f_.t)])],3⟩) (wkQ8 [(0,0),(1,1),(2,2)]) ?_;refine Qc rfl (fun g=>?_) fun g=>?_
  ·have g91:s90<(f_.s.fr.length:Int):=gQ;clear g;replace h:=if_l g91 h;refine Qd ?_;refine tn ?_;refine Q3 ?_;replace h:=bind_some h;obtain ⟨e92,h,h92⟩:=h;refine Qj (fun b92:Unit=>⟨[(1,.adr 0 0 0),(3,.adr 1 0 0),(4,.adr 2 0 0),(7,iV s90)],[(0,.mix 12 [(Fn.cells true f_)]),(1,.mix 5 [(Cat.cells true f_.s)]),(2,.mix 5 [(Cat.cells true f_.t)])],3⟩) (fun b92=>Sum.inl b92=e92) ?_ ?_
   ·refine Qa ?_;refine Q3 ?_;refine runQ hN fun K hK=>?_;simp [-Q0,-Q5,-Q1,-Q6,-Q2];(repeat refine sdQ ?_);refine hK _ ?_;clear hK K;refine tn ?_;refine Q8 (st':=⟨[(1,.adr 0 0 0),(3,.adr 1 0 0),(4,.adr 2 0 0),(7,iV s90),(8,iV 0)],[(0,.mix 12 [(Fn.cells true f_)]),(1,.mix 5 [(Cat.cells true f_.s)]),(2,.mix 5 [(Cat.cells true f_.t)])],3⟩) (wkQ8 [(0,0),(1,1),(2,2)]) ?_;refine Qa ?_;replace h:=bind_some h;obtain ⟨e107,he107,h107⟩:=h;refine Qx he107 (fun s107:Int=>⟨[(1,.adr 0 0 0),(3,.adr 1 0 0),(4,.adr 2 0 0),(7,iV s90),(8,iV s107)],[(0,.mix 12 [(Fn.cells true f_)]),(1,.mix 5 [(Cat.cells true f_.s)]),(2,.mix 5 [(Cat.cells true f_.t)])],3⟩) (wkQ8 [(0,0),(1,1),(2,2)]) ?_;intro k107 s107 c107 h hk107;refine Q3 ?_;refine Q3 ?_;refine runQ hN fun K hK=>?_;simp [-Q0,-Q5,-Q1,-Q6,-Q2];(repeat refine sdQ ?_);refine hK _ ?_;clear hK K;refine tn ?_;refine Q8 (st':=⟨[(1,.adr 0 0 0),(3,.adr 1 0 0),(4,.adr 2 0 0),(7,iV s90),(8,iV s107),(136,.val (.bool (decide (s107<(f_.s.fr.length:Int)))))],[(0,.mix 12 [(Fn.cells true f_)]),(1,.mix 5 [(Cat.cells true f_.s)]),(2,.mix 5 [(Cat.cells true f_.t)])],3⟩) (wkQ8 [(0,0),(1,1),(2,2)]) ?_;refine Qc rfl (fun g=>?_) fun g=>?_
    ·have g108:s107<(f_.s.fr.length:Int):=gQ;clear g;replace h:=if_l g108 h;refine Qd ?_;refine tn ?_;refine Q3 ?_;refine Qa ?_;refine Q3 ?_;replace h:=bind_some h;obtain ⟨e109,h,h109⟩:=h;refine Qj (fun b109:Bool=>⟨[(1,.adr 0 0 0),(3,.adr 1 0 0),(4,.adr 2 0 0),(7,iV s90),(8,iV s107),(180,.val (.bool b109))],[(0,.mix 12 [(Fn.cells true f_)]),(1,.mix 5 [(Cat.cells true f_.s)]),(2,.mix 5 [(Cat.cells true f_.t)])],3⟩) (fun b109=>b109=e109) ?_ ?_
     ·refine runQ hN fun K hK=>?_;replace h:=Q4 h;obtain ⟨a110,h⟩:=h;replace h:=Q4 h;obtain ⟨a111,h⟩:=h;simp [-Q0,-Q5,-Q1,-Q6,-Q2,at_I a110,at_I a111];(repeat with_reducible refine sdQ ?_);refine Qn (fun g=>?_) (fun g=>?_)
      ·have g112:(ix f_.s.to s90)=(ix f_.s.fr s107):=gQ;clear g;replace h:=if_l g112 h;replace h:=Q4 h;obtain ⟨a113,h⟩:=h;replace h:=Q4 h;obtain ⟨a114,h⟩:=h;replace h:=Q4 h;obtain ⟨a115,h⟩:=h;replace h:=Q4 h;obtain ⟨a116,h⟩:=h;replace h:=Q4 h;obtain ⟨a117,h⟩:=h;replace h:=Q4 h;obtain ⟨a118,h⟩:=h;replace h:=Q4 h;obtain ⟨a119,h⟩:=h;simp [-Q0,-Q5,-Q1,-Q6,-Q2,at_I a110,at_I a111,at_L a113,at_I a114,at_I a115,at_I a116,at_L a117,at_I a118,at_I a119];(repeat refine sdQ ?_);refine hK _ ?_;exact jn (b:=(ix f_.ar (ix (rx f_.s.cs s90) s107)) != (ix (rx f_.t.cs (ix f_.ar s90)) (ix f_.ar s107))) (Option.some.inj h) (wkQ8 [(0,0),(1,1),(2,2)])
      have g112:¬ ((ix f_.s.to s90)=(ix f_.s.fr s107)):=gQ;clear g;replace h:=if_r g112 h;simp [-Q0,-Q5,-Q1,-Q6,-Q2,at_I a110,at_I a111];(repeat refine sdQ ?_);refine hK _ ?_;exact jn (b:=false) (Option.some.inj h) (wkQ8 [(0,0),(1,1),(2,2)])
     intro b109 hb109;have h:=h109;(try rw [← hb109] at h);clear h109;(try dsimp only at h);refine Qc rfl (fun g=>?_) fun g=>?_
     ·have g120:b109=true:=gQ;clear g;replace h:=if_l g120 h;refine Q3 ?_;refine runQ hN fun K hK=>?_;simp [-Q0,-Q5,-Q1,-Q6,-Q2];(repeat refine sdQ ?_);refine hK _ ?_;clear hK K;refine tn ?_;refine Q8 (st':=⟨[(2,.val (.bool false))],[],0⟩) (wkQ8 []) ?_;refine Qk ?_;refine br ?_;refine tr ?_;refine lr ?_;refine br ?_;refine br ?_;refine tr ?_;refine lr ?_;refine br ?_;refine tr ?_;cases h;have q:_=e107:=hk107;have h:=h107;rw [← q] at h;clear q;(try dsimp only at h);cases h;have h:=h92;(try dsimp only at h);cases h;have q:_=e57:=hk90;have h:=h57;rw [← q] at h;clear q;(try dsimp only at h);have hr:=Option.some.inj h;rw [← hr];refine ⟨_,(.tmp .nil),?_⟩;refine ⟨(.one rfl rfl .nil),[.val (.bool false)],[],by simp [Cat.cells,Fn.cells,UA,U1,IA,I1,LA,L1,BA,B1,EA,E1,E2,eB,eI,eL],by simp,(UpL.refl _)⟩
     have g120:¬ (b109=true):=gQ;clear g;replace h:=if_r g120 h;refine Qd ?_;refine bn ?_;refine tn ?_;refine runQ hN fun K hK=>?_;replace h:=Q4 h;obtain ⟨a121,h⟩:=h;simp [-Q0,-Q5,-Q1,-Q6,-Q2,Qt a121];(repeat refine sdQ ?_);refine hK _ ?_;clear hK K;cases h;exact rn (s':=s107+1) hk107 (wkQ8 [(0,0),(1,1),(2,2)])
    have g108:¬ (s107<(f_.s.fr.length:Int)):=gQ;clear g;replace h:=if_r g108 h;refine Qq ?_;refine tx ?_;refine lx ?_;refine bh ?_;refine bn ?_;cases h;have q:_=e107:=hk107;have h:=h107;rw [← q] at h;clear q;(try dsimp only at h);exact jn (b:=()) (Option.some.inj h) (wkQ8 [(0,0),(1,1),(2,2)])
   intro b92 hb92;have h:=h92;(try rw [← hb92] at h);clear h92;(try dsimp only at h);refine runQ hN fun K hK=>?_;replace h:=Q4 h;obtain ⟨a122,h⟩:=h;simp [-Q0,-Q5,-Q1,-Q6,-Q2,Qt a122];(repeat refine sdQ ?_);refine hK _ ?_;clear hK K;cases h;exact rn (s':=s90+1) hk90 (wkQ8 [(0,0),(1,1),(2,2)])
  have g91:¬ (s90<(f_.s.fr.length:Int)):=gQ;clear g;replace h:=if_r g91 h;refine Qq ?_;refine tx ?_;refine lx ?_;refine bh ?_;cases h;exact jn (b:=()) hk90 (wkQ8 [])
 intro b57 hb57;have h:=h57;try rw [← hb57] at h
 clear h57;try dsimp only at h
 refine Q3 ?_;refine runQ hN fun K hK=>?_;simp [-Q0,-Q5,-Q1,-Q6,-Q2];repeat refine sdQ ?_
 refine hK _ ?_;clear hK K;refine tn ?_;refine Q8 (st':=⟨[(2,.val (.bool true))],[],0⟩) (wkQ8 []) ?_;refine Qk ?_;have hr:=Option.some.inj h;rw [← hr];refine ⟨_,(.tmp .nil),?_⟩;refine ⟨(.one rfl rfl .nil),[.val (.bool true)],[],by simp [Cat.cells,Fn.cells,UA,U1,IA,I1,LA,L1,BA,B1,EA,E1,E2,eB,eI,eL],by simp,(UpL.refl _)⟩
structure Fn.Is (f:Fn):Prop where
 s:f.s.Is
 t:f.t.Is
 lo:(f.ob.length:Int)=f.s.n
 la:f.ar.length=f.s.fr.length
 ob:∀ j:Nat,j<f.ob.length→0≤ix f.ob j∧ix f.ob j<f.t.n
 ar:∀ j:Nat,j<f.ar.length→0≤ix f.ar j∧ix f.ar j<f.t.fr.length
 ends:∀ a:Nat,a<f.s.fr.length→ix f.t.fr (ix f.ar a)=ix f.ob (ix f.s.fr a)∧ix f.t.to (ix f.ar a)=ix f.ob (ix f.s.to a)
 ids:∀ x:Nat,x<f.s.id.length→ix f.ar (ix f.s.id x)=ix f.t.id (ix f.ob x)
 comp:∀ a:Nat,a<f.s.fr.length→∀ b:Nat,b<f.s.fr.length→ix f.s.to a=ix f.s.fr b→ix f.ar (ix (rx f.s.cs a) b)=ix (rx f.t.cs (ix f.ar a)) (ix f.ar b)
theorem Cat.Sh.frn {c:Cat} (h:c.Sh) {a:Nat} (ha:a<c.fr.length):(0≤ix c.fr a∧ix c.fr a<c.id.length)∧(0≤ix c.to a∧ix c.to a<c.id.length):=⟨h.fr' (by omega) (by omega),h.to' (by omega) (by omega)⟩
theorem Cat.Sh.idn {c:Cat} (h:c.Sh) {a:Nat} (ha:a<c.id.length):0≤ix c.id a∧ix c.id a<c.fr.length:=h.id' (by omega) (by omega)
theorem Cat.Sh.cmp {c:Cat} (h:c.Sh) {f g:Int} (h0:0≤f) (h1:f<c.fr.length) (h2:0≤g) (h3:g<c.fr.length) (e:ix c.to f=ix c.fr g):0≤ix (rx c.cs f) g∧ix (rx c.cs f) g<c.fr.length:=by
 have:=(h.cell' h0 h1 h2 h3).2 e;omega
theorem e_l06Is (f:Fn):Q3j f=some (bo f.Is):=by
 unfold Q3j
 by_cases h1:f.s.Is
 case neg=>rw [QD (show ¬ f.Is from fun q=>h1 q.s)];simp [Q1h,bo,h1]
 by_cases h2:f.t.Is
 case neg=>rw [QD (show ¬ f.Is from fun q=>h2 q.t)];simp [Q1h,bo,h1,h2]
 by_cases h3:(f.ob.length:Int)=f.s.n
 case neg=>rw [QD (show ¬ f.Is from fun q=>h3 q.lo)];simp [Q1h,bo,h1,h2,h3]
 by_cases h4:(f.ar.length:Int)=f.s.fr.length
 case neg=>rw [QD (show ¬ f.Is from fun q=>h4 (by rw [q.la]))];simp [Q1h,bo,h1,h2,h3,h4]
 by_cases h5:f.ob.all (inR f.t.n)=true
 case neg=>rw [QD (show ¬ f.Is from fun q=>h5 (all_inR.2 q.ob))];simp [Q1h,Q1O,bo,h1,h2,h3,h4,h5]
 by_cases h6:f.ar.all (inR f.t.fr.length)=true
 case neg=>rw [QD (show ¬ f.Is from fun q=>h6 (all_inR.2 q.ar))];simp [Q1h,Q1O,bo,h1,h2,h3,h4,h5,h6]
 have ho:=all_inR.1 h5;have ha:=all_inR.1 h6;have hs:=h1.1;have ht:=h2.1;simp only [Q1h,Q1O,QY h1,QY h2,h3,h4,h5,h6,Option.bind_some,if_true,if_false,not_true_eq_false,bne_self_eq_false,Bool.not_true,Bool.false_eq_true];refine Q1j f.s.fr.length (fun a:Nat=>ix f.t.fr (ix f.ar a)=ix f.ob (ix f.s.fr a)∧ix f.t.to (ix f.ar a)=ix f.ob (ix f.s.to a)) (eb:=Sum.inr false) (eg:=Sum.inl ()) (by have:=hs.m40;omega) (fun a hi hp=>?_) (fun a hi hp=>?_) ?_ (fun hx=>?_) fun q1=>?_
 ·have:=hs.frn hi;have:=ha a (by omega);have:=hs.lt;have:=ht.lt;have:=hs.li;have:=hs.m40;simp (disch:=omega) only [Q9,if_pos,B64,hp.1,hp.2,Option.bind_some,not_true_eq_false,if_false,bne_self_eq_false,Bool.false_eq_true]
 ·have:=hs.frn hi;have:=ha a (by omega);have:=hs.lt;have:=ht.lt;have:=hs.li;have:=hs.m40
  by_cases hp1:ix f.t.fr (ix f.ar a)=ix f.ob (ix f.s.fr a)
  ·have hp2:¬ ix f.t.to (ix f.ar a)=ix f.ob (ix f.s.to a):=fun h=>hp ⟨hp1,h⟩;simp (disch:=omega) [Q9,B64,hp1,hp2,hi]
  simp (disch:=omega) [Q9,B64,hp1,hi]
 ·simp
 ·rw [QD (show ¬ f.Is from fun q=>hx q.ends)]
 simp only;refine Q1j f.s.id.length (fun x:Nat=>ix f.ar (ix f.s.id x)=ix f.t.id (ix f.ob x)) (eb:=Sum.inr false) (eg:=Sum.inl ()) (by have:=hs.n8;have:=hs.li;omega) (fun a hi hp=>?_) (fun a hi hp=>?_) ?_ (fun hx=>?_) fun q2=>?_
 ·have:=hs.idn hi;have:=ho a (by have:=hs.li;omega);have:=hs.li;have:=ht.li;have:=hs.n8;simp (disch:=omega) [Q9,B64,hp];omega
 ·have:=hs.idn hi;have:=ho a (by have:=hs.li;omega);have:=hs.li;have:=ht.li;have:=hs.n8;simp (disch:=omega) [Q9,B64,hp];omega
 ·simp [hs.li]
 ·rw [QD (show ¬ f.Is from fun q=>hx q.ids)]
 simp only;refine Q1j f.s.fr.length (fun a:Nat=>∀ b:Nat,b<f.s.fr.length→ix f.s.to a=ix f.s.fr b→ix f.ar (ix (rx f.s.cs a) b)=ix (rx f.t.cs (ix f.ar a)) (ix f.ar b)) (eb:=Sum.inr false) (eg:=Sum.inl ()) (by have:=hs.m40;omega) (fun a hi hp=>?_) (fun a hi hp=>?_) ?_ (fun hx=>?_) fun q3=>?_;rotate_left 2
 ·simp
 ·rw [QD (show ¬ f.Is from fun q=>hx q.comp)]
 ·rw [QY (show f.Is from ⟨h1,h2,h3,by omega,ho,ha,q1,q2,q3⟩)]
 all_goals
  have m40:=hs.m40;have h7:=hs.lt;have h8:=ha a (by omega);have h9:=hs.lc;have h10:=ht.lc;have h11:=hs.row' (j:=a) (by omega) (by omega);have h12:=ht.row' (j:=ix f.ar a) (by omega) (by omega);rw [if_pos (by omega)]
 all_goals
  rw [Option.bind_assoc];refine Q1j f.s.fr.length (fun b:Nat=>ix f.s.to a=ix f.s.fr b→ix f.ar (ix (rx f.s.cs a) b)=ix (rx f.t.cs (ix f.ar a)) (ix f.ar b)) (eb:=Sum.inl false) (eg:=Sum.inr ()) (by omega) (fun b hb hq=>?_) (fun b hb hq=>?_) ?_ (fun hn=>?_) fun hn=>?_
 all_goals first
  | exact absurd hp hn
  | exact absurd hn hp
  | (simp (disch:=omega) [Q9,B64];done)
  | skip
 all_goals
  have h13:=ha b (by omega)
  by_cases h14:ix f.s.to a=ix f.s.fr b
  ·have h15:=hs.cmp (f:=a) (g:=b) (by omega) (by omega) (by omega) (by omega) h14;first
    | (have hq1:=hq h14;simp (disch:=omega) [Q9,B64,h14,hq1,hb])
    | (have hq1:=fun e=>hq (fun _=>e);simp (disch:=omega) [Q9,B64,h14,hq1,hb];exact hq1)
  first
   | (simp (disch:=omega) [Q9,B64,h14,hb];done)
   | exact absurd (fun e=>absurd e h14) hq
attribute [local simp] eL eI Qs QH Q1B Cat.cells Fn.cells
noncomputable def Q30 (c_:Cat) (d_:Cat) (objects_:List Int) (arrows_:List Int):Option Fn :=
 (QW c_).bind fun v1 =>
 (QW d_).bind fun v2 =>
 (Q1f objects_).bind fun v3 =>
 (Q1f arrows_).bind fun v4 =>
 some (⟨v1,v2,v3,v4⟩:Fn)
theorem Q7s (c_:Cat) (d_:Cat) (objects_:List Int) (arrows_:List Int) (r:Fn) (h:Q30 c_ d_ objects_ arrows_=some r):Contract Try.prog 129 [.rptr (c_.cells true),.rptr (d_.cells true),lI objects_,lI arrows_] (.agg (r.cells true)):=by
 refine Qe (rvs:=[.cell 8 58]) (rs:=[.agg (r.cells true)]) Try.func129 rfl rfl rfl rfl (by simp [Try.f129]) fun F hN hP=>?_;unfold Q30 at h;refine Q3 ?_;refine runQ hN fun K hK=>?_;simp [-Q0,-Q5,-Q1,-Q6,-Q2];repeat refine sdQ ?_
 refine hK _ ?_;clear hK K;refine tn ?_;refine Q8 (st':=⟨[(0,.rptr (Cat.cells true c_)),(1,.rptr (Cat.cells true d_)),(2,lI objects_),(3,lI arrows_),(8,.adr 0 0 0)],[(0,.mix 12 [[iV 0,.val (.slice none 0 0),.val (.slice none 0 0),.val (.slice none 0 0),.val (.slice none 0 0),iV 0,.val (.slice none 0 0),.val (.slice none 0 0),.val (.slice none 0 0),.val (.slice none 0 0),.val (.slice none 0 0),.val (.slice none 0 0)]])],1⟩) (wkQ8 [(0,0)]) ?_;refine Q3 ?_;refine runQ hN fun K hK=>?_;simp [-Q0,-Q5,-Q1,-Q6,-Q2];repeat with_reducible refine sdQ ?_
 replace h:=bind_some h;obtain ⟨v1,hv1,h⟩:=h;refine Q7 (Q2L _ v1 hv1) (.cons (.preT (by simp [Cat.cells])) .nil) ?_;simp [-Q0,-Q5,-Q1,-Q6,-Q2,unk,unA,unE,unT,unC,flat];repeat with_reducible refine sdQ ?_
 replace h:=bind_some h;obtain ⟨v2,hv2,h⟩:=h;refine Q7 (Q2L _ v2 hv2) (.cons (.preT (by simp [Cat.cells])) .nil) ?_;simp [-Q0,-Q5,-Q1,-Q6,-Q2,unk,unA,unE,unT,unC,flat];repeat with_reducible refine sdQ ?_
 replace h:=bind_some h;obtain ⟨v3,hv3,h⟩:=h;refine Q7 (Q2M _ v3 hv3) (.cons .lst .nil) ?_;simp [-Q0,-Q5,-Q1,-Q6,-Q2,unk,unA,unE,unT,unC,flat];repeat with_reducible refine sdQ ?_
 replace h:=bind_some h;obtain ⟨v4,hv4,h⟩:=h;refine Q7 (Q2M _ v4 hv4) (.cons .lst .nil) ?_;simp [-Q0,-Q5,-Q1,-Q6,-Q2,unk,unA,unE,unT,unC,flat];repeat refine sdQ ?_
 refine hK _ ?_;clear hK K;refine tn ?_;refine Q8 (st':=⟨[(8,.adr 0 0 0)],[(0,.mix 12 [[iV v1.n,.own 1 0 v1.fr.length,.own 2 0 v1.to.length,.own 3 0 v1.id.length,.own 4 0 v1.cs.length,iV v2.n,.own 5 0 v2.fr.length,.own 6 0 v2.to.length,.own 7 0 v2.id.length,.own 8 0 v2.cs.length,.own 9 0 v3.length,.own 10 0 v4.length]]),(1,rI v1.fr),(2,rI v1.to),(3,rI v1.id),(4,.row 1 (Ls v1.cs)),(5,rI v2.fr),(6,rI v2.to),(7,rI v2.id),(8,.row 1 (Ls v2.cs)),(9,rI v3),(10,rI v4)],11⟩) (wkQ8 [(0,0),(2,1),(3,2),(4,3),(5,4),(7,5),(8,6),(9,7),(10,8),(11,9),(12,10)]) ?_;refine Qk ?_;have hr:=Option.some.inj h;rw [← hr];refine ⟨_,(.cell Q8K rfl rfl rfl (by simp) (by simp) .nil),?_⟩;refine ⟨(.agg rfl .nil),[iV v1.n,lI v1.fr,lI v1.to,lI v1.id,.lst true 1 (Ls v1.cs),iV v2.n,lI v2.fr,lI v2.to,lI v2.id,.lst true 1 (Ls v2.cs),lI v3,lI v4],[1,2,3,4,5,6,7,8,9,10],by simp [Cat.cells,Fn.cells,UA,U1,IA,I1,LA,L1,BA,B1,EA,E1,E2,eB,eI,eL],by simp,(UpL.refl _)⟩
attribute [local simp] eL eI Qs QH Q1B Cat.cells Fn.cells
noncomputable def Q1t (c_:Cat) (d_:Cat) (objects_:List Int) (arrows_:List Int):Option Fn :=
 (Q2e c_).bind fun v1 =>
 (Q2e d_).bind fun v2 =>
 (QG objects_).bind fun v3 =>
 (QG arrows_).bind fun v4 =>
 some (⟨v1,v2,v3,v4⟩:Fn)
theorem Q57 (c_:Cat) (d_:Cat) (objects_:List Int) (arrows_:List Int) (r:Fn) (h:Q1t c_ d_ objects_ arrows_=some r):Contract Try.prog 90 [.agg (c_.cells true),.agg (d_.cells true),lI objects_,lI arrows_] (.agg (r.cells true)):=by
 refine Qe (rvs:=[.cell 8 58]) (rs:=[.agg (r.cells true)]) Try.func90 rfl rfl rfl rfl (by simp [Try.f90]) fun F hN hP=>?_;unfold Q1t at h;refine Q3 ?_;refine runQ hN fun K hK=>?_;simp [-Q0,-Q5,-Q1,-Q6,-Q2];repeat refine sdQ ?_
 refine hK _ ?_;clear hK K;refine tn ?_;refine Q8 (st':=⟨[(2,lI objects_),(3,lI arrows_),(4,.adr 0 0 0),(5,.adr 1 0 0),(8,.adr 2 0 0)],[(0,.mix 5 [(Cat.cells true c_)]),(1,.mix 5 [(Cat.cells true d_)]),(2,.mix 12 [[iV 0,.val (.slice none 0 0),.val (.slice none 0 0),.val (.slice none 0 0),.val (.slice none 0 0),iV 0,.val (.slice none 0 0),.val (.slice none 0 0),.val (.slice none 0 0),.val (.slice none 0 0),.val (.slice none 0 0),.val (.slice none 0 0)]])],3⟩) (wkQ8 [(0,0),(1,1),(2,2)]) ?_;refine Q3 ?_;refine runQ hN fun K hK=>?_;simp [-Q0,-Q5,-Q1,-Q6,-Q2];repeat with_reducible refine sdQ ?_
 replace h:=bind_some h;obtain ⟨v1,hv1,h⟩:=h;refine Q7 (Q5H _ v1 hv1) (.cons (.aggL (.cons .val (.cons .lst (.cons .lst (.cons .lst (.cons .lst .nil)))))) .nil) ?_;simp [-Q0,-Q5,-Q1,-Q6,-Q2,unk,unA,unE,unT,unC,flat];repeat with_reducible refine sdQ ?_
 replace h:=bind_some h;obtain ⟨v2,hv2,h⟩:=h;refine Q7 (Q5H _ v2 hv2) (.cons (.aggL (.cons .val (.cons .lst (.cons .lst (.cons .lst (.cons .lst .nil)))))) .nil) ?_;simp [-Q0,-Q5,-Q1,-Q6,-Q2,unk,unA,unE,unT,unC,flat];repeat with_reducible refine sdQ ?_
 replace h:=bind_some h;obtain ⟨v3,hv3,h⟩:=h;refine Q7 (Q1x _ v3 hv3) (.cons .lst .nil) ?_;simp [-Q0,-Q5,-Q1,-Q6,-Q2,unk,unA,unE,unT,unC,flat];repeat with_reducible refine sdQ ?_
 replace h:=bind_some h;obtain ⟨v4,hv4,h⟩:=h;refine Q7 (Q1x _ v4 hv4) (.cons .lst .nil) ?_;simp [-Q0,-Q5,-Q1,-Q6,-Q2,unk,unA,unE,unT,unC,flat];repeat refine sdQ ?_
 refine hK _ ?_;clear hK K;refine tn ?_;refine Q8 (st':=⟨[(8,.adr 0 0 0)],[(0,.mix 12 [[iV v1.n,.own 1 0 v1.fr.length,.own 2 0 v1.to.length,.own 3 0 v1.id.length,.own 4 0 v1.cs.length,iV v2.n,.own 5 0 v2.fr.length,.own 6 0 v2.to.length,.own 7 0 v2.id.length,.own 8 0 v2.cs.length,.own 9 0 v3.length,.own 10 0 v4.length]]),(1,rI v1.fr),(2,rI v1.to),(3,rI v1.id),(4,.row 1 (Ls v1.cs)),(5,rI v2.fr),(6,rI v2.to),(7,rI v2.id),(8,.row 1 (Ls v2.cs)),(9,rI v3),(10,rI v4)],11⟩) (wkQ8 [(2,0),(4,1),(5,2),(6,3),(7,4),(9,5),(10,6),(11,7),(12,8),(13,9),(14,10)]) ?_;refine Qk ?_;have hr:=Option.some.inj h;rw [← hr];refine ⟨_,(.cell Q8K rfl rfl rfl (by simp) (by simp) .nil),?_⟩;refine ⟨(.agg rfl .nil),[iV v1.n,lI v1.fr,lI v1.to,lI v1.id,.lst true 1 (Ls v1.cs),iV v2.n,lI v2.fr,lI v2.to,lI v2.id,.lst true 1 (Ls v2.cs),lI v3,lI v4],[1,2,3,4,5,6,7,8,9,10],by simp [Cat.cells,Fn.cells,UA,U1,IA,I1,LA,L1,BA,B1,EA,E1,E2,eB,eI,eL],by simp,(UpL.refl _)⟩
theorem set_fill {α:Type} (xs:List α) (k:Nat) (v z:α) {i:Nat} (h:i=xs.length):(xs++List.replicate (k+1) z).set i v=(xs++[v])++List.replicate k z:=by
 subst h;simp [List.replicate_succ]
theorem Cat.Is.ok {c:Cat} (h:c.Is):c.ok:=h.1.size2.1
theorem Fn.Is.lob {f:Fn} (h:f.Is):f.ob.length≤8:=by have:=h.lo;have:=h.s.1.n8;omega
theorem Fn.Is.lar {f:Fn} (h:f.Is):f.ar.length≤40:=by have:=h.la;have:=h.s.1.m40;omega
theorem e_l06Make {c d:Cat} {ob ar:List Int} (hc:c.ok) (hd:d.ok) (ho:ob.length≤1048576) (ha:ar.length≤1048576):Q1t c d ob ar=some ⟨c,d,ob,ar⟩:=by
 simp [Q1t,Q2e,QG,hc,hd,ho,ha]
attribute [local simp] eL eI Qs QH Q1B Cat.cells Fn.cells
noncomputable def Q15 (f_:Fn):Option Bool :=
 (
  if ¬ ((f_.ob.length:Int)=f_.s.n) then
   some true
  else
   (Qy f_.s).bind fun v3 =>
   if ¬ ((f_.ar.length:Int)=v3) then
    some true
   else
    (Q1N f_.ob f_.t.n).bind fun v5 =>
    if ¬ (v5=true) then
     some true
    else
     (Qy f_.t).bind fun v7 =>
     (Q1N f_.ar v7).bind fun v8 =>
     some (!v8):Option (Bool)).bind fun b1 =>
 if b1=true then
  some false
 else
  (QA (σ:=Int) (ε:=Unit ⊕ Bool) (fun s23 =>
   if s23<(f_.ar.length:Int) then
    ass (0≤s23∧s23<(f_.ar.length:Int)) <|
    (
     ass (0≤ix f_.ar s23∧ix f_.ar s23<(f_.t.fr.length:Int)) <|
     ass (0≤s23∧s23<(f_.s.fr.length:Int)) <|
     ass (0≤ix f_.s.fr s23∧ix f_.s.fr s23<(f_.ob.length:Int)) <|
     if ¬ ((ix f_.t.fr (ix f_.ar s23))=(ix f_.ob (ix f_.s.fr s23))) then
      some true
     else
      ass (0≤ix f_.ar s23∧ix f_.ar s23<(f_.t.to.length:Int)) <|
      ass (0≤s23∧s23<(f_.s.to.length:Int)) <|
      ass (0≤ix f_.s.to s23∧ix f_.s.to s23<(f_.ob.length:Int)) <|
      some ((ix f_.t.to (ix f_.ar s23)) != (ix f_.ob (ix f_.s.to s23))):Option (Bool)).bind fun b26 =>
    if b26=true then
     some (Ctl.ret (Sum.inr false))
    else
     ass (B64 (s23+1)) <|
     some (Ctl.next (s23+1))
   else
    some (Ctl.ret (Sum.inl ()))) fuel 0).bind fun e10 =>
  match e10 with
  | .inl b10 =>
   (QA (σ:=Int) (ε:=Unit ⊕ Bool) (fun s44 =>
    if s44<(f_.s.id.length:Int) then
     ass (0≤s44∧s44<(f_.s.id.length:Int)) <|
     ass (0≤ix f_.s.id s44∧ix f_.s.id s44<(f_.ar.length:Int)) <|
     ass (0≤s44∧s44<(f_.ob.length:Int)) <|
     ass (0≤ix f_.ob s44∧ix f_.ob s44<(f_.t.id.length:Int)) <|
     if ¬ ((ix f_.ar (ix f_.s.id s44))=(ix f_.t.id (ix f_.ob s44))) then
      some (Ctl.ret (Sum.inr false))
     else
      ass (B64 (s44+1)) <|
      some (Ctl.next (s44+1))
    else
     some (Ctl.ret (Sum.inl ()))) fuel 0).bind fun e36 =>
   match e36 with
   | .inl b36 =>
    (QA (σ:=Int) (ε:=Unit ⊕ Bool) (fun s78 =>
     if s78<(f_.s.cs.length:Int) then
      (
       ass (0≤s78∧s78<(f_.s.cs.length:Int)) <|
       (QA (σ:=Int) (ε:=Bool ⊕ Unit) (fun s92 =>
        if s92<((rx f_.s.cs s78).length:Int) then
         ass (0≤s92∧s92<((rx f_.s.cs s78).length:Int)) <|
         (
          if (ix (rx f_.s.cs s78) s92) ≥ 0 then
           ass (0≤ix (rx f_.s.cs s78) s92∧ix (rx f_.s.cs s78) s92<(f_.ar.length:Int)) <|
           ass (0≤s78∧s78<(f_.ar.length:Int)) <|
           ass (0≤s92∧s92<(f_.ar.length:Int)) <|
           (Qu f_.t (ix f_.ar s78) (ix f_.ar s92)).bind fun v100 =>
           some ((ix f_.ar (ix (rx f_.s.cs s78) s92)) != v100)
          else
           some false:Option (Bool)).bind fun b95 =>
         if b95=true then
          some (Ctl.ret (Sum.inl false))
         else
          ass (B64 (s92+1)) <|
          some (Ctl.next (s92+1))
        else
         some (Ctl.ret (Sum.inr ()))) fuel 0).bind fun e92 =>
       match e92 with
       | .inl p92 =>
        some (Sum.inr p92)
       | .inr p92 =>
        some (Sum.inl p92):Option (Unit ⊕ Bool)).bind fun e80 =>
      match e80 with
      | .inl b80 =>
       ass (B64 (s78+1)) <|
       some (Ctl.next (s78+1))
      | .inr p80 =>
       some (Ctl.ret (Sum.inr p80))
     else
      some (Ctl.ret (Sum.inl ()))) fuel 0).bind fun e52 =>
    match e52 with
    | .inl b52 =>
     some true
    | .inr p52 =>
     some p52
   | .inr p36 =>
    some p36
  | .inr p10 =>
   some p10
theorem Q4w (f_:Fn) (r:Bool) (h:Q15 f_=some r):Contract Try.prog 93 [.rptr (f_.cells true)] (.val (.bool r)):=by
 refine Qe (rvs:=[.tmp 2]) (rs:=[.val (.bool r)]) Try.func93 rfl rfl rfl rfl (by simp [Try.f93]) fun F hN hP=>?_;unfold Q15 at h;refine Q3 ?_;refine runQ hN fun K hK=>?_;simp [-Q0,-Q5,-Q1,-Q6,-Q2];repeat refine sdQ ?_
 refine hK _ ?_;clear hK K;refine tn ?_;refine Q8 (st':=⟨[(0,.rptr (Fn.cells true f_))],[],0⟩) (wkQ8 []) ?_;refine Q3 ?_;refine runQ hN fun K hK=>?_;simp [-Q0,-Q5,-Q1,-Q6,-Q2];repeat refine sdQ ?_
 refine hK _ ?_;clear hK K;refine tn ?_;refine Q8 (st':=⟨[(0,.rptr (Fn.cells true f_)),(3,.rptr (Fn.cells true f_)),(4,.rptr [iV f_.t.n,lI f_.t.fr,lI f_.t.to,lI f_.t.id,.lst true 1 (Ls f_.t.cs),lI f_.ob,lI f_.ar])],[],0⟩) (wkQ8 []) ?_;refine Q3 ?_;refine Q3 ?_;replace h:=bind_some h;obtain ⟨e1,h,h1⟩:=h;refine Qj (fun b1:Bool=>⟨[(0,.rptr (Fn.cells true f_)),(3,.rptr (Fn.cells true f_)),(4,.rptr [iV f_.t.n,lI f_.t.fr,lI f_.t.to,lI f_.t.id,.lst true 1 (Ls f_.t.cs),lI f_.ob,lI f_.ar]),(60,.val (.bool b1))],[],0⟩) (fun b1=>b1=e1) ?_ ?_
 ·refine runQ hN fun K hK=>?_;simp [-Q0,-Q5,-Q1,-Q6,-Q2];repeat with_reducible refine sdQ ?_
  refine Qn (fun g=>?_) (fun g=>?_)
  ·have g2:¬ (¬ ((f_.ob.length:Int)=f_.s.n)):=gQ;clear g;replace h:=if_r g2 h;simp [-Q0,-Q5,-Q1,-Q6,-Q2];(repeat with_reducible refine sdQ ?_);replace h:=bind_some h;obtain ⟨v3,hv3,h⟩:=h;refine Q7 (Q1u _ v3 hv3) (.cons (.preT (by simp [Cat.cells,Fn.cells])) .nil) ?_;simp [-Q0,-Q5,-Q1,-Q6,-Q2,unk,unA,unE,unT,unC,flat];(repeat with_reducible refine sdQ ?_);refine Qn (fun g=>?_) (fun g=>?_)
   ·have g4:¬ (¬ ((f_.ar.length:Int)=v3)):=gQ;clear g;replace h:=if_r g4 h;simp [-Q0,-Q5,-Q1,-Q6,-Q2];(repeat with_reducible refine sdQ ?_);replace h:=bind_some h;obtain ⟨v5,hv5,h⟩:=h;refine Q7 (Q5E _ _ v5 hv5) (.cons .lst (.cons .val .nil)) ?_;simp [-Q0,-Q5,-Q1,-Q6,-Q2,unk,unA,unE,unT,unC,flat];(repeat with_reducible refine sdQ ?_);refine Qn (fun g=>?_) (fun g=>?_)
    ·have g6:¬ (¬ (v5=true)):=gQ;clear g;replace h:=if_r g6 h;simp [-Q0,-Q5,-Q1,-Q6,-Q2];(repeat with_reducible refine sdQ ?_);replace h:=bind_some h;obtain ⟨v7,hv7,h⟩:=h;refine Q7 (Q1u _ v7 hv7) (.cons (.preT (by simp [Cat.cells,Fn.cells])) .nil) ?_;simp [-Q0,-Q5,-Q1,-Q6,-Q2,unk,unA,unE,unT,unC,flat];(repeat with_reducible refine sdQ ?_);replace h:=bind_some h;obtain ⟨v8,hv8,h⟩:=h;refine Q7 (Q5E _ _ v8 hv8) (.cons .lst (.cons .val .nil)) ?_;simp [-Q0,-Q5,-Q1,-Q6,-Q2,unk,unA,unE,unT,unC,flat];(repeat refine sdQ ?_);refine hK _ ?_;exact jn (b:=!v8) (Option.some.inj h) (wkQ8 [])
    have g6:¬ (v5=true):=gQ;clear g;replace h:=if_l g6 h;simp [-Q0,-Q5,-Q1,-Q6,-Q2];(repeat refine sdQ ?_);refine hK _ ?_;exact jn (b:=true) (Option.some.inj h) (wkQ8 [])
   have g4:¬ ((f_.ar.length:Int)=v3):=gQ;clear g;replace h:=if_l g4 h;simp [-Q0,-Q5,-Q1,-Q6,-Q2];(repeat refine sdQ ?_);refine hK _ ?_;exact jn (b:=true) (Option.some.inj h) (wkQ8 [])
  have g2:¬ ((f_.ob.length:Int)=f_.s.n):=gQ;clear g;replace h:=if_l g2 h;simp [-Q0,-Q5,-Q1,-Q6,-Q2];repeat refine sdQ ?_
  refine hK _ ?_;exact jn (b:=true) (Option.some.inj h) (wkQ8 [])
 intro b1 hb1;have h:=h1;try rw [← hb1] at h
 clear h1;try dsimp only at h
 refine Qc rfl (fun g=>?_) fun g=>?_
 ·have g9:b1=true:=gQ;clear g;replace h:=if_l g9 h;refine Q3 ?_;refine runQ hN fun K hK=>?_;simp [-Q0,-Q5,-Q1,-Q6,-Q2];repeat refine sdQ ?_
  refine hK _ ?_;clear hK K;refine tn ?_;refine Q8 (st':=⟨[(2,.val (.bool false))],[],0⟩) (wkQ8 []) ?_;refine Qk ?_;refine tr ?_;have hr:=Option.some.inj h;rw [← hr];refine ⟨_,(.tmp .nil),?_⟩;refine ⟨(.one rfl rfl .nil),[.val (.bool false)],[],by simp [Cat.cells,Fn.cells,UA,U1,IA,I1,LA,L1,BA,B1,EA,E1,E2,eB,eI,eL],by simp,(UpL.refl _)⟩
 have g9:¬ (b1=true):=gQ;clear g;replace h:=if_r g9 h;refine Qd ?_;refine tn ?_;refine Q3 ?_;refine Q3 ?_;refine runQ hN fun K hK=>?_;simp [-Q0,-Q5,-Q1,-Q6,-Q2];repeat refine sdQ ?_
 refine hK _ ?_;clear hK K;refine tn ?_;refine Q8 (st':=⟨[(0,.rptr (Fn.cells true f_)),(3,.rptr (Fn.cells true f_)),(4,.rptr [iV f_.t.n,lI f_.t.fr,lI f_.t.to,lI f_.t.id,.lst true 1 (Ls f_.t.cs),lI f_.ob,lI f_.ar]),(64,lI f_.ar),(65,iV (f_.ar.length:Int)),(66,iV 0)],[],0⟩) (wkQ8 []) ?_;replace h:=bind_some h;obtain ⟨e10,h,h10⟩:=h;refine Qj (fun b10:Unit=>⟨[(0,.rptr (Fn.cells true f_)),(3,.rptr (Fn.cells true f_)),(4,.rptr [iV f_.t.n,lI f_.t.fr,lI f_.t.to,lI f_.t.id,.lst true 1 (Ls f_.t.cs),lI f_.ob,lI f_.ar])],[],0⟩) (fun b10=>Sum.inl b10=e10) ?_ ?_
 ·refine Qa ?_;refine Qx h (fun s23:Int=>⟨[(0,.rptr (Fn.cells true f_)),(3,.rptr (Fn.cells true f_)),(4,.rptr [iV f_.t.n,lI f_.t.fr,lI f_.t.to,lI f_.t.id,.lst true 1 (Ls f_.t.cs),lI f_.ob,lI f_.ar]),(64,lI f_.ar),(65,iV (f_.ar.length:Int)),(66,iV s23)],[],0⟩) (wkQ8 []) ?_;clear h;intro k23 s23 c23 h hk23;refine Q3 ?_;refine runQ hN fun K hK=>?_;simp [-Q0,-Q5,-Q1,-Q6,-Q2];repeat refine sdQ ?_
  refine hK _ ?_;clear hK K;refine tn ?_;refine Q8 (st':=⟨[(0,.rptr (Fn.cells true f_)),(3,.rptr (Fn.cells true f_)),(4,.rptr [iV f_.t.n,lI f_.t.fr,lI f_.t.to,lI f_.t.id,.lst true 1 (Ls f_.t.cs),lI f_.ob,lI f_.ar]),(64,lI f_.ar),(65,iV (f_.ar.length:Int)),(66,iV s23),(67,.val (.bool (decide (s23<(f_.ar.length:Int)))))],[],0⟩) (wkQ8 []) ?_;refine Q3 ?_;refine Qc rfl (fun g=>?_) fun g=>?_
  ·have g24:s23<(f_.ar.length:Int):=gQ;clear g;replace h:=if_l g24 h;refine Qd ?_;refine tn ?_;refine Q3 ?_;refine Qa ?_;refine Q3 ?_;refine runQ hN fun K hK=>?_;replace h:=Q4 h;obtain ⟨a25,h⟩:=h;simp [-Q0,-Q5,-Q1,-Q6,-Q2,at_I a25];(repeat refine sdQ ?_);refine hK _ ?_;clear hK K;refine tn ?_;refine Q8 (st':=⟨[(0,.rptr (Fn.cells true f_)),(3,.rptr (Fn.cells true f_)),(4,.rptr [iV f_.t.n,lI f_.t.fr,lI f_.t.to,lI f_.t.id,.lst true 1 (Ls f_.t.cs),lI f_.ob,lI f_.ar]),(5,iV s23),(6,iV (ix f_.ar s23)),(64,lI f_.ar),(65,iV (f_.ar.length:Int)),(66,iV s23)],[],0⟩) (wkQ8 []) ?_;refine Q3 ?_;replace h:=bind_some h;obtain ⟨e26,h,h26⟩:=h;refine Qj (fun b26:Bool=>⟨[(0,.rptr (Fn.cells true f_)),(3,.rptr (Fn.cells true f_)),(4,.rptr [iV f_.t.n,lI f_.t.fr,lI f_.t.to,lI f_.t.id,.lst true 1 (Ls f_.t.cs),lI f_.ob,lI f_.ar]),(64,lI f_.ar),(65,iV (f_.ar.length:Int)),(66,iV s23),(114,.val (.bool b26))],[],0⟩) (fun b26=>b26=e26) ?_ ?_
   ·refine runQ hN fun K hK=>?_;replace h:=Q4 h;obtain ⟨a27,h⟩:=h;replace h:=Q4 h;obtain ⟨a28,h⟩:=h;replace h:=Q4 h;obtain ⟨a29,h⟩:=h;simp [-Q0,-Q5,-Q1,-Q6,-Q2,at_I a27,at_I a28,at_I a29];(repeat with_reducible refine sdQ ?_);refine Qn (fun g=>?_) (fun g=>?_)
    ·have g30:¬ (¬ ((ix f_.t.fr (ix f_.ar s23))=(ix f_.ob (ix f_.s.fr s23)))):=gQ;clear g;replace h:=if_r g30 h;replace h:=Q4 h;obtain ⟨a31,h⟩:=h;replace h:=Q4 h;obtain ⟨a32,h⟩:=h;replace h:=Q4 h;obtain ⟨a33,h⟩:=h;simp [-Q0,-Q5,-Q1,-Q6,-Q2,at_I a27,at_I a28,at_I a29,at_I a31,at_I a32,at_I a33];(repeat refine sdQ ?_);refine hK _ ?_;exact jn (b:=(ix f_.t.to (ix f_.ar s23)) != (ix f_.ob (ix f_.s.to s23))) (Option.some.inj h) (wkQ8 [])
    have g30:¬ ((ix f_.t.fr (ix f_.ar s23))=(ix f_.ob (ix f_.s.fr s23))):=gQ;clear g;replace h:=if_l g30 h;simp [-Q0,-Q5,-Q1,-Q6,-Q2,at_I a27,at_I a28,at_I a29];(repeat refine sdQ ?_);refine hK _ ?_;exact jn (b:=true) (Option.some.inj h) (wkQ8 [])
   intro b26 hb26;have h:=h26;(try rw [← hb26] at h);clear h26;(try dsimp only at h);refine Qc rfl (fun g=>?_) fun g=>?_
   ·have g34:b26=true:=gQ;clear g;replace h:=if_l g34 h;refine Q3 ?_;refine runQ hN fun K hK=>?_;simp [-Q0,-Q5,-Q1,-Q6,-Q2];(repeat refine sdQ ?_);refine hK _ ?_;clear hK K;refine tn ?_;refine Q8 (st':=⟨[(2,.val (.bool false))],[],0⟩) (wkQ8 []) ?_;refine Qk ?_;refine br ?_;refine tr ?_;refine lr ?_;refine br ?_;refine tr ?_;cases h;have q:_=e10:=hk23;have h:=h10;rw [← q] at h;clear q;(try dsimp only at h);have hr:=Option.some.inj h;rw [← hr];refine ⟨_,(.tmp .nil),?_⟩;refine ⟨(.one rfl rfl .nil),[.val (.bool false)],[],by simp [Cat.cells,Fn.cells,UA,U1,IA,I1,LA,L1,BA,B1,EA,E1,E2,eB,eI,eL],by simp,(UpL.refl _)⟩
   have g34:¬ (b26=true):=gQ;clear g;replace h:=if_r g34 h;refine Qd ?_;refine bn ?_;refine tn ?_;refine runQ hN fun K hK=>?_;replace h:=Q4 h;obtain ⟨a35,h⟩:=h;simp [-Q0,-Q5,-Q1,-Q6,-Q2,Qt a35];(repeat refine sdQ ?_);refine hK _ ?_;clear hK K;cases h;exact rn (s':=s23+1) hk23 (wkQ8 [])
  have g24:¬ (s23<(f_.ar.length:Int)):=gQ;clear g;replace h:=if_r g24 h;refine Qq ?_;refine tx ?_;refine lx ?_;refine bh ?_;cases h;exact jn (b:=()) hk23 (wkQ8 [])
 intro b10 hb10;have h:=h10;try rw [← hb10] at h
 clear h10;try dsimp only at h
 refine Q3 ?_;refine Q3 ?_;refine runQ hN fun K hK=>?_;simp [-Q0,-Q5,-Q1,-Q6,-Q2];repeat refine sdQ ?_
 refine hK _ ?_;clear hK K;refine tn ?_;refine Q8 (st':=⟨[(0,.rptr (Fn.cells true f_)),(3,.rptr (Fn.cells true f_)),(4,.rptr [iV f_.t.n,lI f_.t.fr,lI f_.t.to,lI f_.t.id,.lst true 1 (Ls f_.t.cs),lI f_.ob,lI f_.ar]),(119,lI f_.s.id),(120,iV (f_.s.id.length:Int)),(121,iV 0)],[],0⟩) (wkQ8 []) ?_;replace h:=bind_some h;obtain ⟨e36,h,h36⟩:=h;refine Qj (fun b36:Unit=>⟨[(0,.rptr (Fn.cells true f_)),(3,.rptr (Fn.cells true f_)),(4,.rptr [iV f_.t.n,lI f_.t.fr,lI f_.t.to,lI f_.t.id,.lst true 1 (Ls f_.t.cs),lI f_.ob,lI f_.ar])],[],0⟩) (fun b36=>Sum.inl b36=e36) ?_ ?_
 ·refine Qa ?_;refine Qx h (fun s44:Int=>⟨[(0,.rptr (Fn.cells true f_)),(3,.rptr (Fn.cells true f_)),(4,.rptr [iV f_.t.n,lI f_.t.fr,lI f_.t.to,lI f_.t.id,.lst true 1 (Ls f_.t.cs),lI f_.ob,lI f_.ar]),(119,lI f_.s.id),(120,iV (f_.s.id.length:Int)),(121,iV s44)],[],0⟩) (wkQ8 []) ?_;clear h;intro k44 s44 c44 h hk44;refine Q3 ?_;refine runQ hN fun K hK=>?_;simp [-Q0,-Q5,-Q1,-Q6,-Q2];repeat refine sdQ ?_
  refine hK _ ?_;clear hK K;refine tn ?_;refine Q8 (st':=⟨[(0,.rptr (Fn.cells true f_)),(3,.rptr (Fn.cells true f_)),(4,.rptr [iV f_.t.n,lI f_.t.fr,lI f_.t.to,lI f_.t.id,.lst true 1 (Ls f_.t.cs),lI f_.ob,lI f_.ar]),(119,lI f_.s.id),(120,iV (f_.s.id.length:Int)),(121,iV s44),(122,.val (.bool (decide (s44<(f_.s.id.length:Int)))))],[],0⟩) (wkQ8 []) ?_;refine Q3 ?_;refine Qc rfl (fun g=>?_) fun g=>?_
  ·have g45:s44<(f_.s.id.length:Int):=gQ;clear g;replace h:=if_l g45 h;refine Qd ?_;refine tn ?_;refine Q3 ?_;refine Qa ?_;refine Q3 ?_;refine runQ hN fun K hK=>?_;replace h:=Q4 h;obtain ⟨a46,h⟩:=h;simp [-Q0,-Q5,-Q1,-Q6,-Q2,at_I a46];(repeat refine sdQ ?_);refine hK _ ?_;clear hK K;refine tn ?_;refine Q8 (st':=⟨[(0,.rptr (Fn.cells true f_)),(3,.rptr (Fn.cells true f_)),(4,.rptr [iV f_.t.n,lI f_.t.fr,lI f_.t.to,lI f_.t.id,.lst true 1 (Ls f_.t.cs),lI f_.ob,lI f_.ar]),(7,iV s44),(8,iV (ix f_.s.id s44)),(119,lI f_.s.id),(120,iV (f_.s.id.length:Int)),(121,iV s44)],[],0⟩) (wkQ8 []) ?_;refine Q3 ?_;refine runQ hN fun K hK=>?_;replace h:=Q4 h;obtain ⟨a47,h⟩:=h;replace h:=Q4 h;obtain ⟨a48,h⟩:=h;replace h:=Q4 h;obtain ⟨a49,h⟩:=h;simp [-Q0,-Q5,-Q1,-Q6,-Q2,at_I a47,at_I a48,at_I a49];(repeat refine sdQ ?_);refine hK _ ?_;clear hK K;refine tn ?_;refine Q8 (st':=⟨[(0,.rptr (Fn.cells true f_)),(3,.rptr (Fn.cells true f_)),(4,.rptr [iV f_.t.n,lI f_.t.fr,lI f_.t.to,lI f_.t.id,.lst true 1 (Ls f_.t.cs),lI f_.ob,lI f_.ar]),(119,lI f_.s.id),(120,iV (f_.s.id.length:Int)),(121,iV s44),(146,.val (.bool ((ix f_.ar (ix f_.s.id s44)) != (ix f_.t.id (ix f_.ob s44)))))],[],0⟩) (wkQ8 []) ?_;refine Qc rfl (fun g=>?_) fun g=>?_
   ·have g50:¬ ((ix f_.ar (ix f_.s.id s44))=(ix f_.t.id (ix f_.ob s44))):=gQ;clear g;replace h:=if_l g50 h;refine Q3 ?_;refine runQ hN fun K hK=>?_;simp [-Q0,-Q5,-Q1,-Q6,-Q2];(repeat refine sdQ ?_);refine hK _ ?_;clear hK K;refine tn ?_;refine Q8 (st':=⟨[(2,.val (.bool false))],[],0⟩) (wkQ8 []) ?_;refine Qk ?_;refine br ?_;refine tr ?_;refine lr ?_;refine br ?_;refine tr ?_;cases h;have q:_=e36:=hk44;have h:=h36;rw [← q] at h;clear q;(try dsimp only at h);have hr:=Option.some.inj h;rw [← hr];refine ⟨_,(.tmp .nil),?_⟩;refine ⟨(.one rfl rfl .nil),[.val (.bool false)],[],by simp [Cat.cells,Fn.cells,UA,U1,IA,I1,LA,L1,BA,B1,EA,E1,E2,eB,eI,eL],by simp,(UpL.refl _)⟩
   have g50:¬ (¬ ((ix f_.ar (ix f_.s.id s44))=(ix f_.t.id (ix f_.ob s44)))):=gQ;clear g;replace h:=if_r g50 h;refine Qd ?_;refine bn ?_;refine tn ?_;refine runQ hN fun K hK=>?_;replace h:=Q4 h;obtain ⟨a51,h⟩:=h;simp [-Q0,-Q5,-Q1,-Q6,-Q2,Qt a51];(repeat refine sdQ ?_);refine hK _ ?_;clear hK K;cases h;exact rn (s':=s44+1) hk44 (wkQ8 [])
  have g45:¬ (s44<(f_.s.id.length:Int)):=gQ;clear g;replace h:=if_r g45 h;refine Qq ?_;refine tx ?_;refine lx ?_;refine bh ?_;cases h;exact jn (b:=()) hk44 (wkQ8 [])
 intro b36 hb36;have h:=h36;try rw [← hb36] at h
 clear h36;try dsimp only at h
 refine Q3 ?_;refine Q3 ?_;refine runQ hN fun K hK=>?_;simp [-Q0,-Q5,-Q1,-Q6,-Q2];repeat refine sdQ ?_
 refine hK _ ?_;clear hK K;refine tn ?_;refine Q8 (st':=⟨[(0,.rptr (Fn.cells true f_)),(4,.rptr [iV f_.t.n,lI f_.t.fr,lI f_.t.to,lI f_.t.id,.lst true 1 (Ls f_.t.cs),lI f_.ob,lI f_.ar]),(151,.lst true 1 (Ls f_.s.cs)),(152,iV (f_.s.cs.length:Int)),(153,iV 0)],[],0⟩) (wkQ8 []) ?_;replace h:=bind_some h;obtain ⟨e52,h,h52⟩:=h;refine Qj (fun b52:Unit=>⟨[],[],0⟩) (fun b52=>Sum.inl b52=e52) ?_ ?_
 ·refine Qa ?_;refine Qx h (fun s78:Int=>⟨[(0,.rptr (Fn.cells true f_)),(4,.rptr [iV f_.t.n,lI f_.t.fr,lI f_.t.to,lI f_.t.id,.lst true 1 (Ls f_.t.cs),lI f_.ob,lI f_.ar]),(151,.lst true 1 (Ls f_.s.cs)),(152,iV (f_.s.cs.length:Int)),(153,iV s78)],[],0⟩) (wkQ8 []) ?_;clear h;intro k78 s78 c78 h hk78;refine Q3 ?_;refine runQ hN fun K hK=>?_;simp [-Q0,-Q5,-Q1,-Q6,-Q2];repeat refine sdQ ?_
  refine hK _ ?_;clear hK K;refine tn ?_;refine Q8 (st':=⟨[(0,.rptr (Fn.cells true f_)),(4,.rptr [iV f_.t.n,lI f_.t.fr,lI f_.t.to,lI f_.t.id,.lst true 1 (Ls f_.t.cs),lI f_.ob,lI f_.ar]),(151,.lst true 1 (Ls f_.s.cs)),(152,iV (f_.s.cs.length:Int)),(153,iV s78),(154,.val (.bool (decide (s78<(f_.s.cs.length:Int)))))],[],0⟩) (wkQ8 []) ?_;refine Q3 ?_;refine Qc rfl (fun g=>?_) fun g=>?_
  ·have g79:s78<(f_.s.cs.length:Int):=gQ;clear g;replace h:=if_l g79 h;refine Qd ?_;refine tn ?_;refine Q3 ?_;replace h:=bind_some h;obtain ⟨e80,h,h80⟩:=h;refine Qj (fun b80:Unit=>⟨[(0,.rptr (Fn.cells true f_)),(4,.rptr [iV f_.t.n,lI f_.t.fr,lI f_.t.to,lI f_.t.id,.lst true 1 (Ls f_.t.cs),lI f_.ob,lI f_.ar]),(151,.lst true 1 (Ls f_.s.cs)),(152,iV (f_.s.cs.length:Int)),(153,iV s78)],[],0⟩) (fun b80=>Sum.inl b80=e80) ?_ ?_
   ·refine Qa ?_;refine Q3 ?_;refine runQ hN fun K hK=>?_;replace h:=Q4 h;obtain ⟨a81,h⟩:=h;simp [-Q0,-Q5,-Q1,-Q6,-Q2,at_L a81];(repeat refine sdQ ?_);refine hK _ ?_;clear hK K;refine tn ?_;refine Q8 (st':=⟨[(0,.rptr (Fn.cells true f_)),(4,.rptr [iV f_.t.n,lI f_.t.fr,lI f_.t.to,lI f_.t.id,.lst true 1 (Ls f_.t.cs),lI f_.ob,lI f_.ar]),(9,iV s78),(10,lI (rx f_.s.cs s78)),(151,.lst true 1 (Ls f_.s.cs)),(152,iV (f_.s.cs.length:Int)),(153,iV s78)],[],0⟩) (wkQ8 []) ?_;refine Q3 ?_;refine runQ hN fun K hK=>?_;simp [-Q0,-Q5,-Q1,-Q6,-Q2];(repeat refine sdQ ?_);refine hK _ ?_;clear hK K;refine tn ?_;refine Q8 (st':=⟨[(0,.rptr (Fn.cells true f_)),(4,.rptr [iV f_.t.n,lI f_.t.fr,lI f_.t.to,lI f_.t.id,.lst true 1 (Ls f_.t.cs),lI f_.ob,lI f_.ar]),(9,iV s78),(151,.lst true 1 (Ls f_.s.cs)),(152,iV (f_.s.cs.length:Int)),(153,iV s78),(158,lI (rx f_.s.cs s78)),(159,iV ((rx f_.s.cs s78).length:Int)),(160,iV 0)],[],0⟩) (wkQ8 []) ?_;refine Qa ?_;replace h:=bind_some h;obtain ⟨e92,he92,h92⟩:=h;refine Qx he92 (fun s92:Int=>⟨[(0,.rptr (Fn.cells true f_)),(4,.rptr [iV f_.t.n,lI f_.t.fr,lI f_.t.to,lI f_.t.id,.lst true 1 (Ls f_.t.cs),lI f_.ob,lI f_.ar]),(9,iV s78),(151,.lst true 1 (Ls f_.s.cs)),(152,iV (f_.s.cs.length:Int)),(153,iV s78),(158,lI (rx f_.s.cs s78)),(159,iV ((rx f_.s.cs s78).length:Int)),(160,iV s92)],[],0⟩) (wkQ8 []) ?_;intro k92 s92 c92 h hk92;refine Q3 ?_;refine runQ hN fun K hK=>?_;simp [-Q0,-Q5,-Q1,-Q6,-Q2];(repeat refine sdQ ?_);refine hK _ ?_;clear hK K;refine tn ?_;refine Q8 (st':=⟨[(0,.rptr (Fn.cells true f_)),(4,.rptr [iV f_.t.n,lI f_.t.fr,lI f_.t.to,lI f_.t.id,.lst true 1 (Ls f_.t.cs),lI f_.ob,lI f_.ar]),(9,iV s78),(151,.lst true 1 (Ls f_.s.cs)),(152,iV (f_.s.cs.length:Int)),(153,iV s78),(158,lI (rx f_.s.cs s78)),(159,iV ((rx f_.s.cs s78).length:Int)),(160,iV s92),(161,.val (.bool (decide (s92<((rx f_.s.cs s78).length:Int)))))],[],0⟩) (wkQ8 []) ?_;refine Q3 ?_;refine Qc rfl (fun g=>?_) fun g=>?_
    ·have g93:s92<((rx f_.s.cs s78).length:Int):=gQ;clear g;replace h:=if_l g93 h;refine Qd ?_;refine tn ?_;refine Q3 ?_;refine Qa ?_;refine Q3 ?_;refine runQ hN fun K hK=>?_;replace h:=Q4 h;obtain ⟨a94,h⟩:=h;simp [-Q0,-Q5,-Q1,-Q6,-Q2,at_I a94];(repeat refine sdQ ?_);refine hK _ ?_;clear hK K;refine tn ?_;refine Q8 (st':=⟨[(0,.rptr (Fn.cells true f_)),(4,.rptr [iV f_.t.n,lI f_.t.fr,lI f_.t.to,lI f_.t.id,.lst true 1 (Ls f_.t.cs),lI f_.ob,lI f_.ar]),(9,iV s78),(11,iV s92),(12,iV (ix (rx f_.s.cs s78) s92)),(151,.lst true 1 (Ls f_.s.cs)),(152,iV (f_.s.cs.length:Int)),(153,iV s78),(158,lI (rx f_.s.cs s78)),(159,iV ((rx f_.s.cs s78).length:Int)),(160,iV s92)],[],0⟩) (wkQ8 []) ?_;refine Q3 ?_;replace h:=bind_some h;obtain ⟨e95,h,h95⟩:=h;refine Qj (fun b95:Bool=>⟨[(0,.rptr (Fn.cells true f_)),(4,.rptr [iV f_.t.n,lI f_.t.fr,lI f_.t.to,lI f_.t.id,.lst true 1 (Ls f_.t.cs),lI f_.ob,lI f_.ar]),(9,iV s78),(151,.lst true 1 (Ls f_.s.cs)),(152,iV (f_.s.cs.length:Int)),(153,iV s78),(158,lI (rx f_.s.cs s78)),(159,iV ((rx f_.s.cs s78).length:Int)),(160,iV s92),(192,.val (.bool b95))],[],0⟩) (fun b95=>b95=e95) ?_ ?_
     ·refine runQ hN fun K hK=>?_;simp [-Q0,-Q5,-Q1,-Q6,-Q2];(repeat with_reducible refine sdQ ?_);refine Qn (fun g=>?_) (fun g=>?_)
      ·have g96:(ix (rx f_.s.cs s78) s92) ≥ 0:=gQ;clear g;replace h:=if_l g96 h;replace h:=Q4 h;obtain ⟨a97,h⟩:=h;replace h:=Q4 h;obtain ⟨a98,h⟩:=h;replace h:=Q4 h;obtain ⟨a99,h⟩:=h;simp [-Q0,-Q5,-Q1,-Q6,-Q2,at_I a97,at_I a98,at_I a99];(repeat with_reducible refine sdQ ?_);replace h:=bind_some h;obtain ⟨v100,hv100,h⟩:=h;refine Q7 (Q1l _ _ _ v100 hv100) (.cons (.preT (by simp [Cat.cells,Fn.cells])) (.cons .val (.cons .val .nil))) ?_;simp [-Q0,-Q5,-Q1,-Q6,-Q2,unk,unA,unE,unT,unC,flat,at_I a97,at_I a98,at_I a99];(repeat refine sdQ ?_);refine hK _ ?_;exact jn (b:=(ix f_.ar (ix (rx f_.s.cs s78) s92)) != v100) (Option.some.inj h) (wkQ8 [])
      have g96:¬ ((ix (rx f_.s.cs s78) s92) ≥ 0):=gQ;clear g;replace h:=if_r g96 h;simp [-Q0,-Q5,-Q1,-Q6,-Q2];(repeat refine sdQ ?_);refine hK _ ?_;exact jn (b:=false) (Option.some.inj h) (wkQ8 [])
     intro b95 hb95;have h:=h95;(try rw [← hb95] at h);clear h95;(try dsimp only at h);refine Qc rfl (fun g=>?_) fun g=>?_
     ·have g101:b95=true:=gQ;clear g;replace h:=if_l g101 h;refine Q3 ?_;refine runQ hN fun K hK=>?_;simp [-Q0,-Q5,-Q1,-Q6,-Q2];(repeat refine sdQ ?_);refine hK _ ?_;clear hK K;refine tn ?_;refine Q8 (st':=⟨[(2,.val (.bool false))],[],0⟩) (wkQ8 []) ?_;refine Qk ?_;refine br ?_;refine tr ?_;refine lr ?_;refine br ?_;refine br ?_;refine tr ?_;refine lr ?_;refine br ?_;refine tr ?_;cases h;have q:_=e92:=hk92;have h:=h92;rw [← q] at h;clear q;(try dsimp only at h);cases h;have h:=h80;(try dsimp only at h);cases h;have q:_=e52:=hk78;have h:=h52;rw [← q] at h;clear q;(try dsimp only at h);have hr:=Option.some.inj h;rw [← hr];refine ⟨_,(.tmp .nil),?_⟩;refine ⟨(.one rfl rfl .nil),[.val (.bool false)],[],by simp [Cat.cells,Fn.cells,UA,U1,IA,I1,LA,L1,BA,B1,EA,E1,E2,eB,eI,eL],by simp,(UpL.refl _)⟩
     have g101:¬ (b95=true):=gQ;clear g;replace h:=if_r g101 h;refine Qd ?_;refine bn ?_;refine tn ?_;refine runQ hN fun K hK=>?_;replace h:=Q4 h;obtain ⟨a102,h⟩:=h;simp [-Q0,-Q5,-Q1,-Q6,-Q2,Qt a102];(repeat refine sdQ ?_);refine hK _ ?_;clear hK K;cases h;exact rn (s':=s92+1) hk92 (wkQ8 [])
    have g93:¬ (s92<((rx f_.s.cs s78).length:Int)):=gQ;clear g;replace h:=if_r g93 h;refine Qq ?_;refine tx ?_;refine lx ?_;refine bh ?_;refine bn ?_;cases h;have q:_=e92:=hk92;have h:=h92;rw [← q] at h;clear q;(try dsimp only at h);exact jn (b:=()) (Option.some.inj h) (wkQ8 [])
   intro b80 hb80;have h:=h80;(try rw [← hb80] at h);clear h80;(try dsimp only at h);refine runQ hN fun K hK=>?_;replace h:=Q4 h;obtain ⟨a103,h⟩:=h;simp [-Q0,-Q5,-Q1,-Q6,-Q2,Qt a103];(repeat refine sdQ ?_);refine hK _ ?_;clear hK K;cases h;exact rn (s':=s78+1) hk78 (wkQ8 [])
  have g79:¬ (s78<(f_.s.cs.length:Int)):=gQ;clear g;replace h:=if_r g79 h;refine Qq ?_;refine tx ?_;refine lx ?_;refine bh ?_;cases h;exact jn (b:=()) hk78 (wkQ8 [])
 intro b52 hb52;have h:=h52;try rw [← hb52] at h
 clear h52;try dsimp only at h
 refine Q3 ?_;refine runQ hN fun K hK=>?_;simp [-Q0,-Q5,-Q1,-Q6,-Q2];repeat refine sdQ ?_
 refine hK _ ?_;clear hK K;refine tn ?_;refine Q8 (st':=⟨[(2,.val (.bool true))],[],0⟩) (wkQ8 []) ?_;refine Qk ?_;have hr:=Option.some.inj h;rw [← hr];refine ⟨_,(.tmp .nil),?_⟩;refine ⟨(.one rfl rfl .nil),[.val (.bool true)],[],by simp [Cat.cells,Fn.cells,UA,U1,IA,I1,LA,L1,BA,B1,EA,E1,E2,eB,eI,eL],by simp,(UpL.refl _)⟩
attribute [local simp] eL eI Qs QH Cat.cells
noncomputable def QX (list_:List Cat):Option Bool :=
 (QA (σ:=Int) (ε:=Unit ⊕ Bool) (fun s7 =>
  if s7<(list_.length:Int) then
   ass (0≤s7∧s7<(list_.length:Int)) <|
   (QF (gx list_ s7)).bind fun v10 =>
   if ¬ (v10=true) then
    some (Ctl.ret (Sum.inr false))
   else
    ass (B64 (s7+1)) <|
    some (Ctl.next (s7+1))
  else
   some (Ctl.ret (Sum.inl ()))) fuel 0).bind fun e1 =>
 match e1 with
 | .inl b1 =>
  some true
 | .inr p1 =>
  some p1
theorem Q4b (list_:List Cat) (r:Bool) (h:QX list_=some r):Contract Try.prog 92 [.lst true 1 (Es QH list_)] (.val (.bool r)):=by
 refine Qe (rvs:=[.tmp 2]) (rs:=[.val (.bool r)]) Try.func92 rfl rfl rfl rfl (by simp [Try.f92]) fun F hN hP=>?_;unfold QX at h;refine Q3 ?_;refine runQ hN fun K hK=>?_;simp [-Q0,-Q5,-Q1,-Q6,-Q2];repeat refine sdQ ?_
 refine hK _ ?_;clear hK K;refine tn ?_;refine Q8 (st':=⟨[(0,.lst true 1 (Es QH list_))],[],0⟩) (wkQ8 []) ?_;refine Q3 ?_;refine Q3 ?_;refine runQ hN fun K hK=>?_;simp [-Q0,-Q5,-Q1,-Q6,-Q2];repeat refine sdQ ?_
 refine hK _ ?_;clear hK K;refine tn ?_;refine Q8 (st':=⟨[(5,.lst true 1 (Es QH list_)),(6,iV (list_.length:Int)),(7,iV 0)],[],0⟩) (wkQ8 []) ?_;replace h:=bind_some h;obtain ⟨e1,h,h1⟩:=h;refine Qj (fun b1:Unit=>⟨[],[],0⟩) (fun b1=>Sum.inl b1=e1) ?_ ?_
 ·refine Qa ?_;refine Qx h (fun s7:Int=>⟨[(5,.lst true 1 (Es QH list_)),(6,iV (list_.length:Int)),(7,iV s7)],[],0⟩) (wkQ8 []) ?_;clear h;intro k7 s7 c7 h hk7;refine Q3 ?_;refine runQ hN fun K hK=>?_;simp [-Q0,-Q5,-Q1,-Q6,-Q2];repeat refine sdQ ?_
  refine hK _ ?_;clear hK K;refine tn ?_;refine Q8 (st':=⟨[(5,.lst true 1 (Es QH list_)),(6,iV (list_.length:Int)),(7,iV s7),(8,.val (.bool (decide (s7<(list_.length:Int)))))],[],0⟩) (wkQ8 []) ?_;refine Q3 ?_;refine Qc rfl (fun g=>?_) fun g=>?_
  ·have g8:s7<(list_.length:Int):=gQ;clear g;replace h:=if_l g8 h;refine Qd ?_;refine tn ?_;refine Q3 ?_;refine Qa ?_;refine Q3 ?_;refine runQ hN fun K hK=>?_;replace h:=Q4 h;obtain ⟨a9,h⟩:=h;simp [-Q0,-Q5,-Q1,-Q6,-Q2,at_E (c:=QH) a9];(repeat refine sdQ ?_);refine hK _ ?_;clear hK K;refine tn ?_;refine Q8 (st':=⟨[(4,.rptr (Cat.cells true (gx list_ s7))),(5,.lst true 1 (Es QH list_)),(6,iV (list_.length:Int)),(7,iV s7)],[],0⟩) (wkQ8 []) ?_;refine Q3 ?_;refine runQ hN fun K hK=>?_;simp [-Q0,-Q5,-Q1,-Q6,-Q2];(repeat with_reducible refine sdQ ?_);replace h:=bind_some h;obtain ⟨v10,hv10,h⟩:=h;refine Q7 (Q33 _ v10 hv10) (.cons (.preT (by simp [Cat.cells])) .nil) ?_;simp [-Q0,-Q5,-Q1,-Q6,-Q2,unk,unA,unE,unT,unC,flat];(repeat refine sdQ ?_);refine hK _ ?_;clear hK K;refine tn ?_;refine Q8 (st':=⟨[(5,.lst true 1 (Es QH list_)),(6,iV (list_.length:Int)),(7,iV s7),(13,.val (.bool (!v10)))],[],0⟩) (wkQ8 []) ?_;refine Qc rfl (fun g=>?_) fun g=>?_
   ·have g11:¬ (v10=true):=gQ;clear g;replace h:=if_l g11 h;refine Q3 ?_;refine runQ hN fun K hK=>?_;simp [-Q0,-Q5,-Q1,-Q6,-Q2];(repeat refine sdQ ?_);refine hK _ ?_;clear hK K;refine tn ?_;refine Q8 (st':=⟨[(2,.val (.bool false))],[],0⟩) (wkQ8 []) ?_;refine Qk ?_;refine br ?_;refine tr ?_;refine lr ?_;refine br ?_;refine tr ?_;cases h;have q:_=e1:=hk7;have h:=h1;rw [← q] at h;clear q;(try dsimp only at h);have hr:=Option.some.inj h;rw [← hr];refine ⟨_,(.tmp .nil),?_⟩;refine ⟨(.one rfl rfl .nil),[.val (.bool false)],[],by simp [Cat.cells,UA,U1,IA,I1,LA,L1,BA,B1,EA,E1,E2,eB,eI,eL],by simp,(UpL.refl _)⟩
   have g11:¬ (¬ (v10=true)):=gQ;clear g;replace h:=if_r g11 h;refine Qd ?_;refine bn ?_;refine tn ?_;refine runQ hN fun K hK=>?_;replace h:=Q4 h;obtain ⟨a12,h⟩:=h;simp [-Q0,-Q5,-Q1,-Q6,-Q2,Qt a12];(repeat refine sdQ ?_);refine hK _ ?_;clear hK K;cases h;exact rn (s':=s7+1) hk7 (wkQ8 [])
  have g8:¬ (s7<(list_.length:Int)):=gQ;clear g;replace h:=if_r g8 h;refine Qq ?_;refine tx ?_;refine lx ?_;refine bh ?_;cases h;exact jn (b:=()) hk7 (wkQ8 [])
 intro b1 hb1;have h:=h1;try rw [← hb1] at h
 clear h1;try dsimp only at h
 refine Q3 ?_;refine runQ hN fun K hK=>?_;simp [-Q0,-Q5,-Q1,-Q6,-Q2];repeat refine sdQ ?_
 refine hK _ ?_;clear hK K;refine tn ?_;refine Q8 (st':=⟨[(2,.val (.bool true))],[],0⟩) (wkQ8 []) ?_;refine Qk ?_;have hr:=Option.some.inj h;rw [← hr];refine ⟨_,(.tmp .nil),?_⟩;refine ⟨(.one rfl rfl .nil),[.val (.bool true)],[],by simp [Cat.cells,UA,U1,IA,I1,LA,L1,BA,B1,EA,E1,E2,eB,eI,eL],by simp,(UpL.refl _)⟩
attribute [local simp] eL eI Qs QH Q1B Cat.cells Fn.cells
noncomputable def QJ (f_:Fn):Option Bool :=
 (
  (QX [f_.s,f_.t]).bind fun v2 =>
  if v2=true then
   (Q15 f_).bind fun v4 =>
   some v4
  else
   some false:Option (Bool)).bind fun b1 =>
 some b1
theorem Q3m (f_:Fn) (r:Bool) (h:QJ f_=some r):Contract Try.prog 53 [.rptr (f_.cells true)] (.val (.bool r)):=by
 refine Qe (rvs:=[.tmp 2]) (rs:=[.val (.bool r)]) Try.func53 rfl rfl rfl rfl (by simp [Try.f53]) fun F hN hP=>?_;unfold QJ at h;refine Q3 ?_;refine runQ hN fun K hK=>?_;simp [-Q0,-Q5,-Q1,-Q6,-Q2];repeat refine sdQ ?_
 refine hK _ ?_;clear hK K;refine tn ?_;refine Q8 (st':=⟨[(0,.rptr (Fn.cells true f_))],[],0⟩) (wkQ8 []) ?_;refine Q3 ?_;replace h:=bind_some h;obtain ⟨e1,h,h1⟩:=h;refine Qj (fun b1:Bool=>⟨[(2,.val (.bool b1))],[],0⟩) (fun b1=>b1=e1) ?_ ?_
 ·refine runQ hN fun K hK=>?_;simp [-Q0,-Q5,-Q1,-Q6,-Q2];repeat with_reducible refine sdQ ?_
  replace h:=bind_some h;obtain ⟨v2,hv2,h⟩:=h;refine Q7 (Q4b _ v2 hv2) (.cons (.lits (es:=_) rfl (.cons rfl (.cons (.preT (by simp [Cat.cells,Fn.cells])) .nil) (.cons rfl (.cons (.preT (by simp [Cat.cells,Fn.cells])) .nil) .nil)) rfl) .nil) ?_;simp [-Q0,-Q5,-Q1,-Q6,-Q2,unk,unA,unE,unT,unC,flat];repeat with_reducible refine sdQ ?_
  refine Qn (fun g=>?_) (fun g=>?_)
  ·have g3:v2=true:=gQ;clear g;replace h:=if_l g3 h;simp [-Q0,-Q5,-Q1,-Q6,-Q2];(repeat with_reducible refine sdQ ?_);replace h:=bind_some h;obtain ⟨v4,hv4,h⟩:=h;refine Q7 (Q4w _ v4 hv4) (.cons (.preT (by simp [Cat.cells,Fn.cells])) .nil) ?_;simp [-Q0,-Q5,-Q1,-Q6,-Q2,unk,unA,unE,unT,unC,flat];(repeat refine sdQ ?_);refine hK _ ?_;exact jn (b:=v4) (Option.some.inj h) (wkQ8 [])
  have g3:¬ (v2=true):=gQ;clear g;replace h:=if_r g3 h;simp [-Q0,-Q5,-Q1,-Q6,-Q2];repeat refine sdQ ?_
  refine hK _ ?_;exact jn (b:=false) (Option.some.inj h) (wkQ8 [])
 intro b1 hb1;have h:=h1;try rw [← hb1] at h
 clear h1;try dsimp only at h
 refine Qk ?_;have hr:=Option.some.inj h;rw [← hr];refine ⟨_,(.tmp .nil),?_⟩;refine ⟨(.one rfl rfl .nil),[.val (.bool b1)],[],by simp [Cat.cells,Fn.cells,UA,U1,IA,I1,LA,L1,BA,B1,EA,E1,E2,eB,eI,eL],by simp,(UpL.refl _)⟩
noncomputable def Q13 (c_:Cat) (f_:Int) (g_:Int):Option Int :=
 ass (0≤f_∧f_<(c_.cs.length:Int)) <|
 ass (0≤g_∧g_<((rx c_.cs f_).length:Int)) <|
 some (ix (rx c_.cs f_) g_)
theorem Q7u (c_:Cat) (f_:Int) (g_:Int) (r:Int) (h:Q13 c_ f_ g_=some r):Contract Try.prog 112 [.agg (c_.cells true),iV f_,iV g_] (iV r):=by
 refine Qe (rvs:=[.tmp 6]) (rs:=[iV r]) Try.func112 rfl rfl rfl rfl (by simp [Try.f112]) fun F hN hP=>?_;unfold Q13 at h;refine Q3 ?_;refine runQ hN fun K hK=>?_;simp [-Q0,-Q5,-Q1,-Q6,-Q2,eL,eI,Qs,QH,Cat.cells];repeat refine sdQ ?_
 refine hK _ ?_;clear hK K;refine tn ?_;refine Q8 (st':=⟨[(1,iV f_),(2,iV g_),(3,.adr 0 0 0)],[(0,.mix 5 [(Cat.cells true c_)])],1⟩) (wkQ8 [(0,0)]) ?_;refine Q3 ?_;refine runQ hN fun K hK=>?_;replace h:=Q4 h;obtain ⟨a1,h⟩:=h;replace h:=Q4 h;obtain ⟨a2,h⟩:=h;simp [-Q0,-Q5,-Q1,-Q6,-Q2,eL,eI,Qs,QH,Cat.cells,at_L a1,at_I a2];repeat refine sdQ ?_
 refine hK _ ?_;clear hK K;refine tn ?_;refine Q8 (st':=⟨[(6,iV (ix (rx c_.cs f_) g_))],[],0⟩) (wkQ8 []) ?_;refine Qk ?_;have hr:=Option.some.inj h;rw [← hr];refine ⟨_,(.tmp .nil),?_⟩;refine ⟨(.one rfl rfl .nil),[iV (ix (rx c_.cs f_) g_)],[],by simp [Cat.cells,UA,U1,IA,I1,LA,L1,BA,B1,EA,E1,E2,eB,eI,eL],by simp,(UpL.refl _)⟩
structure Para (f g:Fn):Prop where
 hf:f.Is
 hg:g.Is
 s:f.s=g.s
 t:f.t=g.t
theorem e_l02Then {c:Cat} {f g:Int} (h0:0≤f∧f<(c.cs.length:Int)) (h1:0≤g∧g<((rx c.cs f).length:Int)):Q13 c f g=some (ix (rx c.cs f) g):=by
 unfold Q13;rw [Q9 h0,Q9 h1]
theorem Q70 {c:Cat} {f g:Int} (h0:0≤f∧f<(c.cs.length:Int)) (h1:0≤g∧g<((rx c.cs f).length:Int)):Qu c f g=some (ix (rx c.cs f) g):=by
 unfold Qu;rw [Q9 h0.1,Q9 h0.2,Q9 h1.1,Q9 h1.2]
theorem e_fits {f:Fn} (h1:f.s.Is) (h2:f.t.Is):Q15 f=some (bo f.Is):=by
 have hs:=h1.1;have ht:=h2.1;have k0:=hs.n0;have k1:=hs.n8;have k2:=hs.m40;have k3:=hs.li;have k4:=hs.lt;have k5:=hs.lc;have k6:=ht.li;have k7:=ht.lt;have k8:=ht.lc;have k9:=ht.m40;have k10:=ht.n0;have k11:=ht.n8;have b1:B64 (f.t.n - 1):=⟨by omega,by omega⟩;have b2:B64 ((f.t.fr.length:Int) - 1):=⟨by omega,by omega⟩;unfold Q15
 by_cases h3:(f.ob.length:Int)=f.s.n
 case neg=>rw [QD (show ¬ f.Is from fun q=>h3 q.lo)];simp [h3]
 by_cases h4:(f.ar.length:Int)=f.s.fr.length
 case neg=>rw [QD (show ¬ f.Is from fun q=>h4 (by rw [q.la]))];simp [Qy,h3,h4]
 by_cases h5:f.ob.all (inR f.t.n)=true
 case neg=>rw [QD (show ¬ f.Is from fun q=>h5 (all_inR.2 q.ob))];simp [Qy,Q1N,Q9 b1,h3,h4,h5]
 by_cases h6:f.ar.all (inR f.t.fr.length)=true
 case neg=>rw [QD (show ¬ f.Is from fun q=>h6 (all_inR.2 q.ar))];simp [Qy,Q1N,Q9 b1,Q9 b2,h3,h4,h5,h6]
 have ho:=all_inR.1 h5;have ha:=all_inR.1 h6;simp only [Qy,Q1N,Q9 b1,Q9 b2,h3,h4,h5,h6,Option.bind_some,if_true,if_false,not_true_eq_false,Bool.not_true,Bool.false_eq_true];refine Q1j f.s.fr.length (fun a:Nat=>ix f.t.fr (ix f.ar a)=ix f.ob (ix f.s.fr a)∧ix f.t.to (ix f.ar a)=ix f.ob (ix f.s.to a)) (eb:=Sum.inr false) (eg:=Sum.inl ()) (by omega) (fun a hi hp=>?_) (fun a hi hp=>?_) (by simp) (fun hx=>?_) fun q1=>?_
 ·have:=hs.frn hi;have:=ha a (by omega);simp (disch:=omega) [Q9,B64,hp.1,hp.2,hi]
 ·have:=hs.frn hi;have:=ha a (by omega)
  by_cases hp1:ix f.t.fr (ix f.ar a)=ix f.ob (ix f.s.fr a)
  ·have hp2:¬ ix f.t.to (ix f.ar a)=ix f.ob (ix f.s.to a):=fun h=>hp ⟨hp1,h⟩;simp (disch:=omega) [Q9,B64,hp1,hp2,hi]
  simp (disch:=omega) [Q9,B64,hp1,hi]
 ·rw [QD (show ¬ f.Is from fun q=>hx q.ends)]
 simp only;refine Q1j f.s.id.length (fun x:Nat=>ix f.ar (ix f.s.id x)=ix f.t.id (ix f.ob x)) (eb:=Sum.inr false) (eg:=Sum.inl ()) (by omega) (fun a hi hp=>?_) (fun a hi hp=>?_) (by simp) (fun hx=>?_) fun q2=>?_
 ·have:=hs.idn hi;have:=ho a (by omega);simp (disch:=omega) [Q9,B64,hp,hi]
 ·have:=hs.idn hi;have:=ho a (by omega);simp (disch:=omega) [Q9,B64,hp,hi]
 ·rw [QD (show ¬ f.Is from fun q=>hx q.ids)]
 simp only;refine Q1j f.s.fr.length (fun a:Nat=>∀ b:Nat,b<f.s.fr.length→ix f.s.to a=ix f.s.fr b→ix f.ar (ix (rx f.s.cs a) b)=ix (rx f.t.cs (ix f.ar a)) (ix f.ar b)) (eb:=Sum.inr false) (eg:=Sum.inl ()) (by omega) (fun a hi hp=>?_) (fun a hi hp=>?_) (by simp;omega) (fun hx=>?_) fun q3=>?_;rotate_left 2
 ·rw [QD (show ¬ f.Is from fun q=>hx q.comp)]
 ·rw [QY (show f.Is from ⟨h1,h2,h3,by omega,ho,ha,q1,q2,q3⟩)]
 all_goals
  have h8:=ha a (by omega);have h11:=hs.row' (j:=a) (by omega) (by omega);have h12:=ht.row' (j:=ix f.ar a) (by omega) (by omega);rw [if_pos (by omega),Q9 (by omega),Option.bind_assoc];refine Q1j f.s.fr.length (fun b:Nat=>ix f.s.to a=ix f.s.fr b→ix f.ar (ix (rx f.s.cs a) b)=ix (rx f.t.cs (ix f.ar a)) (ix f.ar b)) (eb:=Sum.inl false) (eg:=Sum.inr ()) (by omega) (fun b hb hq=>?_) (fun b hb hq=>?_) ?_ (fun hn=>?_) fun hn=>?_
 all_goals first
  | exact absurd hp hn
  | exact absurd hn hp
  | (simp (disch:=omega) [Q9,B64,h11];done)
  | skip
 all_goals
  have h13:=ha b (by omega);have h16:=hs.cell' (f:=a) (g:=b) (by omega) (by omega) (by omega) (by omega)
  by_cases h14:ix f.s.to a=ix f.s.fr b
  ·have h15:=hs.cmp (f:=a) (g:=b) (by omega) (by omega) (by omega) (by omega) h14;have h17:ix (rx f.s.cs a) b ≥ 0:=h15.1;first
    | (have hq1:=hq h14;simp (disch:=omega) [Q9,B64,Q70,h14,hq1,hb,h11,h17];done)
    | (have hq1:=fun e=>hq (fun _=>e);simp (disch:=omega) [Q9,B64,Q70,h14,hq1,hb,h11,h17];exact hq1)
  have h17:=h16.1 h14;first
   | (simp (disch:=omega) [Q9,B64,h14,hb,h11,h17];done)
   | exact absurd (fun e=>absurd e h14) hq
theorem Q4f {α:Type} [Inhabited α] (xs:List α) {i:Nat} (h:i<xs.length):gx xs i=xs[i]:=by simp [gx,List.getD_eq_getElem?_getD,h]
theorem e_areCats (cs:List Cat) (hl:cs.length≤1048576):QX cs=some (bo (∀ c∈cs,c.Is)):=by
 unfold QX;refine Q1j cs.length (fun i:Nat=>(gx cs i).Is) (eb:=Sum.inr false) (eg:=Sum.inl ()) (by omega) (fun a hi hp=>?_) (fun a hi hp=>?_) (by simp) (fun hx=>?_) fun q1=>?_
 ·simp (disch:=omega) [Q9,B64,QF,QY hp,hi]
 ·simp (disch:=omega) [Q9,B64,QF,QD hp,hi]
 ·rw [QD (show ¬ ∀ c∈cs,c.Is from fun q=>hx fun i hi=>q _ (by rw [Q4f _ hi];exact List.getElem_mem hi))]
 rw [QY (show ∀ c∈cs,c.Is from fun c hc=>by obtain ⟨i,hi,rfl⟩:=List.getElem_of_mem hc;have:=q1 i hi;rwa [Q4f _ hi] at this)]
theorem Q71 (f:Fn):QJ f=some (bo f.Is):=by
 unfold QJ;rw [e_areCats _ (by simp)]
 by_cases h:f.s.Is∧f.t.Is
 ·rw [QY (show ∀ c∈[f.s,f.t],c.Is by simpa using h)];simp [e_fits h.1 h.2]
 rw [QD (show ¬ ∀ c∈[f.s,f.t],c.Is by simpa using h),QD (show ¬ f.Is from fun q=>h ⟨q.s,q.t⟩)];simp
def tab {α:Type} (n:Nat) (g:Nat→α):List α:=(List.range n).map g
@[simp] theorem tab_length {α:Type} (n:Nat) (g:Nat→α):(tab n g).length=n:=by simp [tab]
theorem Q66 {α:Type} (n:Nat) (g:Nat→α):tab (n+1) g=tab n g++[g n]:=by simp [tab,List.range_succ]
theorem ix_tab (n:Nat) (g:Nat→Int) {i:Nat} (h:i<n):ix (tab n g) i=g i:=by
 rw [← Q1r _ _ (show i<(tab n g).length by simpa using h)];simp [tab]
attribute [local simp] eL eI Qs QH Cat.cells
noncomputable def QB (c_:Cat) (x_:Int) (y_:Int):Option (List Int) :=
 (QA (σ:=List Int × Int) (ε:=List Int) (fun s11 =>
  if s11.2<(c_.fr.length:Int) then
   (
    (
     ass (0≤s11.2∧s11.2<(c_.fr.length:Int)) <|
     if (ix c_.fr s11.2)=x_ then
      ass (0≤s11.2∧s11.2<(c_.to.length:Int)) <|
      some ((ix c_.to s11.2) == y_)
     else
      some false:Option (Bool)).bind fun b14 =>
    if b14=true then
     ass ((s11.1++[s11.2]).length≤1073741824) <|
     some (s11.1++[s11.2])
    else
     some s11.1:Option (List Int)).bind fun b13 =>
   ass (B64 (s11.2+1)) <|
   some (Ctl.next (b13,s11.2+1))
  else
   some (Ctl.ret s11.1)) fuel ([],0)).bind fun b1 =>
 some b1
theorem Q36 (c_:Cat) (x_:Int) (y_:Int) (r:List Int) (h:QB c_ x_ y_=some r):Contract Try.prog 148 [.rptr (c_.cells true),iV x_,iV y_] (lI r):=by
 refine Qe (rvs:=[.tmp 6]) (rs:=[lI r]) Try.func148 rfl rfl rfl rfl (by simp [Try.f148]) fun F hN hP=>?_;unfold QB at h;refine Q3 ?_;refine runQ hN fun K hK=>?_;simp [-Q0,-Q5,-Q1,-Q6,-Q2];repeat refine sdQ ?_
 refine hK _ ?_;clear hK K;refine tn ?_;refine Q8 (st':=⟨[(0,.rptr (Cat.cells true c_)),(1,iV x_),(2,iV y_)],[],0⟩) (wkQ8 []) ?_;refine Q3 ?_;refine runQ hN fun K hK=>?_;simp [-Q0,-Q5,-Q1,-Q6,-Q2];repeat refine sdQ ?_
 refine hK _ ?_;clear hK K;refine tn ?_;refine Q8 (st':=⟨[(0,.rptr (Cat.cells true c_)),(1,iV x_),(2,iV y_),(7,.own 0 0 0)],[(0,.mix 1 [])],1⟩) (wkQ8 [(0,0)]) ?_;refine Q3 ?_;refine Q3 ?_;refine runQ hN fun K hK=>?_;simp [-Q0,-Q5,-Q1,-Q6,-Q2];repeat refine sdQ ?_
 refine hK _ ?_;clear hK K;refine tn ?_;refine Q8 (st':=⟨[(0,.rptr (Cat.cells true c_)),(1,iV x_),(2,iV y_),(7,.own 0 0 0),(14,iV (c_.fr.length:Int)),(15,iV 0)],[(0,.mix 1 [])],1⟩) (wkQ8 [(0,0)]) ?_;replace h:=bind_some h;obtain ⟨e1,h,h1⟩:=h;refine Qj (fun b1:List Int=>⟨[(7,.own 0 0 b1.length)],[(0,rI b1)],1⟩) (fun b1=>b1=e1) ?_ ?_
 ·refine Qa ?_;refine Qx h (fun s11:List Int × Int=>⟨[(0,.rptr (Cat.cells true c_)),(1,iV x_),(2,iV y_),(7,.own 0 0 s11.1.length),(14,iV (c_.fr.length:Int)),(15,iV s11.2)],[(0,rI s11.1)],1⟩) (Q2N ⟨[(0,.rptr (Cat.cells true c_)),(1,iV x_),(2,iV y_),(7,.own 0 0 0),(14,iV (c_.fr.length:Int)),(15,iV 0)],[(0,rI [])],1⟩ (Wk.nils [] (by simp) (by simp) (by simp [nlA]) (by simp [entN,nlL,nlA,Cat.cells,UA,U1,IA,I1,LA,L1,BA,B1,EA,E1,E2,eB,eI,eL]) (by simp)) (wkQ8 [(0,0)])) ?_;clear h;intro k11 s11 c11 h hk11;refine Q3 ?_;refine runQ hN fun K hK=>?_;simp [-Q0,-Q5,-Q1,-Q6,-Q2];repeat refine sdQ ?_
  refine hK _ ?_;clear hK K;refine tn ?_;refine Q8 (st':=⟨[(0,.rptr (Cat.cells true c_)),(1,iV x_),(2,iV y_),(7,.own 0 0 s11.1.length),(14,iV (c_.fr.length:Int)),(15,iV s11.2),(16,.val (.bool (decide (s11.2<(c_.fr.length:Int)))))],[(0,rI s11.1)],1⟩) (wkQ8 [(0,0)]) ?_;refine Q3 ?_;refine Qc rfl (fun g=>?_) fun g=>?_
  ·have g12:s11.2<(c_.fr.length:Int):=gQ;clear g;replace h:=if_l g12 h;refine Qd ?_;refine tn ?_;refine Q3 ?_;replace h:=bind_some h;obtain ⟨e13,h,h13⟩:=h;refine Qj (fun b13:List Int=>⟨[(0,.rptr (Cat.cells true c_)),(1,iV x_),(2,iV y_),(7,.own 0 0 b13.length),(14,iV (c_.fr.length:Int)),(15,iV s11.2)],[(0,rI b13)],1⟩) (fun b13=>b13=e13) ?_ ?_
   ·refine Qa ?_;refine Q3 ?_;refine runQ hN fun K hK=>?_;simp [-Q0,-Q5,-Q1,-Q6,-Q2];(repeat refine sdQ ?_);refine hK _ ?_;clear hK K;refine tn ?_;refine Q8 (st':=⟨[(0,.rptr (Cat.cells true c_)),(1,iV x_),(2,iV y_),(7,.own 0 0 s11.1.length),(8,iV s11.2),(14,iV (c_.fr.length:Int)),(15,iV s11.2)],[(0,rI s11.1)],1⟩) (wkQ8 [(0,0)]) ?_;refine Q3 ?_;replace h:=bind_some h;obtain ⟨e14,h,h14⟩:=h;refine Qj (fun b14:Bool=>⟨[(0,.rptr (Cat.cells true c_)),(1,iV x_),(2,iV y_),(7,.own 0 0 s11.1.length),(8,iV s11.2),(14,iV (c_.fr.length:Int)),(15,iV s11.2),(37,.val (.bool b14))],[(0,rI s11.1)],1⟩) (fun b14=>b14=e14) ?_ ?_
    ·refine runQ hN fun K hK=>?_;replace h:=Q4 h;obtain ⟨a15,h⟩:=h;simp [-Q0,-Q5,-Q1,-Q6,-Q2,at_I a15];(repeat with_reducible refine sdQ ?_);refine Qn (fun g=>?_) (fun g=>?_)
     ·have g16:(ix c_.fr s11.2)=x_:=gQ;clear g;replace h:=if_l g16 h;replace h:=Q4 h;obtain ⟨a17,h⟩:=h;simp [-Q0,-Q5,-Q1,-Q6,-Q2,at_I a15,at_I a17];(repeat refine sdQ ?_);refine hK _ ?_;exact jn (b:=(ix c_.to s11.2) == y_) (Option.some.inj h) (wkQ8 [(0,0)])
     have g16:¬ ((ix c_.fr s11.2)=x_):=gQ;clear g;replace h:=if_r g16 h;simp [-Q0,-Q5,-Q1,-Q6,-Q2,at_I a15];(repeat refine sdQ ?_);refine hK _ ?_;exact jn (b:=false) (Option.some.inj h) (wkQ8 [(0,0)])
    intro b14 hb14;have h:=h14;(try rw [← hb14] at h);clear h14;(try dsimp only at h);refine Qc rfl (fun g=>?_) fun g=>?_
    ·have g18:b14=true:=gQ;clear g;replace h:=if_l g18 h;refine runQ hN fun K hK=>?_;replace h:=Q4 h;obtain ⟨a19,h⟩:=h;(try simp only [List.length_append,List.length_cons,List.length_nil] at a19);simp [-Q0,-Q5,-Q1,-Q6,-Q2,a19];(repeat refine sdQ ?_);refine hK _ ?_;clear hK K;refine bn ?_;exact jn (b:=s11.1++[s11.2]) (Option.some.inj h) (wkQ8 [(2,0)])
    have g18:¬ (b14=true):=gQ;clear g;replace h:=if_r g18 h;refine Qd ?_;refine bn ?_;exact jn (b:=s11.1) (Option.some.inj h) (wkQ8 [(0,0)])
   intro b13 hb13;have h:=h13;(try rw [← hb13] at h);clear h13;(try dsimp only at h);refine runQ hN fun K hK=>?_;replace h:=Q4 h;obtain ⟨a20,h⟩:=h;simp [-Q0,-Q5,-Q1,-Q6,-Q2,Qt a20];(repeat refine sdQ ?_);refine hK _ ?_;clear hK K;cases h;exact rn (s':=(b13,s11.2+1)) hk11 (wkQ8 [(0,0)])
  have g12:¬ (s11.2<(c_.fr.length:Int)):=gQ;clear g;replace h:=if_r g12 h;refine Qq ?_;refine tx ?_;refine lx ?_;refine bh ?_;cases h;exact jn (b:=s11.1) hk11 (wkQ8 [(0,0)])
 intro b1 hb1;have h:=h1;try rw [← hb1] at h
 clear h1;try dsimp only at h
 refine Q3 ?_;refine runQ hN fun K hK=>?_;simp [-Q0,-Q5,-Q1,-Q6,-Q2];repeat refine sdQ ?_
 refine hK _ ?_;clear hK K;refine tn ?_;refine Q8 (st':=⟨[(6,.own 0 0 b1.length)],[(0,rI b1)],1⟩) (wkQ8 [(0,0)]) ?_;refine Qk ?_;have hr:=Option.some.inj h;rw [← hr];refine ⟨_,(.tmp .nil),?_⟩;refine ⟨(.one rfl rfl .nil),[lI b1],[0],by simp [Cat.cells,UA,U1,IA,I1,LA,L1,BA,B1,EA,E1,E2,eB,eI,eL],by simp,(UpL.refl _)⟩
attribute [local simp] eL eI Qs QH Cat.cells
noncomputable def Q1P (c_:Cat) (x_:Int) (y_:Int):Option (List Int) :=
 (QA (σ:=List Int × Int) (ε:=List Int) (fun s11 =>
  if s11.2<(c_.fr.length:Int) then
   (
    (
     ass (0≤s11.2∧s11.2<(c_.fr.length:Int)) <|
     if (ix c_.fr s11.2)=x_ then
      ass (0≤s11.2∧s11.2<(c_.to.length:Int)) <|
      some ((ix c_.to s11.2) == y_)
     else
      some false:Option (Bool)).bind fun b14 =>
    if b14=true then
     ass ((s11.1++[s11.2]).length≤1073741824) <|
     some (s11.1++[s11.2])
    else
     some s11.1:Option (List Int)).bind fun b13 =>
   ass (B64 (s11.2+1)) <|
   some (Ctl.next (b13,s11.2+1))
  else
   some (Ctl.ret s11.1)) fuel ([],0)).bind fun b1 =>
 some b1
theorem Q5G (c_:Cat) (x_:Int) (y_:Int) (r:List Int) (h:Q1P c_ x_ y_=some r):Contract Try.prog 113 [.agg (c_.cells true),iV x_,iV y_] (lI r):=by
 refine Qe (rvs:=[.tmp 6]) (rs:=[lI r]) Try.func113 rfl rfl rfl rfl (by simp [Try.f113]) fun F hN hP=>?_;unfold Q1P at h;refine Q3 ?_;refine runQ hN fun K hK=>?_;simp [-Q0,-Q5,-Q1,-Q6,-Q2];repeat refine sdQ ?_
 refine hK _ ?_;clear hK K;refine tn ?_;refine Q8 (st':=⟨[(1,iV x_),(2,iV y_),(3,.adr 0 0 0)],[(0,.mix 5 [(Cat.cells true c_)])],1⟩) (wkQ8 [(0,0)]) ?_;refine Q3 ?_;refine runQ hN fun K hK=>?_;simp [-Q0,-Q5,-Q1,-Q6,-Q2];repeat refine sdQ ?_
 refine hK _ ?_;clear hK K;refine tn ?_;refine Q8 (st':=⟨[(1,iV x_),(2,iV y_),(3,.adr 0 0 0),(7,.own 1 0 0)],[(0,.mix 5 [(Cat.cells true c_)]),(1,.mix 1 [])],2⟩) (wkQ8 [(0,0),(1,1)]) ?_;refine Q3 ?_;refine Q3 ?_;refine runQ hN fun K hK=>?_;simp [-Q0,-Q5,-Q1,-Q6,-Q2];repeat refine sdQ ?_
 refine hK _ ?_;clear hK K;refine tn ?_;refine Q8 (st':=⟨[(1,iV x_),(2,iV y_),(3,.adr 0 0 0),(7,.own 1 0 0),(8,iV 0)],[(0,.mix 5 [(Cat.cells true c_)]),(1,.mix 1 [])],2⟩) (wkQ8 [(0,0),(1,1)]) ?_;replace h:=bind_some h;obtain ⟨e1,h,h1⟩:=h;refine Qj (fun b1:List Int=>⟨[(7,.own 0 0 b1.length)],[(0,rI b1)],1⟩) (fun b1=>b1=e1) ?_ ?_
 ·refine Qa ?_;refine Qx h (fun s11:List Int × Int=>⟨[(1,iV x_),(2,iV y_),(3,.adr 0 0 0),(7,.own 1 0 s11.1.length),(8,iV s11.2)],[(0,.mix 5 [(Cat.cells true c_)]),(1,rI s11.1)],2⟩) (Q2N ⟨[(1,iV x_),(2,iV y_),(3,.adr 0 0 0),(7,.own 1 0 0),(8,iV 0)],[(0,.mix 5 [(Cat.cells true c_)]),(1,rI [])],2⟩ (Wk.nils [] (by simp) (by simp) (by simp [nlA]) (by simp [entN,nlL,nlA,Cat.cells,UA,U1,IA,I1,LA,L1,BA,B1,EA,E1,E2,eB,eI,eL]) (by simp)) (wkQ8 [(0,0),(1,1)])) ?_;clear h;intro k11 s11 c11 h hk11;refine Q3 ?_;refine Q3 ?_;refine runQ hN fun K hK=>?_;simp [-Q0,-Q5,-Q1,-Q6,-Q2];repeat refine sdQ ?_
  refine hK _ ?_;clear hK K;refine tn ?_;refine Q8 (st':=⟨[(1,iV x_),(2,iV y_),(3,.adr 0 0 0),(7,.own 1 0 s11.1.length),(8,iV s11.2),(14,.val (.bool (decide (s11.2<(c_.fr.length:Int)))))],[(0,.mix 5 [(Cat.cells true c_)]),(1,rI s11.1)],2⟩) (wkQ8 [(0,0),(1,1)]) ?_;refine Qc rfl (fun g=>?_) fun g=>?_
  ·have g12:s11.2<(c_.fr.length:Int):=gQ;clear g;replace h:=if_l g12 h;refine Qd ?_;refine tn ?_;refine Q3 ?_;replace h:=bind_some h;obtain ⟨e13,h,h13⟩:=h;refine Qj (fun b13:List Int=>⟨[(1,iV x_),(2,iV y_),(3,.adr 0 0 0),(7,.own 1 0 b13.length),(8,iV s11.2)],[(0,.mix 5 [(Cat.cells true c_)]),(1,rI b13)],2⟩) (fun b13=>b13=e13) ?_ ?_
   ·refine Qa ?_;refine Q3 ?_;replace h:=bind_some h;obtain ⟨e14,h,h14⟩:=h;refine Qj (fun b14:Bool=>⟨[(1,iV x_),(2,iV y_),(3,.adr 0 0 0),(7,.own 1 0 s11.1.length),(8,iV s11.2),(32,.val (.bool b14))],[(0,.mix 5 [(Cat.cells true c_)]),(1,rI s11.1)],2⟩) (fun b14=>b14=e14) ?_ ?_
    ·refine runQ hN fun K hK=>?_;replace h:=Q4 h;obtain ⟨a15,h⟩:=h;simp [-Q0,-Q5,-Q1,-Q6,-Q2,at_I a15];(repeat with_reducible refine sdQ ?_);refine Qn (fun g=>?_) (fun g=>?_)
     ·have g16:(ix c_.fr s11.2)=x_:=gQ;clear g;replace h:=if_l g16 h;replace h:=Q4 h;obtain ⟨a17,h⟩:=h;simp [-Q0,-Q5,-Q1,-Q6,-Q2,at_I a15,at_I a17];(repeat refine sdQ ?_);refine hK _ ?_;exact jn (b:=(ix c_.to s11.2) == y_) (Option.some.inj h) (wkQ8 [(0,0),(1,1)])
     have g16:¬ ((ix c_.fr s11.2)=x_):=gQ;clear g;replace h:=if_r g16 h;simp [-Q0,-Q5,-Q1,-Q6,-Q2,at_I a15];(repeat refine sdQ ?_);refine hK _ ?_;exact jn (b:=false) (Option.some.inj h) (wkQ8 [(0,0),(1,1)])
    intro b14 hb14;have h:=h14;(try rw [← hb14] at h);clear h14;(try dsimp only at h);refine Qc rfl (fun g=>?_) fun g=>?_
    ·have g18:b14=true:=gQ;clear g;replace h:=if_l g18 h;refine runQ hN fun K hK=>?_;replace h:=Q4 h;obtain ⟨a19,h⟩:=h;(try simp only [List.length_append,List.length_cons,List.length_nil] at a19);simp [-Q0,-Q5,-Q1,-Q6,-Q2,a19];(repeat refine sdQ ?_);refine hK _ ?_;clear hK K;refine bn ?_;exact jn (b:=s11.1++[s11.2]) (Option.some.inj h) (wkQ8 [(0,0),(3,1)])
    have g18:¬ (b14=true):=gQ;clear g;replace h:=if_r g18 h;refine Qd ?_;refine bn ?_;exact jn (b:=s11.1) (Option.some.inj h) (wkQ8 [(0,0),(1,1)])
   intro b13 hb13;have h:=h13;(try rw [← hb13] at h);clear h13;(try dsimp only at h);refine runQ hN fun K hK=>?_;replace h:=Q4 h;obtain ⟨a20,h⟩:=h;simp [-Q0,-Q5,-Q1,-Q6,-Q2,Qt a20];(repeat refine sdQ ?_);refine hK _ ?_;clear hK K;cases h;exact rn (s':=(b13,s11.2+1)) hk11 (wkQ8 [(0,0),(1,1)])
  have g12:¬ (s11.2<(c_.fr.length:Int)):=gQ;clear g;replace h:=if_r g12 h;refine Qq ?_;refine tx ?_;refine lx ?_;refine bh ?_;cases h;exact jn (b:=s11.1) hk11 (wkQ8 [(1,0)])
 intro b1 hb1;have h:=h1;try rw [← hb1] at h
 clear h1;try dsimp only at h
 refine Q3 ?_;refine runQ hN fun K hK=>?_;simp [-Q0,-Q5,-Q1,-Q6,-Q2];repeat refine sdQ ?_
 refine hK _ ?_;clear hK K;refine tn ?_;refine Q8 (st':=⟨[(6,.own 0 0 b1.length)],[(0,rI b1)],1⟩) (wkQ8 [(0,0)]) ?_;refine Qk ?_;have hr:=Option.some.inj h;rw [← hr];refine ⟨_,(.tmp .nil),?_⟩;refine ⟨(.one rfl rfl .nil),[lI b1],[0],by simp [Cat.cells,UA,U1,IA,I1,LA,L1,BA,B1,EA,E1,E2,eB,eI,eL],by simp,(UpL.refl _)⟩
attribute [local simp] eL eI Qs QH Cat.cells
noncomputable def Q1G (c_:Cat) (f_:Int):Option (List Int) :=
 (QA (σ:=List Int × Int) (ε:=List Int) (fun s18 =>
  if s18.2<(c_.fr.length:Int) then
   (
    (
     ass (0≤s18.2∧s18.2<(c_.fr.length:Int)) <|
     ass (0≤f_∧f_<(c_.to.length:Int)) <|
     if (ix c_.fr s18.2)=(ix c_.to f_) then
      ass (0≤s18.2∧s18.2<(c_.to.length:Int)) <|
      ass (0≤f_∧f_<(c_.fr.length:Int)) <|
      if (ix c_.to s18.2)=(ix c_.fr f_) then
       ass (0≤f_∧f_<(c_.cs.length:Int)) <|
       ass (0≤s18.2∧s18.2<((rx c_.cs f_).length:Int)) <|
       ass (0≤f_∧f_<(c_.fr.length:Int)) <|
       ass (0≤ix c_.fr f_∧ix c_.fr f_<(c_.id.length:Int)) <|
       some ((ix (rx c_.cs f_) s18.2) == (ix c_.id (ix c_.fr f_)))
      else
       some false
     else
      some false:Option (Bool)).bind fun b21 =>
    if b21=true then
     ass ((s18.1++[s18.2]).length≤1073741824) <|
     some (s18.1++[s18.2])
    else
     some s18.1:Option (List Int)).bind fun b20 =>
   ass (B64 (s18.2+1)) <|
   some (Ctl.next (b20,s18.2+1))
  else
   some (Ctl.ret s18.1)) fuel ([],0)).bind fun b1 =>
 some b1
theorem Q3U (c_:Cat) (f_:Int) (r:List Int) (h:Q1G c_ f_=some r):Contract Try.prog 152 [.agg (c_.cells true),iV f_] (lI r):=by
 refine Qe (rvs:=[.tmp 4]) (rs:=[lI r]) Try.func152 rfl rfl rfl rfl (by simp [Try.f152]) fun F hN hP=>?_;unfold Q1G at h;refine Q3 ?_;refine runQ hN fun K hK=>?_;simp [-Q0,-Q5,-Q1,-Q6,-Q2];repeat refine sdQ ?_
 refine hK _ ?_;clear hK K;refine tn ?_;refine Q8 (st':=⟨[(1,iV f_),(2,.adr 0 0 0)],[(0,.mix 5 [(Cat.cells true c_)])],1⟩) (wkQ8 [(0,0)]) ?_;refine Q3 ?_;refine runQ hN fun K hK=>?_;simp [-Q0,-Q5,-Q1,-Q6,-Q2];repeat refine sdQ ?_
 refine hK _ ?_;clear hK K;refine tn ?_;refine Q8 (st':=⟨[(1,iV f_),(2,.adr 0 0 0),(5,.own 1 0 0)],[(0,.mix 5 [(Cat.cells true c_)]),(1,.mix 1 [])],2⟩) (wkQ8 [(0,0),(1,1)]) ?_;refine Q3 ?_;refine Q3 ?_;refine runQ hN fun K hK=>?_;simp [-Q0,-Q5,-Q1,-Q6,-Q2];repeat refine sdQ ?_
 refine hK _ ?_;clear hK K;refine tn ?_;refine Q8 (st':=⟨[(1,iV f_),(2,.adr 0 0 0),(5,.own 1 0 0),(6,iV 0)],[(0,.mix 5 [(Cat.cells true c_)]),(1,.mix 1 [])],2⟩) (wkQ8 [(0,0),(1,1)]) ?_;replace h:=bind_some h;obtain ⟨e1,h,h1⟩:=h;refine Qj (fun b1:List Int=>⟨[(5,.own 0 0 b1.length)],[(0,rI b1)],1⟩) (fun b1=>b1=e1) ?_ ?_
 ·refine Qa ?_;refine Qx h (fun s18:List Int × Int=>⟨[(1,iV f_),(2,.adr 0 0 0),(5,.own 1 0 s18.1.length),(6,iV s18.2)],[(0,.mix 5 [(Cat.cells true c_)]),(1,rI s18.1)],2⟩) (Q2N ⟨[(1,iV f_),(2,.adr 0 0 0),(5,.own 1 0 0),(6,iV 0)],[(0,.mix 5 [(Cat.cells true c_)]),(1,rI [])],2⟩ (Wk.nils [] (by simp) (by simp) (by simp [nlA]) (by simp [entN,nlL,nlA,Cat.cells,UA,U1,IA,I1,LA,L1,BA,B1,EA,E1,E2,eB,eI,eL]) (by simp)) (wkQ8 [(0,0),(1,1)])) ?_;clear h;intro k18 s18 c18 h hk18;refine Q3 ?_;refine Q3 ?_;refine runQ hN fun K hK=>?_;simp [-Q0,-Q5,-Q1,-Q6,-Q2];repeat refine sdQ ?_
  refine hK _ ?_;clear hK K;refine tn ?_;refine Q8 (st':=⟨[(1,iV f_),(2,.adr 0 0 0),(5,.own 1 0 s18.1.length),(6,iV s18.2),(12,.val (.bool (decide (s18.2<(c_.fr.length:Int)))))],[(0,.mix 5 [(Cat.cells true c_)]),(1,rI s18.1)],2⟩) (wkQ8 [(0,0),(1,1)]) ?_;refine Qc rfl (fun g=>?_) fun g=>?_
  ·have g19:s18.2<(c_.fr.length:Int):=gQ;clear g;replace h:=if_l g19 h;refine Qd ?_;refine tn ?_;refine Q3 ?_;replace h:=bind_some h;obtain ⟨e20,h,h20⟩:=h;refine Qj (fun b20:List Int=>⟨[(1,iV f_),(2,.adr 0 0 0),(5,.own 1 0 b20.length),(6,iV s18.2)],[(0,.mix 5 [(Cat.cells true c_)]),(1,rI b20)],2⟩) (fun b20=>b20=e20) ?_ ?_
   ·refine Qa ?_;refine Q3 ?_;replace h:=bind_some h;obtain ⟨e21,h,h21⟩:=h;refine Qj (fun b21:Bool=>⟨[(1,iV f_),(2,.adr 0 0 0),(5,.own 1 0 s18.1.length),(6,iV s18.2),(58,.val (.bool b21))],[(0,.mix 5 [(Cat.cells true c_)]),(1,rI s18.1)],2⟩) (fun b21=>b21=e21) ?_ ?_
    ·refine runQ hN fun K hK=>?_;replace h:=Q4 h;obtain ⟨a22,h⟩:=h;replace h:=Q4 h;obtain ⟨a23,h⟩:=h;simp [-Q0,-Q5,-Q1,-Q6,-Q2,at_I a22,at_I a23];(repeat with_reducible refine sdQ ?_);refine Qn (fun g=>?_) (fun g=>?_)
     ·have g24:(ix c_.fr s18.2)=(ix c_.to f_):=gQ;clear g;replace h:=if_l g24 h;replace h:=Q4 h;obtain ⟨a25,h⟩:=h;replace h:=Q4 h;obtain ⟨a26,h⟩:=h;simp [-Q0,-Q5,-Q1,-Q6,-Q2,at_I a22,at_I a23,at_I a25,at_I a26];(repeat with_reducible refine sdQ ?_);refine Qn (fun g=>?_) (fun g=>?_)
      ·have g27:(ix c_.to s18.2)=(ix c_.fr f_):=gQ;clear g;replace h:=if_l g27 h;replace h:=Q4 h;obtain ⟨a28,h⟩:=h;replace h:=Q4 h;obtain ⟨a29,h⟩:=h;replace h:=Q4 h;obtain ⟨a30,h⟩:=h;replace h:=Q4 h;obtain ⟨a31,h⟩:=h;simp [-Q0,-Q5,-Q1,-Q6,-Q2,at_I a22,at_I a23,at_I a25,at_I a26,at_L a28,at_I a29,at_I a30,at_I a31];(repeat refine sdQ ?_);refine hK _ ?_;exact jn (b:=(ix (rx c_.cs f_) s18.2) == (ix c_.id (ix c_.fr f_))) (Option.some.inj h) (wkQ8 [(0,0),(1,1)])
      have g27:¬ ((ix c_.to s18.2)=(ix c_.fr f_)):=gQ;clear g;replace h:=if_r g27 h;simp [-Q0,-Q5,-Q1,-Q6,-Q2,at_I a22,at_I a23,at_I a25,at_I a26];(repeat refine sdQ ?_);refine hK _ ?_;exact jn (b:=false) (Option.some.inj h) (wkQ8 [(0,0),(1,1)])
     have g24:¬ ((ix c_.fr s18.2)=(ix c_.to f_)):=gQ;clear g;replace h:=if_r g24 h;simp [-Q0,-Q5,-Q1,-Q6,-Q2,at_I a22,at_I a23];(repeat refine sdQ ?_);refine hK _ ?_;exact jn (b:=false) (Option.some.inj h) (wkQ8 [(0,0),(1,1)])
    intro b21 hb21;have h:=h21;(try rw [← hb21] at h);clear h21;(try dsimp only at h);refine Qc rfl (fun g=>?_) fun g=>?_
    ·have g32:b21=true:=gQ;clear g;replace h:=if_l g32 h;refine runQ hN fun K hK=>?_;replace h:=Q4 h;obtain ⟨a33,h⟩:=h;(try simp only [List.length_append,List.length_cons,List.length_nil] at a33);simp [-Q0,-Q5,-Q1,-Q6,-Q2,a33];(repeat refine sdQ ?_);refine hK _ ?_;clear hK K;refine bn ?_;exact jn (b:=s18.1++[s18.2]) (Option.some.inj h) (wkQ8 [(0,0),(3,1)])
    have g32:¬ (b21=true):=gQ;clear g;replace h:=if_r g32 h;refine Qd ?_;refine bn ?_;exact jn (b:=s18.1) (Option.some.inj h) (wkQ8 [(0,0),(1,1)])
   intro b20 hb20;have h:=h20;(try rw [← hb20] at h);clear h20;(try dsimp only at h);refine runQ hN fun K hK=>?_;replace h:=Q4 h;obtain ⟨a34,h⟩:=h;simp [-Q0,-Q5,-Q1,-Q6,-Q2,Qt a34];(repeat refine sdQ ?_);refine hK _ ?_;clear hK K;cases h;exact rn (s':=(b20,s18.2+1)) hk18 (wkQ8 [(0,0),(1,1)])
  have g19:¬ (s18.2<(c_.fr.length:Int)):=gQ;clear g;replace h:=if_r g19 h;refine Qq ?_;refine tx ?_;refine lx ?_;refine bh ?_;cases h;exact jn (b:=s18.1) hk18 (wkQ8 [(1,0)])
 intro b1 hb1;have h:=h1;try rw [← hb1] at h
 clear h1;try dsimp only at h
 refine Q3 ?_;refine runQ hN fun K hK=>?_;simp [-Q0,-Q5,-Q1,-Q6,-Q2];repeat refine sdQ ?_
 refine hK _ ?_;clear hK K;refine tn ?_;refine Q8 (st':=⟨[(4,.own 0 0 b1.length)],[(0,rI b1)],1⟩) (wkQ8 [(0,0)]) ?_;refine Qk ?_;have hr:=Option.some.inj h;rw [← hr];refine ⟨_,(.tmp .nil),?_⟩;refine ⟨(.one rfl rfl .nil),[lI b1],[0],by simp [Cat.cells,UA,U1,IA,I1,LA,L1,BA,B1,EA,E1,E2,eB,eI,eL],by simp,(UpL.refl _)⟩
attribute [local simp] eL eI Qs QH Cat.cells
noncomputable def Q2n (c_:Cat) (f_:Int):Option (List Int) :=
 (QA (σ:=List Int × Int) (ε:=List Int) (fun s18 =>
  if s18.2<(c_.fr.length:Int) then
   (
    (
     ass (0≤s18.2∧s18.2<(c_.fr.length:Int)) <|
     ass (0≤f_∧f_<(c_.to.length:Int)) <|
     if (ix c_.fr s18.2)=(ix c_.to f_) then
      ass (0≤s18.2∧s18.2<(c_.to.length:Int)) <|
      ass (0≤f_∧f_<(c_.fr.length:Int)) <|
      if (ix c_.to s18.2)=(ix c_.fr f_) then
       ass (0≤s18.2∧s18.2<(c_.cs.length:Int)) <|
       ass (0≤f_∧f_<((rx c_.cs s18.2).length:Int)) <|
       ass (0≤f_∧f_<(c_.to.length:Int)) <|
       ass (0≤ix c_.to f_∧ix c_.to f_<(c_.id.length:Int)) <|
       some ((ix (rx c_.cs s18.2) f_) == (ix c_.id (ix c_.to f_)))
      else
       some false
     else
      some false:Option (Bool)).bind fun b21 =>
    if b21=true then
     ass ((s18.1++[s18.2]).length≤1073741824) <|
     some (s18.1++[s18.2])
    else
     some s18.1:Option (List Int)).bind fun b20 =>
   ass (B64 (s18.2+1)) <|
   some (Ctl.next (b20,s18.2+1))
  else
   some (Ctl.ret s18.1)) fuel ([],0)).bind fun b1 =>
 some b1
theorem Q55 (c_:Cat) (f_:Int) (r:List Int) (h:Q2n c_ f_=some r):Contract Try.prog 153 [.agg (c_.cells true),iV f_] (lI r):=by
 refine Qe (rvs:=[.tmp 4]) (rs:=[lI r]) Try.func153 rfl rfl rfl rfl (by simp [Try.f153]) fun F hN hP=>?_;unfold Q2n at h;refine Q3 ?_;refine runQ hN fun K hK=>?_;simp [-Q0,-Q5,-Q1,-Q6,-Q2];repeat refine sdQ ?_
 refine hK _ ?_;clear hK K;refine tn ?_;refine Q8 (st':=⟨[(1,iV f_),(2,.adr 0 0 0)],[(0,.mix 5 [(Cat.cells true c_)])],1⟩) (wkQ8 [(0,0)]) ?_;refine Q3 ?_;refine runQ hN fun K hK=>?_;simp [-Q0,-Q5,-Q1,-Q6,-Q2];repeat refine sdQ ?_
 refine hK _ ?_;clear hK K;refine tn ?_;refine Q8 (st':=⟨[(1,iV f_),(2,.adr 0 0 0),(5,.own 1 0 0)],[(0,.mix 5 [(Cat.cells true c_)]),(1,.mix 1 [])],2⟩) (wkQ8 [(0,0),(1,1)]) ?_;refine Q3 ?_;refine Q3 ?_;refine runQ hN fun K hK=>?_;simp [-Q0,-Q5,-Q1,-Q6,-Q2];repeat refine sdQ ?_
 refine hK _ ?_;clear hK K;refine tn ?_;refine Q8 (st':=⟨[(1,iV f_),(2,.adr 0 0 0),(5,.own 1 0 0),(6,iV 0)],[(0,.mix 5 [(Cat.cells true c_)]),(1,.mix 1 [])],2⟩) (wkQ8 [(0,0),(1,1)]) ?_;replace h:=bind_some h;obtain ⟨e1,h,h1⟩:=h;refine Qj (fun b1:List Int=>⟨[(5,.own 0 0 b1.length)],[(0,rI b1)],1⟩) (fun b1=>b1=e1) ?_ ?_
 ·refine Qa ?_;refine Qx h (fun s18:List Int × Int=>⟨[(1,iV f_),(2,.adr 0 0 0),(5,.own 1 0 s18.1.length),(6,iV s18.2)],[(0,.mix 5 [(Cat.cells true c_)]),(1,rI s18.1)],2⟩) (Q2N ⟨[(1,iV f_),(2,.adr 0 0 0),(5,.own 1 0 0),(6,iV 0)],[(0,.mix 5 [(Cat.cells true c_)]),(1,rI [])],2⟩ (Wk.nils [] (by simp) (by simp) (by simp [nlA]) (by simp [entN,nlL,nlA,Cat.cells,UA,U1,IA,I1,LA,L1,BA,B1,EA,E1,E2,eB,eI,eL]) (by simp)) (wkQ8 [(0,0),(1,1)])) ?_;clear h;intro k18 s18 c18 h hk18;refine Q3 ?_;refine Q3 ?_;refine runQ hN fun K hK=>?_;simp [-Q0,-Q5,-Q1,-Q6,-Q2];repeat refine sdQ ?_
  refine hK _ ?_;clear hK K;refine tn ?_;refine Q8 (st':=⟨[(1,iV f_),(2,.adr 0 0 0),(5,.own 1 0 s18.1.length),(6,iV s18.2),(12,.val (.bool (decide (s18.2<(c_.fr.length:Int)))))],[(0,.mix 5 [(Cat.cells true c_)]),(1,rI s18.1)],2⟩) (wkQ8 [(0,0),(1,1)]) ?_;refine Qc rfl (fun g=>?_) fun g=>?_
  ·have g19:s18.2<(c_.fr.length:Int):=gQ;clear g;replace h:=if_l g19 h;refine Qd ?_;refine tn ?_;refine Q3 ?_;replace h:=bind_some h;obtain ⟨e20,h,h20⟩:=h;refine Qj (fun b20:List Int=>⟨[(1,iV f_),(2,.adr 0 0 0),(5,.own 1 0 b20.length),(6,iV s18.2)],[(0,.mix 5 [(Cat.cells true c_)]),(1,rI b20)],2⟩) (fun b20=>b20=e20) ?_ ?_
   ·refine Qa ?_;refine Q3 ?_;replace h:=bind_some h;obtain ⟨e21,h,h21⟩:=h;refine Qj (fun b21:Bool=>⟨[(1,iV f_),(2,.adr 0 0 0),(5,.own 1 0 s18.1.length),(6,iV s18.2),(58,.val (.bool b21))],[(0,.mix 5 [(Cat.cells true c_)]),(1,rI s18.1)],2⟩) (fun b21=>b21=e21) ?_ ?_
    ·refine runQ hN fun K hK=>?_;replace h:=Q4 h;obtain ⟨a22,h⟩:=h;replace h:=Q4 h;obtain ⟨a23,h⟩:=h;simp [-Q0,-Q5,-Q1,-Q6,-Q2,at_I a22,at_I a23];(repeat with_reducible refine sdQ ?_);refine Qn (fun g=>?_) (fun g=>?_)
     ·have g24:(ix c_.fr s18.2)=(ix c_.to f_):=gQ;clear g;replace h:=if_l g24 h;replace h:=Q4 h;obtain ⟨a25,h⟩:=h;replace h:=Q4 h;obtain ⟨a26,h⟩:=h;simp [-Q0,-Q5,-Q1,-Q6,-Q2,at_I a22,at_I a23,at_I a25,at_I a26];(repeat with_reducible refine sdQ ?_);refine Qn (fun g=>?_) (fun g=>?_)
      ·have g27:(ix c_.to s18.2)=(ix c_.fr f_):=gQ;clear g;replace h:=if_l g27 h;replace h:=Q4 h;obtain ⟨a28,h⟩:=h;replace h:=Q4 h;obtain ⟨a29,h⟩:=h;replace h:=Q4 h;obtain ⟨a30,h⟩:=h;replace h:=Q4 h;obtain ⟨a31,h⟩:=h;simp [-Q0,-Q5,-Q1,-Q6,-Q2,at_I a22,at_I a23,at_I a25,at_I a26,at_L a28,at_I a29,at_I a30,at_I a31];(repeat refine sdQ ?_);refine hK _ ?_;exact jn (b:=(ix (rx c_.cs s18.2) f_) == (ix c_.id (ix c_.to f_))) (Option.some.inj h) (wkQ8 [(0,0),(1,1)])
      have g27:¬ ((ix c_.to s18.2)=(ix c_.fr f_)):=gQ;clear g;replace h:=if_r g27 h;simp [-Q0,-Q5,-Q1,-Q6,-Q2,at_I a22,at_I a23,at_I a25,at_I a26];(repeat refine sdQ ?_);refine hK _ ?_;exact jn (b:=false) (Option.some.inj h) (wkQ8 [(0,0),(1,1)])
     have g24:¬ ((ix c_.fr s18.2)=(ix c_.to f_)):=gQ;clear g;replace h:=if_r g24 h;simp [-Q0,-Q5,-Q1,-Q6,-Q2,at_I a22,at_I a23];(repeat refine sdQ ?_);refine hK _ ?_;exact jn (b:=false) (Option.some.inj h) (wkQ8 [(0,0),(1,1)])
    intro b21 hb21;have h:=h21;(try rw [← hb21] at h);clear h21;(try dsimp only at h);refine Qc rfl (fun g=>?_) fun g=>?_
    ·have g32:b21=true:=gQ;clear g;replace h:=if_l g32 h;refine runQ hN fun K hK=>?_;replace h:=Q4 h;obtain ⟨a33,h⟩:=h;(try simp only [List.length_append,List.length_cons,List.length_nil] at a33);simp [-Q0,-Q5,-Q1,-Q6,-Q2,a33];(repeat refine sdQ ?_);refine hK _ ?_;clear hK K;refine bn ?_;exact jn (b:=s18.1++[s18.2]) (Option.some.inj h) (wkQ8 [(0,0),(3,1)])
    have g32:¬ (b21=true):=gQ;clear g;replace h:=if_r g32 h;refine Qd ?_;refine bn ?_;exact jn (b:=s18.1) (Option.some.inj h) (wkQ8 [(0,0),(1,1)])
   intro b20 hb20;have h:=h20;(try rw [← hb20] at h);clear h20;(try dsimp only at h);refine runQ hN fun K hK=>?_;replace h:=Q4 h;obtain ⟨a34,h⟩:=h;simp [-Q0,-Q5,-Q1,-Q6,-Q2,Qt a34];(repeat refine sdQ ?_);refine hK _ ?_;clear hK K;cases h;exact rn (s':=(b20,s18.2+1)) hk18 (wkQ8 [(0,0),(1,1)])
  have g19:¬ (s18.2<(c_.fr.length:Int)):=gQ;clear g;replace h:=if_r g19 h;refine Qq ?_;refine tx ?_;refine lx ?_;refine bh ?_;cases h;exact jn (b:=s18.1) hk18 (wkQ8 [(1,0)])
 intro b1 hb1;have h:=h1;try rw [← hb1] at h
 clear h1;try dsimp only at h
 refine Q3 ?_;refine runQ hN fun K hK=>?_;simp [-Q0,-Q5,-Q1,-Q6,-Q2];repeat refine sdQ ?_
 refine hK _ ?_;clear hK K;refine tn ?_;refine Q8 (st':=⟨[(4,.own 0 0 b1.length)],[(0,rI b1)],1⟩) (wkQ8 [(0,0)]) ?_;refine Qk ?_;have hr:=Option.some.inj h;rw [← hr];refine ⟨_,(.tmp .nil),?_⟩;refine ⟨(.one rfl rfl .nil),[lI b1],[0],by simp [Cat.cells,UA,U1,IA,I1,LA,L1,BA,B1,EA,E1,E2,eB,eI,eL],by simp,(UpL.refl _)⟩
attribute [local simp] eL eI Qs QH Cat.cells
noncomputable def Q2x (c_:Cat) (f_:Int):Option Int :=
 (Q1G c_ f_).bind fun v1 =>
 (Q2n c_ f_).bind fun v2 =>
 (QA (σ:=Int) (ε:=Unit ⊕ Int) (fun s10 =>
  if s10<(v1.length:Int) then
   ass (0≤s10∧s10<(v1.length:Int)) <|
   (Q48 v2 (ix v1 s10)).bind fun v13 =>
   if v13=true then
    ass (0≤s10∧s10<(v1.length:Int)) <|
    some (Ctl.ret (Sum.inr (ix v1 s10)))
   else
    ass (B64 (s10+1)) <|
    some (Ctl.next (s10+1))
  else
   some (Ctl.ret (Sum.inl ()))) fuel 0).bind fun e3 =>
 match e3 with
 | .inl b3 =>
  some (-1)
 | .inr p3 =>
  some p3
theorem Q5i (c_:Cat) (f_:Int) (r:Int) (h:Q2x c_ f_=some r):Contract Try.prog 150 [.agg (c_.cells true),iV f_] (iV r):=by
 refine Qe (rvs:=[.tmp 4]) (rs:=[iV r]) Try.func150 rfl rfl rfl rfl (by simp [Try.f150]) fun F hN hP=>?_;unfold Q2x at h;refine Q3 ?_;refine runQ hN fun K hK=>?_;simp [-Q0,-Q5,-Q1,-Q6,-Q2];repeat refine sdQ ?_
 refine hK _ ?_;clear hK K;refine tn ?_;refine Q8 (st':=⟨[(1,iV f_),(2,.adr 0 0 0)],[(0,.mix 5 [(Cat.cells true c_)])],1⟩) (wkQ8 [(0,0)]) ?_;refine Q3 ?_;refine runQ hN fun K hK=>?_;simp [-Q0,-Q5,-Q1,-Q6,-Q2];repeat with_reducible refine sdQ ?_
 replace h:=bind_some h;obtain ⟨v1,hv1,h⟩:=h;refine Q7 (Q3U _ _ v1 hv1) (.cons (.aggL (.cons .val (.cons .lst (.cons .lst (.cons .lst (.cons .lst .nil)))))) (.cons .val .nil)) ?_;simp [-Q0,-Q5,-Q1,-Q6,-Q2,unk,unA,unE,unT,unC,flat];repeat with_reducible refine sdQ ?_
 replace h:=bind_some h;obtain ⟨v2,hv2,h⟩:=h;refine Q7 (Q55 _ _ v2 hv2) (.cons (.aggL (.cons .val (.cons .lst (.cons .lst (.cons .lst (.cons .lst .nil)))))) (.cons .val .nil)) ?_;simp [-Q0,-Q5,-Q1,-Q6,-Q2,unk,unA,unE,unT,unC,flat];repeat refine sdQ ?_
 refine hK _ ?_;clear hK K;refine tn ?_;refine Q8 (st':=⟨[(5,.own 0 0 v1.length),(6,.own 1 0 v2.length)],[(0,rI v1),(1,rI v2)],2⟩) (wkQ8 [(1,0),(2,1)]) ?_;refine Q3 ?_;refine Q3 ?_;refine runQ hN fun K hK=>?_;simp [-Q0,-Q5,-Q1,-Q6,-Q2];repeat refine sdQ ?_
 refine hK _ ?_;clear hK K;refine tn ?_;refine Q8 (st':=⟨[(5,.own 0 0 v1.length),(6,.own 1 0 v2.length),(7,iV 0)],[(0,rI v1),(1,rI v2)],2⟩) (wkQ8 [(0,0),(1,1)]) ?_;replace h:=bind_some h;obtain ⟨e3,h,h3⟩:=h;refine Qj (fun b3:Unit=>⟨[],[],0⟩) (fun b3=>Sum.inl b3=e3) ?_ ?_
 ·refine Qa ?_;refine Qx h (fun s10:Int=>⟨[(5,.own 0 0 v1.length),(6,.own 1 0 v2.length),(7,iV s10)],[(0,rI v1),(1,rI v2)],2⟩) (wkQ8 [(0,0),(1,1)]) ?_;clear h;intro k10 s10 c10 h hk10;refine Q3 ?_;refine Q3 ?_;refine runQ hN fun K hK=>?_;simp [-Q0,-Q5,-Q1,-Q6,-Q2];repeat refine sdQ ?_
  refine hK _ ?_;clear hK K;refine tn ?_;refine Q8 (st':=⟨[(5,.own 0 0 v1.length),(6,.own 1 0 v2.length),(7,iV s10),(17,.val (.bool (decide (s10<(v1.length:Int)))))],[(0,rI v1),(1,rI v2)],2⟩) (wkQ8 [(0,0),(1,1)]) ?_;refine Qc rfl (fun g=>?_) fun g=>?_
  ·have g11:s10<(v1.length:Int):=gQ;clear g;replace h:=if_l g11 h;refine Qd ?_;refine tn ?_;refine Q3 ?_;refine Qa ?_;refine Q3 ?_;refine runQ hN fun K hK=>?_;replace h:=Q4 h;obtain ⟨a12,h⟩:=h;simp [-Q0,-Q5,-Q1,-Q6,-Q2,at_I a12];(repeat with_reducible refine sdQ ?_);replace h:=bind_some h;obtain ⟨v13,hv13,h⟩:=h;refine Q7 (Q8M _ _ v13 hv13) (.cons (.whole (by simp) (by simp) (by simp)) (.cons .val .nil)) ?_;simp [-Q0,-Q5,-Q1,-Q6,-Q2,unk,unA,unE,unT,unC,flat,at_I a12];(repeat refine sdQ ?_);refine hK _ ?_;clear hK K;refine tn ?_;refine Q8 (st':=⟨[(5,.own 0 0 v1.length),(6,.own 1 0 v2.length),(7,iV s10),(25,.val (.bool v13))],[(0,rI v1),(1,rI v2)],2⟩) (wkQ8 [(0,0),(1,1)]) ?_;refine Qc rfl (fun g=>?_) fun g=>?_
   ·have g14:v13=true:=gQ;clear g;replace h:=if_l g14 h;refine Q3 ?_;refine runQ hN fun K hK=>?_;replace h:=Q4 h;obtain ⟨a15,h⟩:=h;simp [-Q0,-Q5,-Q1,-Q6,-Q2,at_I a15];(repeat refine sdQ ?_);refine hK _ ?_;clear hK K;refine tn ?_;refine Q8 (st':=⟨[(4,iV (ix v1 s10))],[],0⟩) (wkQ8 []) ?_;refine Qk ?_;refine br ?_;refine tr ?_;refine lr ?_;refine br ?_;refine tr ?_;cases h;have q:_=e3:=hk10;have h:=h3;rw [← q] at h;clear q;(try dsimp only at h);have hr:=Option.some.inj h;rw [← hr];refine ⟨_,(.tmp .nil),?_⟩;refine ⟨(.one rfl rfl .nil),[iV (ix v1 s10)],[],by simp [Cat.cells,UA,U1,IA,I1,LA,L1,BA,B1,EA,E1,E2,eB,eI,eL],by simp,(UpL.refl _)⟩
   have g14:¬ (v13=true):=gQ;clear g;replace h:=if_r g14 h;refine Qd ?_;refine bn ?_;refine tn ?_;refine runQ hN fun K hK=>?_;replace h:=Q4 h;obtain ⟨a16,h⟩:=h;simp [-Q0,-Q5,-Q1,-Q6,-Q2,Qt a16];(repeat refine sdQ ?_);refine hK _ ?_;clear hK K;cases h;exact rn (s':=s10+1) hk10 (wkQ8 [(0,0),(1,1)])
  have g11:¬ (s10<(v1.length:Int)):=gQ;clear g;replace h:=if_r g11 h;refine Qq ?_;refine tx ?_;refine lx ?_;refine bh ?_;cases h;exact jn (b:=()) hk10 (wkQ8 [])
 intro b3 hb3;have h:=h3;try rw [← hb3] at h
 clear h3;try dsimp only at h
 refine Q3 ?_;refine runQ hN fun K hK=>?_;simp [-Q0,-Q5,-Q1,-Q6,-Q2];repeat refine sdQ ?_
 refine hK _ ?_;clear hK K;refine tn ?_;refine Q8 (st':=⟨[(4,iV (-1))],[],0⟩) (wkQ8 []) ?_;refine Qk ?_;have hr:=Option.some.inj h;rw [← hr];refine ⟨_,(.tmp .nil),?_⟩;refine ⟨(.one rfl rfl .nil),[iV (-1)],[],by simp [Cat.cells,UA,U1,IA,I1,LA,L1,BA,B1,EA,E1,E2,eB,eI,eL],by simp,(UpL.refl _)⟩
noncomputable def flt (n:Nat) (p:Nat→Prop):List Int:=((List.range n).filter fun i=>bo (p i)).map Int.ofNat
noncomputable def fstN (n:Nat) (p:Nat→Prop):Int:=(((List.range n).find? fun i=>bo (p i)).map Int.ofNat).getD (-1)
theorem flt_pos {n:Nat} {p:Nat→Prop} (h:p n):flt (n+1) p=flt n p++[(n:Int)]:=by simp [flt,List.range_succ,QY h]
theorem flt_neg {n:Nat} {p:Nat→Prop} (h:¬ p n):flt (n+1) p=flt n p:=by simp [flt,List.range_succ,QD h]
theorem flt_len (n:Nat) (p:Nat→Prop):(flt n p).length≤n:=by
 unfold flt;rw [List.length_map];exact Nat.le_trans (List.length_filter_le _ _) (by simp)
theorem mem_flt {n:Nat} {p:Nat→Prop} {x:Int}:x∈flt n p↔∃ i:Nat,i<n∧p i∧x=(i:Int):=by
 simp only [flt,List.mem_map,List.mem_filter,List.mem_range,bo_tt];constructor
 ·rintro ⟨i,⟨h1,h2⟩,rfl⟩;exact ⟨i,h1,h2,rfl⟩
 rintro ⟨i,h1,h2,rfl⟩;exact ⟨i,⟨h1,h2⟩,rfl⟩
theorem Q7L (n:Nat) (p:Nat→Prop):(fstN n p = -1∧∀ i,i<n→¬ p i)∨∃ k:Nat,k<n∧p k∧fstN n p=(k:Int):=by
 unfold fstN;cases h:(List.range n).find? fun i=>bo (p i) with
 | none =>
  refine .inl ⟨rfl,fun i hi=>?_⟩;have:=List.find?_eq_none.1 h i (by simpa using hi);simpa [bo_tt] using this
 | some k =>
  have h1:=List.find?_some h;have h2:=List.mem_of_find?_eq_some h;exact .inr ⟨k,by simpa using h2,by simpa [bo_tt] using h1,rfl⟩
theorem e_hom {c:Cat} (h:c.Is) (x y:Int):QB c x y=some (flt c.fr.length fun a=>ix c.fr a=x∧ix c.to a=y):=by
 have k1:=h.1.lt;have k2:=h.1.m40;unfold QB;refine Q1y c.fr.length (fun i=>flt i fun a=>ix c.fr a=x∧ix c.to a=y) (e:=flt c.fr.length fun a=>ix c.fr a=x∧ix c.to a=y) rfl (by omega) (fun i hi=>?_) (by simp) rfl;have hl:=flt_len i fun a=>ix c.fr a=x∧ix c.to a=y
 by_cases h1:ix c.fr i=x
 ·by_cases h2:ix c.to i=y
  ·rw [flt_pos ⟨h1,h2⟩];simp (disch:=omega) [Q9,B64,h1,h2];try omega
  rw [flt_neg fun q=>h2 q.2];simp (disch:=omega) [Q9,B64,h1,h2];try omega
 rw [flt_neg fun q=>h1 q.1];simp (disch:=omega) [Q9,B64,h1];try omega
theorem e_l02Hom (c:Cat) (x y:Int):Q1P c x y=QB c x y:=rfl
attribute [local simp] eL eI Qs QH Q1B Cat.cells Fn.cells
noncomputable def QO (f_:Fn) (g_:Fn) (components_:List Int) (a_:Int):Option Bool :=
 ass (0≤a_∧a_<(f_.ar.length:Int)) <|
 ass (0≤ix f_.ar a_∧ix f_.ar a_<(f_.t.cs.length:Int)) <|
 ass (0≤a_∧a_<(f_.s.to.length:Int)) <|
 ass (0≤ix f_.s.to a_∧ix f_.s.to a_<(components_.length:Int)) <|
 ass (0≤ix components_ (ix f_.s.to a_)∧ix components_ (ix f_.s.to a_)<((rx f_.t.cs (ix f_.ar a_)).length:Int)) <|
 ass (0≤a_∧a_<(f_.s.fr.length:Int)) <|
 ass (0≤ix f_.s.fr a_∧ix f_.s.fr a_<(components_.length:Int)) <|
 ass (0≤ix components_ (ix f_.s.fr a_)∧ix components_ (ix f_.s.fr a_)<(f_.t.cs.length:Int)) <|
 ass (0≤a_∧a_<(g_.ar.length:Int)) <|
 ass (0≤ix g_.ar a_∧ix g_.ar a_<((rx f_.t.cs (ix components_ (ix f_.s.fr a_))).length:Int)) <|
 some ((ix (rx f_.t.cs (ix f_.ar a_)) (ix components_ (ix f_.s.to a_))) == (ix (rx f_.t.cs (ix components_ (ix f_.s.fr a_))) (ix g_.ar a_)))
theorem Q3V (f_:Fn) (g_:Fn) (components_:List Int) (a_:Int) (r:Bool) (h:QO f_ g_ components_ a_=some r):Contract Try.prog 151 [.agg (f_.cells true),.agg (g_.cells true),lI components_,iV a_] (.val (.bool r)):=by
 refine Qe (rvs:=[.tmp 8]) (rs:=[.val (.bool r)]) Try.func151 rfl rfl rfl rfl (by simp [Try.f151]) fun F hN hP=>?_;unfold QO at h;refine Q3 ?_;refine runQ hN fun K hK=>?_;simp [-Q0,-Q5,-Q1,-Q6,-Q2];repeat refine sdQ ?_
 refine hK _ ?_;clear hK K;refine tn ?_;refine Q8 (st':=⟨[(2,lI components_),(3,iV a_),(4,.adr 0 0 0),(5,.adr 1 0 0)],[(0,.mix 12 [(Fn.cells true f_)]),(1,.mix 12 [(Fn.cells true g_)])],2⟩) (wkQ8 [(0,0),(1,1)]) ?_;refine Q3 ?_;refine w_runS mo (by rw [hN];decide) fun K hK=>?_;simp [-Q0,-Q5,-Q1,-Q6,-Q2];repeat refine sdQ ?_
 refine hK _ ?_;clear hK K;refine tn ?_;refine Q8 (st':=⟨[(2,lI components_),(3,iV a_),(4,.adr 0 0 0),(5,.adr 1 0 0),(9,.adr 2 0 0),(10,.adr 3 0 0)],[(0,.mix 12 [(Fn.cells true f_)]),(1,.mix 12 [(Fn.cells true g_)]),(2,.mix 5 [(Cat.cells true f_.s)]),(3,.mix 5 [(Cat.cells true f_.t)])],4⟩) (wkQ8 [(0,0),(1,1),(2,2),(3,3)]) ?_;refine Q3 ?_;refine runQ hN fun K hK=>?_;replace h:=Q4 h;obtain ⟨a1,h⟩:=h;replace h:=Q4 h;obtain ⟨a2,h⟩:=h;replace h:=Q4 h;obtain ⟨a3,h⟩:=h;replace h:=Q4 h;obtain ⟨a4,h⟩:=h;replace h:=Q4 h;obtain ⟨a5,h⟩:=h;replace h:=Q4 h;obtain ⟨a6,h⟩:=h;replace h:=Q4 h;obtain ⟨a7,h⟩:=h;replace h:=Q4 h;obtain ⟨a8,h⟩:=h;replace h:=Q4 h;obtain ⟨a9,h⟩:=h;replace h:=Q4 h;obtain ⟨a10,h⟩:=h;simp [-Q0,-Q5,-Q1,-Q6,-Q2,at_I a1,at_L a2,at_I a3,at_I a4,at_I a5,at_I a6,at_I a7,at_L a8,at_I a9,at_I a10];repeat refine sdQ ?_
 refine hK _ ?_;clear hK K;refine tn ?_;refine Q8 (st':=⟨[(8,.val (.bool ((ix (rx f_.t.cs (ix f_.ar a_)) (ix components_ (ix f_.s.to a_))) == (ix (rx f_.t.cs (ix components_ (ix f_.s.fr a_))) (ix g_.ar a_)))))],[],0⟩) (wkQ8 []) ?_;refine Qk ?_;have hr:=Option.some.inj h;rw [← hr];refine ⟨_,(.tmp .nil),?_⟩;refine ⟨(.one rfl rfl .nil),[.val (.bool ((ix (rx f_.t.cs (ix f_.ar a_)) (ix components_ (ix f_.s.to a_))) == (ix (rx f_.t.cs (ix components_ (ix f_.s.fr a_))) (ix g_.ar a_))))],[],by simp [Cat.cells,Fn.cells,UA,U1,IA,I1,LA,L1,BA,B1,EA,E1,E2,eB,eI,eL],by simp,(UpL.refl _)⟩
theorem Cat.Is.two {c:Cat} (h:c.Is) {f g:Int} (f0:0≤f∧f<c.fr.length) (g0:0≤g∧g<c.fr.length) (e:ix c.to f=ix c.fr g):(0≤ix (rx c.cs f) g∧ix (rx c.cs f) g<c.fr.length)∧ix c.fr (ix (rx c.cs f) g)=ix c.fr f∧ix c.to (ix (rx c.cs f) g)=ix c.to g:=by
 have:=(h.1.cell' f0.1 f0.2 g0.1 g0.2).2 e;exact ⟨⟨this.1,this.2.1⟩,this.2.2⟩
theorem e_Then {c:Cat} (h:c.Is) {f g:Int} (f0:0≤f∧f<c.fr.length) (g0:0≤g∧g<c.fr.length):Q13 c f g=some (ix (rx c.cs f) g)∧Qu c f g=some (ix (rx c.cs f) g):=by
 have h1:=h.1.lc;have h2:=h.1.row' f0.1 f0.2;exact ⟨e_l02Then (by omega) (by omega),Q70 (by omega) (by omega)⟩
abbrev Ar (c:Cat) (f x y:Int):Prop:=(0≤f∧f<(c.fr.length:Int))∧ix c.fr f=x∧ix c.to f=y
theorem Ar.two {c:Cat} (hc:c.Is) {f g x y z:Int} (h1:Ar c f x y) (h2:Ar c g y z):Ar c (ix (rx c.cs f) g) x z:=by
 have:=hc.two h1.1 h2.1 (by rw [h1.2.2,h2.2.1]);exact ⟨this.1,by rw [this.2.1,h1.2.1],by rw [this.2.2,h2.2.2]⟩
theorem Ar.thn {c:Cat} (hc:c.Is) {f g x y z:Int} (h1:Ar c f x y) (h2:Ar c g y z):Q13 c f g=some (ix (rx c.cs f) g)∧Qu c f g=some (ix (rx c.cs f) g):=e_Then hc h1.1 h2.1
theorem Q5N {ε β:Type} {body:List Int × Int→Option (Ctl (List Int × Int) ε)} {K:ε→Option β} {r:Option β} (xs:List Int) (q:Int→Prop) {e:ε} (hn:xs.length<4611686018427387904)
  (h:∀ (i:Nat) (acc:List Int),i<xs.length→acc.length≤i→(q (ix xs i)→body (acc,(i:Int))=some (.next (acc++[ix xs i],(i:Int)+1)))∧(¬ q (ix xs i)→body (acc,(i:Int))=some (.next (acc,(i:Int)+1))))
  (he:body (xs.filter (fun f=>bo (q f)),(xs.length:Int))=some (.ret e)) (hk:K e=r):(QA body fuel ([],0)).bind K=r:=by
 refine Q1y xs.length (fun i=>(xs.take i).filter fun f=>bo (q f)) (e:=e) (by simp) hn (fun i hi=>?_) (by simpa using he) hk;have hl:((xs.take i).filter fun f=>bo (q f)).length≤i:=Nat.le_trans (List.length_filter_le _ _) (by simp;omega);have hs:xs.take (i+1)=xs.take i++[ix xs i]:=by rw [List.take_succ_eq_append_getElem hi,Q1r _ _ hi]
 have hf:((xs.take (i+1)).filter fun f=>bo (q f))=((xs.take i).filter fun f=>bo (q f))++(if bo (q (ix xs i))=true then [ix xs i] else []):=by rw [hs,List.filter_append];simp [List.filter_cons]
 obtain ⟨h1,h2⟩:=h i _ hi hl
 by_cases hq:q (ix xs i)
 ·rw [h1 hq,hf,QY hq];simp
 rw [h2 hq,hf,QD hq];simp
theorem Q7U {xs:List Int} {P:Int→Prop} (h:∀ x∈xs,P x) {i:Nat} (hi:i<xs.length):P (ix xs i):=by
 rw [← Q1r _ _ hi];exact h _ (List.getElem_mem hi)
noncomputable def homL (c:Cat) (x y:Int):List Int:=flt c.fr.length fun a=>ix c.fr a=x∧ix c.to a=y
theorem Q3r {c:Cat} {x y:Int}:∀ f∈homL c x y,Ar c f x y:=by
 intro f hf;obtain ⟨i,h1,h2,rfl⟩:=mem_flt.1 hf;exact ⟨by omega,h2⟩
theorem Q4A (c:Cat) (x y:Int):(homL c x y).length≤c.fr.length:=flt_len _ _
theorem Q7F {c:Cat} (h:c.Is) (x y:Int):Q1P c x y=some (homL c x y)∧QB c x y=some (homL c x y):=⟨by rw [e_l02Hom,e_hom h];rfl,e_hom h x y⟩
theorem fstN_at {n:Nat} {p:Nat→Prop} {m:Nat} (hm:m<n) (hp:p m) (hlt:∀ k,k<m→¬ p k):fstN n p=(m:Int):=by
 unfold fstN;rw [show ((List.range n).find? fun i=>bo (p i))=some m from List.find?_eq_some_iff_getElem.2 ⟨by rw [bo_tt];exact hp,m,by simpa using hm,by simp,fun j hj=>by simp [QD (hlt j hj)]⟩];rfl
theorem fstN_no {n:Nat} {p:Nat→Prop} (h:∀ i,i<n→¬ p i):fstN n p = -1:=by
 rcases Q7L n p with ⟨h1,_⟩|⟨k,h1,h2,_⟩
 ·exact h1
 exact absurd h2 (h k h1)
end Go.Vc.T
