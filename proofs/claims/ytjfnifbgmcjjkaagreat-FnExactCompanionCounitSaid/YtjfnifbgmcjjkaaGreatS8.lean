/- A part of the proof: a verified generator of conditions, and what each function of the program does. -/
import Derived.Test.YtjfnifbgmcjjkaaGreatS7
set_option maxRecDepth 100000
set_option maxHeartbeats 4000000
set_option linter.unusedSimpArgs false
set_option linter.unusedVariables false

namespace Go.Vc.T
open Go Go.Vc Go.Proofs
section
attribute [local simp] Ql Q11 QE Q1j QW
def Es {α:Type} (c:α→List AV) (xs:List α):List (List AV):=xs.map c
def gx {α:Type} [Inhabited α] (xs:List α) (j:Int):α:=xs.getD j.toNat default
def eB (b:Bool):List AV:=[.val (.bool b)]
def eI (b:Int):List AV:=[iV b]
def eL (x:List (List Int)):List AV:=[.lst true 1 (Ls x)]
section
variable {α:Type} {c:α→List AV}
@[simp] theorem Es_length (xs:List α):(Es c xs).length=xs.length:=by simp [Es]
@[simp] theorem Es_nil:Es c []=[]:=rfl
theorem Es_append (xs ys:List α):Es c (xs++ys)=Es c xs++Es c ys:=by simp [Es]
theorem Es_set' (xs:List α) (i:Nat) (x:α):Es c (xs.set i x)=(Es c xs).set i (c x):=by simp [Es,List.map_set]
theorem at_E [Inhabited α] {xs:List α} {j:Int} (h:0≤j∧j<(xs.length:Int)):(Es c xs)[j.toNat]? = some (c (gx xs j)):=by
 have h2:j.toNat<xs.length:=by omega
 simp [Es,gx,List.getD_eq_getElem?_getD,h2]
end
@[simp] theorem Cs_E (xs:List Cat):Cs xs=Es (Cat.cells true) xs:=rfl
@[simp] theorem Fs_E (xs:List Fn):Fs xs=Es (Fn.cells true) xs:=rfl
@[simp] theorem Ls_nil':Ls []=[]:=rfl
theorem Ls_append (xs ys:List (List Int)):Ls (xs++ys)=Ls xs++Ls ys:=by simp [Ls]
theorem at_I {xs:List Int} {j:Int} (h:0≤j∧j<(xs.length:Int)):(Is xs)[j.toNat]? = some [iV (ix xs j)]:=by
 have h2:j.toNat<xs.length:=by omega
 simp [Is,ix,List.getD_eq_getElem?_getD,h2]
theorem at_L {xs:List (List Int)} {j:Int} (h:0≤j∧j<(xs.length:Int)):(Ls xs)[j.toNat]? = some [lI (rx xs j)]:=by
 have h2:j.toNat<xs.length:=by omega
 simp [Ls,rx,List.getD_eq_getElem?_getD,h2]
@[simp] theorem Is_takeE (xs:List Int) (k:Nat):List.take k (Is xs)=Is (xs.take k):=by simp [Is,List.map_take]
@[simp] theorem Ls_takeA (xs:List (List Int)):List.take xs.length (Ls xs)=Ls xs:=List.take_of_length_le (by simp)
@[simp] theorem u8_min:IntKind.u8.min=0:=rfl
@[simp] theorem u8_max:IntKind.u8.max=255:=rfl
@[simp] theorem Es_takeA {α:Type} {c:α→List AV} (xs:List α):List.take xs.length (Es c xs)=Es c xs:=List.take_of_length_le (by simp)
@[simp] theorem Bs_nil':Bs []=[]:=rfl
theorem Bs_append (xs ys:List Bool):Bs (xs++ys)=Bs xs++Bs ys:=by simp [Bs]
theorem IA (xs ys:List Int):Is (xs++ys)=Is xs++Is ys:=Is_append xs ys
theorem I1 (x:Int) (xs:List Int):Is (x :: xs)=[iV x] :: Is xs:=rfl
theorem LA (xs ys:List (List Int)):Ls (xs++ys)=Ls xs++Ls ys:=Ls_append xs ys
theorem L1 (x:List Int) (xs:List (List Int)):Ls (x :: xs)=[lI x] :: Ls xs:=rfl
theorem BA (xs ys:List Bool):Bs (xs++ys)=Bs xs++Bs ys:=Bs_append xs ys
theorem B1 (x:Bool) (xs:List Bool):Bs (x :: xs)=[.val (.bool x)] :: Bs xs:=rfl
theorem EA {α:Type} {c:α→List AV} (xs ys:List α):Es c (xs++ys)=Es c xs++Es c ys:=Es_append xs ys
theorem E1 {α:Type} {c:α→List AV} (x:α) (xs:List α):Es c (x :: xs)=c x :: Es c xs:=rfl
theorem E2 {α:Type} {c:α→List AV} (xs:List α) (i:Nat) (x:α):Es c (xs.set i x)=(Es c xs).set i (c x):=Es_set' xs i x
theorem rlLL_c {α:Type} {m:List (Nat × Nat)} {c:α→List AV} (h:∀ x,rlL m (c x)=c x):∀ xs:List α,rlLL m (xs.map c)=xs.map c:=by
 intro xs
 induction xs with
 | nil=>rfl
 | cons a r ih=>simp only [List.map_cons,rlLL,h,ih]
@[simp] theorem Q8 {α:Type} (m:List (Nat × Nat)) (c:α→List AV) (xs:List α) (h:∀ x,rlL m (c x)=c x):rlLL m (Es c xs)=Es c xs:=rlLL_c h xs
@[simp] theorem rlLL_append (m:List (Nat × Nat)) (xs ys:List (List AV)):rlLL m (xs++ys)=rlLL m xs++rlLL m ys:=by
 induction xs with
 | nil=>rfl
 | cons a r ih=>simp only [List.cons_append,rlLL,ih]
end
section
attribute [local simp] Ql Q11 QE Q1j QW
def Q16 (x:Cat):List AV:=[.rptr (x.cells true)]
def Q3k (x:Fn):List AV:=[.rptr (x.cells true)]
instance:Inhabited Cat:=⟨⟨0,[],[],[],[]⟩⟩
instance:Inhabited Fn:=⟨⟨default,default,[],[]⟩⟩
structure Ends where
 a:Int
 b:Int
def Ends.cells (u:Bool) (f:Ends):List AV:=[iV f.a,iV f.b]
structure Prf where
 s:Cat
 t:Cat
 sz:List (List Int)
 bf:List (List (List Int))
 bh:List (List (List Int))
def Prf.cells (u:Bool) (f:Prf):List AV:=[iV f.s.n,.lst u 1 (Is f.s.fr),.lst u 1 (Is f.s.to),.lst u 1 (Is f.s.id),.lst u 1 (Ls f.s.cs),iV f.t.n,.lst u 1 (Is f.t.fr),.lst u 1 (Is f.t.to),.lst u 1 (Is f.t.id),.lst u 1 (Ls f.t.cs),.lst u 1 (Ls f.sz),.lst u 1 (Es eL f.bf),.lst u 1 (Es eL f.bh)]
instance:Inhabited Prf:=⟨⟨default,default,default,default,default⟩⟩
def Q1g (x:Prf):List AV:=[.rptr (x.cells true)]
structure XTripleint64 where
 a_:Int
 b_:Int
 c_:Int
def XTripleint64.cells (u:Bool) (f:XTripleint64):List AV:=[iV f.a_,iV f.b_,iV f.c_]
instance:Inhabited XTripleint64:=⟨⟨default,default,default⟩⟩
def Q9 (x:XTripleint64):List AV:=[.rptr (x.cells true)]
structure XComposite where
 p_:Prf
 q_:Prf
 out_:Prf
 triples_:List (List (List XTripleint64))
 classes_:List (List (List Int))
def XComposite.cells (u:Bool) (f:XComposite):List AV:=[.rptr (Prf.cells true f.p_),.rptr (Prf.cells true f.q_),iV f.out_.s.n,.lst u 1 (Is f.out_.s.fr),.lst u 1 (Is f.out_.s.to),.lst u 1 (Is f.out_.s.id),.lst u 1 (Ls f.out_.s.cs),iV f.out_.t.n,.lst u 1 (Is f.out_.t.fr),.lst u 1 (Is f.out_.t.to),.lst u 1 (Is f.out_.t.id),.lst u 1 (Ls f.out_.t.cs),.lst u 1 (Ls f.out_.sz),.lst u 1 (Es eL f.out_.bf),.lst u 1 (Es eL f.out_.bh),.lst u 1 (Es (fun x=>[.lst u 1 (Es (fun x=>[.lst u 3 (Es (XTripleint64.cells true) x)]) x)]) f.triples_),.lst u 1 (Es eL f.classes_)]
instance:Inhabited XComposite:=⟨⟨default,default,default,default,default⟩⟩
def Qk (x:XComposite):List AV:=[.rptr (x.cells true)]
structure XL32Composite where
 p_:Prf
 triples_:List (List (List (List Int)))
 classes_:List (List (List Int))
def XL32Composite.cells (u:Bool) (f:XL32Composite):List AV:=[iV f.p_.s.n,.lst u 1 (Is f.p_.s.fr),.lst u 1 (Is f.p_.s.to),.lst u 1 (Is f.p_.s.id),.lst u 1 (Ls f.p_.s.cs),iV f.p_.t.n,.lst u 1 (Is f.p_.t.fr),.lst u 1 (Is f.p_.t.to),.lst u 1 (Is f.p_.t.id),.lst u 1 (Ls f.p_.t.cs),.lst u 1 (Ls f.p_.sz),.lst u 1 (Es eL f.p_.bf),.lst u 1 (Es eL f.p_.bh),.lst u 1 (Es (fun x=>[.lst u 1 (Es eL x)]) f.triples_),.lst u 1 (Es eL f.classes_)]
instance:Inhabited XL32Composite:=⟨⟨default,default,default⟩⟩
def Qs (x:XL32Composite):List AV:=[.rptr (x.cells true)]
instance XTripleint64_deq:DecidableEq XTripleint64:=fun x y=>decidable_of_iff (x.a_=y.a_∧x.b_=y.b_∧x.c_=y.c_) ⟨fun h=>by cases x;cases y;simp_all,fun h=>by subst h;simp⟩
def XTripleint64.kv (x:XTripleint64):Value:=.agg #[.int .i64 x.a_,.int .i64 x.b_,.int .i64 x.c_]
theorem XTripleint64.kv_inj (x y:XTripleint64) (h:XTripleint64.kv x=XTripleint64.kv y):x=y:=by cases x;cases y;simp [XTripleint64.kv] at h;simp [h]
def Qx (xs:List (XTripleint64 × Int)):List (Value × Value):=Em XTripleint64.kv vI xs
@[simp] theorem Q8x:Qx []=[]:=rfl
@[simp] theorem Q7D (xs:List (XTripleint64 × Int)):(Qx xs).length=xs.length:=by simp [Qx,Em]
@[simp] theorem Q8t (k0 k1 k2:Int) (xs:List (XTripleint64 × Int)):(Q28 (.agg #[.int .i64 k0,.int .i64 k1,.int .i64 k2]) (Qx xs)).getD (.int .i64 0) = .int .i64 ((Q1X (⟨k0,k1,k2⟩:XTripleint64) xs).getD 0):=by
 have:=Q7m (ev:=vI) XTripleint64.kv_inj (⟨k0,k1,k2⟩:XTripleint64) xs;show (Q28 (XTripleint64.kv (⟨k0,k1,k2⟩:XTripleint64)) (Em XTripleint64.kv vI xs)).getD (.int .i64 0)=_;rw [this];cases Q1X (⟨k0,k1,k2⟩:XTripleint64) xs<;>rfl
@[simp] theorem Q8Z (k0 k1 k2:Int) (v:Int) (xs:List (XTripleint64 × Int)):mset (.agg #[.int .i64 k0,.int .i64 k1,.int .i64 k2]) (.int .i64 v) (Qx xs)=Qx (tset (⟨k0,k1,k2⟩:XTripleint64) v xs):=mset_Em (ev:=vI) XTripleint64.kv_inj (⟨k0,k1,k2⟩:XTripleint64) v xs
@[simp] theorem Q8u (k0 k1 k2:Int) (v:Int):mset (.agg #[.int .i64 k0,.int .i64 k1,.int .i64 k2]) (.int .i64 v) []=Qx [((⟨k0,k1,k2⟩:XTripleint64),v)]:=rfl
end
section
attribute [local simp] Ql Q11 QE Q1j QW
@[simp] theorem ef_29:elm Tryz.prog 29=some 23:=by kernel_rfl
@[simp] theorem ef_46:elm Tryz.prog 46=some 29:=by kernel_rfl
@[simp] theorem ef_68:elm Tryz.prog 68=some 99:=by kernel_rfl
@[simp] theorem ef_69:elm Tryz.prog 69=some 100:=by kernel_rfl
@[simp] theorem ef_99:elm Tryz.prog 99=some 101:=by kernel_rfl
@[simp] theorem ef_100:elm Tryz.prog 100=some 103:=by kernel_rfl
@[simp] theorem ef_101:elm Tryz.prog 101=some 74:=by kernel_rfl
@[simp] theorem ef_103:elm Tryz.prog 103=some 2:=by kernel_rfl
@[simp] theorem ef_115:elm Tryz.prog 115=some 66:=by kernel_rfl
@[simp] theorem ef_121:elm Tryz.prog 121=some 2:=by kernel_rfl
@[simp] theorem qf_74:eqT Tryz.prog 74=5:=by kernel_rfl
@[simp] theorem ff_27_0:fld Tryz.prog 27 0=some (0,5,true):=by kernel_rfl
@[simp] theorem ff_27_1:fld Tryz.prog 27 1=some (5,5,true):=by kernel_rfl
@[simp] theorem ff_27_2:fld Tryz.prog 27 2=some (10,1,false):=by kernel_rfl
@[simp] theorem ff_27_3:fld Tryz.prog 27 3=some (11,1,false):=by kernel_rfl
@[simp] theorem ff_34_0:fld Tryz.prog 34 0=some (0,5,true):=by kernel_rfl
@[simp] theorem ff_34_1:fld Tryz.prog 34 1=some (5,5,true):=by kernel_rfl
@[simp] theorem ff_34_2:fld Tryz.prog 34 2=some (10,1,false):=by kernel_rfl
@[simp] theorem ff_34_3:fld Tryz.prog 34 3=some (11,1,false):=by kernel_rfl
@[simp] theorem ff_45_0:fld Tryz.prog 45 0=some (0,5,true):=by kernel_rfl
@[simp] theorem ff_45_1:fld Tryz.prog 45 1=some (5,5,true):=by kernel_rfl
@[simp] theorem ff_45_2:fld Tryz.prog 45 2=some (10,1,false):=by kernel_rfl
@[simp] theorem ff_45_3:fld Tryz.prog 45 3=some (11,1,false):=by kernel_rfl
@[simp] theorem ff_45_4:fld Tryz.prog 45 4=some (12,1,false):=by kernel_rfl
@[simp] theorem ff_48_0:fld Tryz.prog 48 0=some (0,13,true):=by kernel_rfl
@[simp] theorem ff_48_1:fld Tryz.prog 48 1=some (13,1,false):=by kernel_rfl
@[simp] theorem ff_48_2:fld Tryz.prog 48 2=some (14,1,false):=by kernel_rfl
@[simp] theorem ff_71_2:fld Tryz.prog 71 2=some (2,13,true):=by kernel_rfl
@[simp] theorem ff_71_3:fld Tryz.prog 71 3=some (15,1,false):=by kernel_rfl
@[simp] theorem ff_71_4:fld Tryz.prog 71 4=some (16,1,false):=by kernel_rfl
@[simp] theorem ff_74_0:fld Tryz.prog 74 0=some (0,1,false):=by kernel_rfl
@[simp] theorem ff_74_1:fld Tryz.prog 74 1=some (1,1,false):=by kernel_rfl
@[simp] theorem ff_74_2:fld Tryz.prog 74 2=some (2,1,false):=by kernel_rfl
@[simp] theorem mf_119:mty Tryz.prog 119=some ((.st 3),.int .i64 0):=by kernel_rfl
@[simp] theorem mf_135:mty Tryz.prog 135=some ((.int .i64),.int .i64 0):=by kernel_rfl
@[simp] theorem pf_34:Q4k Tryz.prog 34=some [(0,5),(5,5),(10,1),(11,1)]:=by kernel_rfl
@[simp] theorem pf_45:Q4k Tryz.prog 45=some [(0,5),(5,5),(10,1),(11,1),(12,1)]:=by kernel_rfl
@[simp] theorem pf_48:Q4k Tryz.prog 48=some [(0,13),(13,1),(14,1)]:=by kernel_rfl
@[simp] theorem pf_71:Q4k Tryz.prog 71=some [(0,1),(1,1),(2,13),(15,1),(16,1)]:=by kernel_rfl
@[simp] theorem pf_74:Q4k Tryz.prog 74=some [(0,1),(1,1),(2,1)]:=by kernel_rfl
@[simp] theorem tf_29:tyi Tryz.prog 29=some ⟨false,1,24,[.slice none 0 0]⟩:=by kernel_rfl
@[simp] theorem tf_34:tyi Tryz.prog 34=some ⟨true,12,256,[.int .i64 0,.slice none 0 0,.slice none 0 0,.slice none 0 0,.slice none 0 0,.int .i64 0,.slice none 0 0,.slice none 0 0,.slice none 0 0,.slice none 0 0,.slice none 0 0,.slice none 0 0]⟩:=by kernel_rfl
@[simp] theorem Q8k:tyi Tryz.prog 45=some ⟨true,13,280,[.int .i64 0,.slice none 0 0,.slice none 0 0,.slice none 0 0,.slice none 0 0,.int .i64 0,.slice none 0 0,.slice none 0 0,.slice none 0 0,.slice none 0 0,.slice none 0 0,.slice none 0 0,.slice none 0 0]⟩:=by kernel_rfl
@[simp] theorem tf_46:tyi Tryz.prog 46=some ⟨false,1,24,[.slice none 0 0]⟩:=by kernel_rfl
@[simp] theorem tf_48:tyi Tryz.prog 48=some ⟨true,15,328,[.int .i64 0,.slice none 0 0,.slice none 0 0,.slice none 0 0,.slice none 0 0,.int .i64 0,.slice none 0 0,.slice none 0 0,.slice none 0 0,.slice none 0 0,.slice none 0 0,.slice none 0 0,.slice none 0 0,.slice none 0 0,.slice none 0 0]⟩:=by kernel_rfl
@[simp] theorem tf_61:tyi Tryz.prog 61=some ⟨false,1,8,[.pointer none]⟩:=by kernel_rfl
@[simp] theorem tf_62:tyi Tryz.prog 62=some ⟨false,1,8,[.pointer none]⟩:=by kernel_rfl
@[simp] theorem tf_65:tyi Tryz.prog 65=some ⟨false,1,8,[.pointer none]⟩:=by kernel_rfl
@[simp] theorem tf_66:tyi Tryz.prog 66=some ⟨false,1,8,[.pointer none]⟩:=by kernel_rfl
@[simp] theorem tf_68:tyi Tryz.prog 68=some ⟨false,1,24,[.slice none 0 0]⟩:=by kernel_rfl
@[simp] theorem tf_69:tyi Tryz.prog 69=some ⟨false,1,24,[.slice none 0 0]⟩:=by kernel_rfl
@[simp] theorem tf_71:tyi Tryz.prog 71=some ⟨true,17,344,[.pointer none,.pointer none,.int .i64 0,.slice none 0 0,.slice none 0 0,.slice none 0 0,.slice none 0 0,.int .i64 0,.slice none 0 0,.slice none 0 0,.slice none 0 0,.slice none 0 0,.slice none 0 0,.slice none 0 0,.slice none 0 0,.slice none 0 0,.slice none 0 0]⟩:=by kernel_rfl
@[simp] theorem tf_74:tyi Tryz.prog 74=some ⟨true,3,24,[.int .i64 0,.int .i64 0,.int .i64 0]⟩:=by kernel_rfl
@[simp] theorem tf_75:tyi Tryz.prog 75=some ⟨false,1,8,[.nilFunc]⟩:=by kernel_rfl
@[simp] theorem tf_99:tyi Tryz.prog 99=some ⟨false,1,24,[.slice none 0 0]⟩:=by kernel_rfl
@[simp] theorem tf_100:tyi Tryz.prog 100=some ⟨false,1,24,[.slice none 0 0]⟩:=by kernel_rfl
@[simp] theorem tf_101:tyi Tryz.prog 101=some ⟨false,1,24,[.slice none 0 0]⟩:=by kernel_rfl
@[simp] theorem tf_103:tyi Tryz.prog 103=some ⟨false,1,24,[.slice none 0 0]⟩:=by kernel_rfl
end
section
attribute [local simp] Ql Q11 QE Q1j QW
noncomputable def Q3D (xs:List Int) (ys:List Int):Option (Bool) :=
 some ((decide (xs=ys)))
theorem Q8p (xs:List Int) (ys:List Int) (r:Bool) (h:Q3D xs ys=some r):Contract Tryz.prog 41 [lI xs,lI ys] (.val (.bool r)):=by
 unfold Q3D at h;cases h;exact c29 true true xs ys
noncomputable def Q2R (xs:List Int) (n:Int):Option (Bool) :=
 ass (B64 (n - 1)) <| some ((xs.all (inR n)))
theorem Q79 (xs:List Int) (n:Int) (r:Bool) (h:Q2R xs n=some r):Contract Tryz.prog 86 [lI xs,iV n] (.val (.bool r)):=by
 unfold Q2R at h;replace ⟨hn,h⟩:=Q0 h;cases h;exact c22 true xs n hn
noncomputable def Q30 (xs:List Int) (k:Int):Option (Int) :=
 ass (xs.length≤1048576) <| ass (0≤k) <| ass (k≤1152921504606846976) <| some ((held k xs))
theorem Q6J (xs:List Int) (k:Int) (r:Int) (h:Q30 xs k=some r):Contract Tryz.prog 75 [lI xs,iV k] (iV r):=by
 unfold Q30 at h;replace ⟨h1,h⟩:=Q0 h;replace ⟨h2,h⟩:=Q0 h;replace ⟨h3,h⟩:=Q0 h;cases h;exact c53 true xs k h1 h2 h3
noncomputable def Q2S (n:Int) (xs:List Int):Option (Bool) :=
 some ((xs.all (inR n)))
theorem Q7a (n:Int) (xs:List Int) (r:Bool) (h:Q2S n xs=some r):Contract Tryz.prog 52 [iV n,lI xs] (.val (.bool r)):=by
 unfold Q2S at h;cases h;exact c57 true xs n
noncomputable def Q2T (xs:List Int):Option (List Int) :=
 ass (xs.length≤1048576) <| some (xs)
theorem Q5A (xs:List Int) (r:List Int) (h:Q2T xs=some r):Contract Tryz.prog 80 [lI xs] (lI r):=by
 unfold Q2T at h;replace ⟨hx,h⟩:=Q0 h;cases h;exact c58 true xs hx
noncomputable def Q4v (xs:List Int):Option (List Int) :=
 ass (xs.length≤1048576) <| some (xs)
theorem Q8m (xs:List Int) (r:List Int) (h:Q4v xs=some r):Contract Tryz.prog 106 [lI xs] (lI r):=by
 unfold Q4v at h;replace ⟨hx,h⟩:=Q0 h;cases h;exact c47 true xs hx
noncomputable def QN (c:Cat):Option (Int) :=
 some (c.fr.length)
theorem Q2t (c:Cat) (r:Int) (h:QN c=some r):Contract Tryz.prog 85 [.rptr (c.cells true)] (iV r):=by
 unfold QN at h;cases h;have q:=c61 true c [];simp only [List.append_nil] at q;exact q
noncomputable def Q1M (c:Cat):Option (Cat) :=
 ass (c.ok) <| some (c)
theorem Q3i (c:Cat) (r:Cat) (h:Q1M c=some r):Contract Tryz.prog 53 [.agg (c.cells true)] (.agg (r.cells true)):=by
 unfold Q1M at h;replace ⟨hc,h⟩:=Q0 h;cases h;exact c41 true c hc
noncomputable def QP (c:Cat):Option (Cat) :=
 ass (c.ok) <| some (c)
theorem Q1o (c:Cat) (r:Cat) (h:QP c=some r):Contract Tryz.prog 97 [.rptr (c.cells true)] (.agg (r.cells true)):=by
 unfold QP at h;replace ⟨hc,h⟩:=Q0 h;cases h;have q:=c23 true c [] hc;simp only [List.append_nil] at q;exact q
noncomputable def QU (c:Cat) (f:Int) (g:Int):Option (Int) :=
 ass (0≤f) <| ass (f<c.cs.length) <| ass (0≤g) <| ass (g<(rx c.cs f).length) <| some ((ix (rx c.cs f) g))
theorem Q2c (c:Cat) (f:Int) (g:Int) (r:Int) (h:QU c f g=some r):Contract Tryz.prog 38 [.rptr (c.cells true),iV f,iV g] (iV r):=by
 unfold QU at h;replace ⟨h1,h⟩:=Q0 h;replace ⟨h2,h⟩:=Q0 h;replace ⟨h3,h⟩:=Q0 h;replace ⟨h4,h⟩:=Q0 h;cases h;have q:=c69 true c [] f g h1 h2 h3 h4;simp only [List.append_nil] at q;exact q
noncomputable def Q27 (c:Cat):Option (Bool) :=
 some ((bo c.Is))
theorem Q8q (c:Cat) (r:Bool) (h:Q27 c=some r):Contract Tryz.prog 51 [.agg (c.cells true)] (.val (.bool r)):=by
 unfold Q27 at h;cases h;exact c55 true c
noncomputable def Q17 (c:Cat):Option (Bool) :=
 some ((bo c.Is))
theorem Q4g (c:Cat) (r:Bool) (h:Q17 c=some r):Contract Tryz.prog 84 [.rptr (c.cells true)] (.val (.bool r)):=by
 unfold Q17 at h;cases h;have q:=c60 true c [];simp only [List.append_nil] at q;exact q
noncomputable def Q4d (xs:List Int) (ys:List Int):Option (Bool) :=
 some ((decide (xs=ys)))
theorem Q9g (xs:List Int) (ys:List Int) (r:Bool) (h:Q4d xs ys=some r):Contract Tryz.prog 98 [lI xs,lI ys] (.val (.bool r)):=by
 unfold Q4d at h;cases h;exact n54 true true xs ys
end
section
attribute [local simp] Ql Q11 QE Q1j QW
@[simp] theorem ass_true {α:Type} {k:Option α}:ass True k=k:=Q4 trivial
theorem bo_tt (p:Prop):(bo p=true)=p:=by simp [bo]
theorem Q2L {p:Prop} (h:p):bo p=true:=by simp [bo,h]
theorem Q1n {p:Prop} (h:¬ p):bo p=false:=by simp [bo,h]
theorem loop_go {σ ε:Type} {body:σ→Option (Ctl σ ε)} (g:Nat→σ) (m:Nat):∀ (k:Nat),m≤k→(∀ i,i<m→body (g i)=some (.next (g (i+1))))→Qy body k (g 0)=Qy body (k - m) (g m):=by
 induction m with
 | zero=>intro k _ _;rfl
 | succ m ih =>
  intro k hk h;rw [ih k (by omega) fun i hi=>h i (by omega)];obtain ⟨j,hj⟩:∃ j,k - m=j+1:=⟨k - m - 1,by omega⟩;rw [hj,show k - (m+1)=j by omega];simp only [Qy,h m (by omega)]
theorem Q4F {σ ε:Type} {body:σ→Option (Ctl σ ε)} (g:Nat→σ) (n:Nat) {e:ε} {s0:σ} (h0:s0=g 0) (hn:n<4611686018427387904) (h:∀ i,i<n→body (g i)=some (.next (g (i+1)))) (he:body (g n)=some (.ret e)):Qy body fuel s0=some e:=by
 subst h0;rw [loop_go g n fuel (by unfold fuel;omega) h];obtain ⟨j,hj⟩:∃ j,fuel - n=j+1:=⟨fuel - n - 1,by unfold fuel;omega⟩;rw [hj];simp only [Qy,he]
theorem loop_chk {ε:Type} {body:Int→Option (Ctl Int ε)} (n:Nat) (p:Nat→Prop) {eb eg:ε} (hn:n<4611686018427387904) (h1:∀ i:Nat,i<n→p i→body (i:Int)=some (.next ((i:Int)+1))) (h2:∀ i:Nat,i<n→¬ p i→body (i:Int)=some (.ret eb)) (h3:body (n:Int)=some (.ret eg)) :
  Qy body fuel 0=some (@ite _ (∀ i:Nat,i<n→p i) (Classical.propDecidable _) eg eb):=by
 by_cases hall:∀ i:Nat,i<n→p i
 ·rw [if_pos hall];exact Q4F (fun i:Nat=>(i:Int)) n rfl hn (fun i hi=>h1 i hi (hall i hi)) h3
 rw [if_neg hall];have hex:∃ i,i<n∧¬ p i:=Classical.byContradiction fun hx=>hall fun i hi=>Classical.byContradiction fun hp=>hx ⟨i,hi,hp⟩;obtain ⟨m,⟨hm,hp⟩,hmin⟩:∃ m,(m<n∧¬ p m)∧∀ k,k<m→¬ (k<n∧¬ p k):=by
  obtain ⟨i,hi⟩:=hex
  induction i using Nat.strongRecOn with
  | _ i ih =>
   by_cases h:∃ k,k<i∧k<n∧¬ p k
   ·obtain ⟨k,h1,h2⟩:=h;exact ih k h1 h2
   exact ⟨i,hi,fun k hk hh=>h ⟨k,hk,hh⟩⟩
 exact Q4F (fun i:Nat=>(i:Int)) m rfl (by omega) (fun i hi=>h1 i (by omega) (Classical.byContradiction fun hh=>hmin i hi ⟨by omega,hh⟩)) (h2 m hm hp)
theorem Q9I {ε:Type} {body:Int→Option (Ctl Int ε)} (n:Nat) (p:Nat→Prop) {eb:Nat→ε} {eg:ε} (hn:n<4611686018427387904) (h1:∀ i:Nat,i<n→p i→body (i:Int)=some (.next ((i:Int)+1))) (h2:∀ i:Nat,i<n→¬ p i→body (i:Int)=some (.ret (eb i))) (h3:body (n:Int)=some (.ret eg)) :
  ((∀ i:Nat,i<n→p i)∧Qy body fuel 0=some eg)∨∃ m,m<n∧¬ p m∧(∀ k,k<m→p k)∧Qy body fuel 0=some (eb m):=by
 by_cases hall:∀ i:Nat,i<n→p i
 ·exact .inl ⟨hall,Q4F (fun i:Nat=>(i:Int)) n rfl hn (fun i hi=>h1 i hi (hall i hi)) h3⟩
 right;have hex:∃ i,i<n∧¬ p i:=Classical.byContradiction fun hx=>hall fun i hi=>Classical.byContradiction fun hp=>hx ⟨i,hi,hp⟩;obtain ⟨m,⟨hm,hp⟩,hmin⟩:∃ m,(m<n∧¬ p m)∧∀ k,k<m→¬ (k<n∧¬ p k):=by
  obtain ⟨i,hi⟩:=hex
  induction i using Nat.strongRecOn with
  | _ i ih =>
   by_cases h:∃ k,k<i∧k<n∧¬ p k
   ·obtain ⟨k,h1,h2⟩:=h;exact ih k h1 h2
   exact ⟨i,hi,fun k hk hh=>h ⟨k,hk,hh⟩⟩
 have hlt:∀ k,k<m→p k:=fun k hk=>Classical.byContradiction fun hh=>hmin k hk ⟨by omega,hh⟩;exact ⟨m,hm,hp,hlt,Q4F (fun i:Nat=>(i:Int)) m rfl (by omega) (fun i hi=>h1 i (by omega) (hlt i hi)) (h2 m hm hp)⟩
theorem Q7l {α ε:Type} {body:α × Int→Option (Ctl (α × Int) ε)} (g:Nat→α) (n:Nat) {e:ε} {a0:α} (h0:a0=g 0) (hn:n<4611686018427387904) (h:∀ i:Nat,i<n→body (g i,(i:Int))=some (.next (g (i+1),(i:Int)+1))) (he:body (g n,(n:Int))=some (.ret e)):Qy body fuel (a0,0)=some e:=by
 subst h0;exact Q4F (fun i:Nat=>(g i,(i:Int))) n rfl hn h he
theorem all_inR {xs:List Int} {n:Int}:xs.all (inR n)=true↔∀ j:Nat,j<xs.length→0≤ix xs j∧ix xs j<n:=by
 rw [List.all_eq_true];constructor
 ·intro h j hj;have:=h _ (List.getElem_mem hj);rw [Q2q _ _ hj] at this;simp only [inR,Bool.and_eq_true,decide_eq_true_eq] at this;omega
 intro h x hx;obtain ⟨i,hi,rfl⟩:=List.getElem_of_mem hx;rw [Q2q _ _ hi];have:=h i hi;simp only [inR,Bool.and_eq_true,decide_eq_true_eq];omega
theorem Q2B {ε β:Type} {body:Int→Option (Ctl Int ε)} {K:ε→Option β} {r:β} (n:Nat) (p:Nat→Prop) {eb eg:ε} (hn:n<4611686018427387904) (h1:∀ i:Nat,i<n→p i→body (i:Int)=some (.next ((i:Int)+1))) (h2:∀ i:Nat,i<n→¬ p i→body (i:Int)=some (.ret eb)) (h3:body (n:Int)=some (.ret eg))
  (hb:(¬ ∀ i:Nat,i<n→p i)→K eb=some r) (hg:(∀ i:Nat,i<n→p i)→K eg=some r):(Qy body fuel 0).bind K=some r:=by
 rw [loop_chk n p hn h1 h2 h3]
 by_cases h:∀ i:Nat,i<n→p i
 ·rw [if_pos h];exact hg h
 rw [if_neg h];exact hb h
theorem QY {α ε β:Type} {body:α × Int→Option (Ctl (α × Int) ε)} {K:ε→Option β} {r:Option β} {a0:α} (n:Nat) (g:Nat→α) {e:ε} (h0:a0=g 0) (hn:n<4611686018427387904) (h:∀ i:Nat,i<n→body (g i,(i:Int))=some (.next (g (i+1),(i:Int)+1))) (he:body (g n,(n:Int))=some (.ret e)) (hk:K e=r):(Qy body fuel (a0,0)).bind K=r:=by
 rw [Q7l g n h0 hn h he];exact hk
end
attribute [local simp] unk unA unE unT unC flat eL eI Qr
noncomputable def Q2F (a_:List (List Int)) (b_:List (List Int)):Option Bool :=
 if ¬ ((a_.length:Int)=(b_.length:Int)) then
  some false
 else
  (Qy (σ:=Int) (ε:=Unit ⊕ Bool) (fun s9 =>
   if s9<(a_.length:Int) then
    ass (0≤s9∧s9<(a_.length:Int)) <|
    ass (0≤s9∧s9<(b_.length:Int)) <|
    (Q3D (rx a_ s9) (rx b_ s9)).bind fun v13 =>
    if ¬ (v13=true) then
     some (Ctl.ret (Sum.inr false))
    else
     ass (B64 (s9+1)) <|
     some (Ctl.next (s9+1))
   else
    some (Ctl.ret (Sum.inl ()))) fuel 0).bind fun e2 =>
  match e2 with
  | .inl b2 =>
   some true
  | .inr p2 =>
   some p2
theorem wkQ8 {F : Fx} {st st' : St} (m : List (Nat × Nat)) (h : (m.map Prod.fst).Nodup ∧ (m.map Prod.snd).Nodup ∧ (∀ id, id < F.pins → look id m = some id) ∧ (∀ p ∈ m, p.2 < st'.n) ∧ (∀ p ∈ st'.h, p.1 < st'.n) ∧ (∀ p ∈ st'.s, p.2 = rl m (st.get p.1) ∨ p.2 = .bot) ∧ ∀ p ∈ st'.h, hhOk m st.h p.1 p.2 := by simp [hP, hhOk, back, idQ, UA, U1, IA, I1, LA, L1, BA, B1, EA, E1, E2, eB, eI, eL, Cat.cells, Fn.cells]) : Wk F st st' := Wk.r1 m h
theorem wkI8 {F : Fx} {st st' : St} (m : Nat) (h : ((idQ m).map Prod.fst).Nodup ∧ ((idQ m).map Prod.snd).Nodup ∧ (∀ id, id < F.pins → look id (idQ m) = some id) ∧ (∀ p ∈ (idQ m), p.2 < st'.n) ∧ (∀ p ∈ st'.h, p.1 < st'.n) ∧ (∀ p ∈ st'.s, p.2 = rl (idQ m) (st.get p.1) ∨ p.2 = .bot) ∧ ∀ p ∈ st'.h, hhOk (idQ m) st.h p.1 p.2 := by simp [hP, hhOk, back, idQ, UA, U1, IA, I1, LA, L1, BA, B1, EA, E1, E2, eB, eI, eL, Cat.cells, Fn.cells]) : Wk F st st' := Wk.r1 (idQ m) h
@[simp] abbrev Y0F (a:List (List Int)) (b:List (Nat × AV)):List (Nat × AV):=(1,.lst true 1 (Ls a))::b
@[simp] abbrev Y16 (a:List (List Int)) (b:List (Nat × AV)):List (Nat × AV):=(0,.lst true 1 (Ls a))::b
theorem Q7B (a_:List (List Int)) (b_:List (List Int)) (r:Bool) (h:Q2F a_ b_=some r):Contract Tryz.prog 39 [.lst true 1 (Ls a_),.lst true 1 (Ls b_)] (.val (.bool r)):=by
 refine Qc (rvs:=[.tmp 4]) (rs:=[.val (.bool r)]) Tryz.func39 rfl rfl rfl rfl (by simp [Tryz.f39]) fun F hN hP=>?_;unfold Q2F at h;refine Q3 (runQ hN fun K hK=>?_);simp;repeat refine sdQ ?_
 refine hK _ ?_;clear hK K;refine tn (Q7 (st':=⟨Y16 a_ (Y0F b_ []),[],0⟩) (wkQ8 []) (Q3 (Q3 (runQ hN fun K hK=>?_))));simp;repeat refine sdQ ?_
 refine hK _ ?_;clear hK K;refine tn (Qd rfl (fun g=>?_) fun g=>?_)
 ·have g1:¬ ((a_.length:Int)=(b_.length:Int)):=gQ;clear g;replace h:=if_l g1 h;refine Q3 (runQ hN fun K hK=>?_);simp;repeat refine sdQ ?_
  refine hK _ (tn (Q7 (st':=⟨[(4,.val (.bool false))],[],0⟩) (wkQ8 []) (Qo (tr ?_))));clear hK K;have hr:=Option.some.inj h;rw [← hr];refine ⟨_,(.tmp .nil),?_⟩;refine ⟨(.one rfl rfl .nil),[.val (.bool false)],[],by simp [UA,U1,IA,I1,LA,L1,BA,B1,EA,E1,E2,eB,eI,eL],by simp,(UpL.refl _)⟩
 have g1:¬ (¬ ((a_.length:Int)=(b_.length:Int))):=gQ;clear g;replace h:=if_r g1 h;refine Qe (tn (Q3 (Q3 (runQ hN fun K hK=>?_))));simp;repeat refine sdQ ?_
 refine hK _ (tn (Q7 (st':=⟨Y16 a_ (Y0F b_ [(5,iV 0)]),[],0⟩) (wkQ8 []) ?_));clear hK K;replace ⟨e2,h,h2⟩:=bind_some h;refine Qg (fun b2:Unit=>⟨[],[],0⟩) (fun b2=>Sum.inl b2=e2) ?_ ?_
 ·refine Qa (Qn h (fun s9:Int=>⟨Y16 a_ (Y0F b_ [(5,iV s9)]),[],0⟩) (wkQ8 []) ?_);clear h;intro k9 s9 c9 h hk9;refine Q3 (Q3 (runQ hN fun K hK=>?_));simp;repeat refine sdQ ?_
  refine hK _ ?_;clear hK K;refine tn (Qd rfl (fun g=>?_) fun g=>?_)
  ·have g10:s9<(a_.length:Int):=gQ;clear g;replace h:=if_l g10 h;refine Qe (tn (Q3 (Qa (Q3 (runQ hN fun K hK=>?_)))));replace ⟨a11,h⟩:=Q0 h;replace ⟨a12,h⟩:=Q0 h;simp [at_L a11,at_L a12];(repeat with_reducible refine sdQ ?_);replace ⟨v13,hv13,h⟩:=bind_some h;refine Q6 (Q8p _ _ v13 hv13) (.cons .lst (.cons .lst .nil)) ?_;simp [at_L a11,at_L a12];(repeat refine sdQ ?_);refine hK _ ?_;clear hK K;refine tn (Q7 (st':=⟨Y16 a_ (Y0F b_ [(5,iV s9),(26,.val (.bool (!v13)))]),[],0⟩) (wkQ8 []) (Qd rfl (fun g=>?_) fun g=>?_))
   ·have g14:¬ (v13=true):=gQ;clear g;replace h:=if_l g14 h;refine Q3 (runQ hN fun K hK=>?_);simp;(repeat refine sdQ ?_);refine hK _ (tn (Q7 (st':=⟨[(4,.val (.bool false))],[],0⟩) (wkQ8 []) (Qo (br (tr (lr (br (tr ?_))))))));clear hK K;cases h;have q:_=e2:=hk9;have h:=h2;rw [← q] at h;clear q;(try dsimp only at h);have hr:=Option.some.inj h;rw [← hr];refine ⟨_,(.tmp .nil),?_⟩;refine ⟨(.one rfl rfl .nil),[.val (.bool false)],[],by simp [UA,U1,IA,I1,LA,L1,BA,B1,EA,E1,E2,eB,eI,eL],by simp,(UpL.refl _)⟩
   have g14:¬ (¬ (v13=true)):=gQ;clear g;replace h:=if_r g14 h;refine Qe (bn (tn (runQ hN fun K hK=>?_)));replace ⟨a15,h⟩:=Q0 h;simp [Qh a15];(repeat refine sdQ ?_);refine hK _ ?_;clear hK K;cases h;exact rn (s':=s9+1) hk9 (wkQ8 [])
  have g10:¬ (s9<(a_.length:Int)):=gQ;clear g;replace h:=if_r g10 h;refine Qm (tx (lx (bh ?_)));cases h;exact jn (b:=()) hk9 (wkQ8 [])
 intro b2 hb2;have h:=h2;try rw [← hb2] at h
 clear h2;try dsimp only at h
 refine Q3 (runQ hN fun K hK=>?_);simp;repeat refine sdQ ?_
 refine hK _ (tn (Q7 (st':=⟨[(4,.val (.bool true))],[],0⟩) (wkQ8 []) (Qo ?_)));clear hK K;have hr:=Option.some.inj h;rw [← hr];refine ⟨_,(.tmp .nil),?_⟩;refine ⟨(.one rfl rfl .nil),[.val (.bool true)],[],by simp [UA,U1,IA,I1,LA,L1,BA,B1,EA,E1,E2,eB,eI,eL],by simp,(UpL.refl _)⟩
attribute [local simp] unk unA unE unT unC flat eL eI Qr
noncomputable def Q2Z (a_:List (List (List Int))) (b_:List (List (List Int))):Option Bool :=
 if ¬ ((a_.length:Int)=(b_.length:Int)) then
  some false
 else
  (Qy (σ:=Int) (ε:=Unit ⊕ Bool) (fun s9 =>
   if s9<(a_.length:Int) then
    ass (0≤s9∧s9<(a_.length:Int)) <|
    ass (0≤s9∧s9<(b_.length:Int)) <|
    (Q2F (gx a_ s9) (gx b_ s9)).bind fun v13 =>
    if ¬ (v13=true) then
     some (Ctl.ret (Sum.inr false))
    else
     ass (B64 (s9+1)) <|
     some (Ctl.next (s9+1))
   else
    some (Ctl.ret (Sum.inl ()))) fuel 0).bind fun e2 =>
  match e2 with
  | .inl b2 =>
   some true
  | .inr p2 =>
   some p2
theorem Q6I (a_:List (List (List Int))) (b_:List (List (List Int))) (r:Bool) (h:Q2Z a_ b_=some r):Contract Tryz.prog 9 [.lst true 1 (Es eL a_),.lst true 1 (Es eL b_)] (.val (.bool r)):=by
 refine Qc (rvs:=[.tmp 4]) (rs:=[.val (.bool r)]) Tryz.func9 rfl rfl rfl rfl (by simp [Tryz.f9]) fun F hN hP=>?_;unfold Q2Z at h;refine Q3 (runQ hN fun K hK=>?_);simp;repeat refine sdQ ?_
 refine hK _ ?_;clear hK K;refine tn (Q7 (st':=⟨[(0,.lst true 1 (Es eL a_)),(1,.lst true 1 (Es eL b_))],[],0⟩) (wkQ8 []) (Q3 (Q3 (runQ hN fun K hK=>?_))));simp;repeat refine sdQ ?_
 refine hK _ ?_;clear hK K;refine tn (Qd rfl (fun g=>?_) fun g=>?_)
 ·have g1:¬ ((a_.length:Int)=(b_.length:Int)):=gQ;clear g;replace h:=if_l g1 h;refine Q3 (runQ hN fun K hK=>?_);simp;repeat refine sdQ ?_
  refine hK _ (tn (Q7 (st':=⟨[(4,.val (.bool false))],[],0⟩) (wkQ8 []) (Qo (tr ?_))));clear hK K;have hr:=Option.some.inj h;rw [← hr];refine ⟨_,(.tmp .nil),?_⟩;refine ⟨(.one rfl rfl .nil),[.val (.bool false)],[],by simp [UA,U1,IA,I1,LA,L1,BA,B1,EA,E1,E2,eB,eI,eL],by simp,(UpL.refl _)⟩
 have g1:¬ (¬ ((a_.length:Int)=(b_.length:Int))):=gQ;clear g;replace h:=if_r g1 h;refine Qe (tn (Q3 (Q3 (runQ hN fun K hK=>?_))));simp;repeat refine sdQ ?_
 refine hK _ (tn (Q7 (st':=⟨[(0,.lst true 1 (Es eL a_)),(1,.lst true 1 (Es eL b_)),(5,iV 0)],[],0⟩) (wkQ8 []) ?_));clear hK K;replace ⟨e2,h,h2⟩:=bind_some h;refine Qg (fun b2:Unit=>⟨[],[],0⟩) (fun b2=>Sum.inl b2=e2) ?_ ?_
 ·refine Qa (Qn h (fun s9:Int=>⟨[(0,.lst true 1 (Es eL a_)),(1,.lst true 1 (Es eL b_)),(5,iV s9)],[],0⟩) (wkQ8 []) ?_);clear h;intro k9 s9 c9 h hk9;refine Q3 (Q3 (runQ hN fun K hK=>?_));simp;repeat refine sdQ ?_
  refine hK _ ?_;clear hK K;refine tn (Qd rfl (fun g=>?_) fun g=>?_)
  ·have g10:s9<(a_.length:Int):=gQ;clear g;replace h:=if_l g10 h;refine Qe (tn (Q3 (Qa (Q3 (runQ hN fun K hK=>?_)))));replace ⟨a11,h⟩:=Q0 h;replace ⟨a12,h⟩:=Q0 h;simp [at_E (c:=eL) a11,at_E (c:=eL) a12];(repeat with_reducible refine sdQ ?_);replace ⟨v13,hv13,h⟩:=bind_some h;refine Q6 (Q7B _ _ v13 hv13) (.cons .lst (.cons .lst .nil)) ?_;simp [at_E (c:=eL) a11,at_E (c:=eL) a12];(repeat refine sdQ ?_);refine hK _ ?_;clear hK K;refine tn (Q7 (st':=⟨[(0,.lst true 1 (Es eL a_)),(1,.lst true 1 (Es eL b_)),(5,iV s9),(26,.val (.bool (!v13)))],[],0⟩) (wkQ8 []) (Qd rfl (fun g=>?_) fun g=>?_))
   ·have g14:¬ (v13=true):=gQ;clear g;replace h:=if_l g14 h;refine Q3 (runQ hN fun K hK=>?_);simp;(repeat refine sdQ ?_);refine hK _ (tn (Q7 (st':=⟨[(4,.val (.bool false))],[],0⟩) (wkQ8 []) (Qo (br (tr (lr (br (tr ?_))))))));clear hK K;cases h;have q:_=e2:=hk9;have h:=h2;rw [← q] at h;clear q;(try dsimp only at h);have hr:=Option.some.inj h;rw [← hr];refine ⟨_,(.tmp .nil),?_⟩;refine ⟨(.one rfl rfl .nil),[.val (.bool false)],[],by simp [UA,U1,IA,I1,LA,L1,BA,B1,EA,E1,E2,eB,eI,eL],by simp,(UpL.refl _)⟩
   have g14:¬ (¬ (v13=true)):=gQ;clear g;replace h:=if_r g14 h;refine Qe (bn (tn (runQ hN fun K hK=>?_)));replace ⟨a15,h⟩:=Q0 h;simp [Qh a15];(repeat refine sdQ ?_);refine hK _ ?_;clear hK K;cases h;exact rn (s':=s9+1) hk9 (wkQ8 [])
  have g10:¬ (s9<(a_.length:Int)):=gQ;clear g;replace h:=if_r g10 h;refine Qm (tx (lx (bh ?_)));cases h;exact jn (b:=()) hk9 (wkQ8 [])
 intro b2 hb2;have h:=h2;try rw [← hb2] at h
 clear h2;try dsimp only at h
 refine Q3 (runQ hN fun K hK=>?_);simp;repeat refine sdQ ?_
 refine hK _ (tn (Q7 (st':=⟨[(4,.val (.bool true))],[],0⟩) (wkQ8 []) (Qo ?_)));clear hK K;have hr:=Option.some.inj h;rw [← hr];refine ⟨_,(.tmp .nil),?_⟩;refine ⟨(.one rfl rfl .nil),[.val (.bool true)],[],by simp [UA,U1,IA,I1,LA,L1,BA,B1,EA,E1,E2,eB,eI,eL],by simp,(UpL.refl _)⟩
attribute [local simp] unk unA unE unT unC flat eL eI Qr
noncomputable def Q26 (a_:List (List Int)) (k_:Int):Option Int :=
 (Qy (σ:=Int × Int) (ε:=Int ⊕ Int) (fun s7 =>
  if s7.2<(a_.length:Int) then
   ass (0≤s7.2∧s7.2<(a_.length:Int)) <|
   (Q30 (rx a_ s7.2) s7.1).bind fun v10 =>
   if v10<0 then
    some (Ctl.ret (Sum.inr (-1)))
   else
    ass (B64 (s7.2+1)) <|
    some (Ctl.next (v10,s7.2+1))
  else
   some (Ctl.ret (Sum.inl s7.1))) fuel (k_,0)).bind fun e1 =>
 match e1 with
 | .inl b1 =>
  some b1
 | .inr p1 =>
  some p1
theorem Q6A (a_:List (List Int)) (k_:Int) (r:Int) (h:Q26 a_ k_=some r):Contract Tryz.prog 45 [.lst true 1 (Ls a_),iV k_] (iV r):=by
 refine Qc (rvs:=[.tmp 4]) (rs:=[iV r]) Tryz.func45 rfl rfl rfl rfl (by simp [Tryz.f45]) fun F hN hP=>?_;unfold Q26 at h;refine Q3 (runQ hN fun K hK=>?_);simp;repeat refine sdQ ?_
 refine hK _ ?_;clear hK K;refine tn (Q7 (st':=⟨Y16 a_ [(1,iV k_)],[],0⟩) (wkQ8 []) (Q3 (Q3 (runQ hN fun K hK=>?_))));simp;repeat refine sdQ ?_
 refine hK _ (tn (Q7 (st':=⟨Y16 a_ [(1,iV k_),(5,iV 0)],[],0⟩) (wkQ8 []) ?_));clear hK K;replace ⟨e1,h,h1⟩:=bind_some h;refine Qg (fun b1:Int=>⟨[(1,iV b1)],[],0⟩) (fun b1=>Sum.inl b1=e1) ?_ ?_
 ·refine Qa (Qn h (fun s7:Int × Int=>⟨Y16 a_ [(1,iV s7.1),(5,iV s7.2)],[],0⟩) (wkQ8 []) ?_);clear h;intro k7 s7 c7 h hk7;refine Q3 (Q3 (runQ hN fun K hK=>?_));simp;repeat refine sdQ ?_
  refine hK _ ?_;clear hK K;refine tn (Qd rfl (fun g=>?_) fun g=>?_)
  ·have g8:s7.2<(a_.length:Int):=gQ;clear g;replace h:=if_l g8 h;refine Qe (tn (Q3 (Qa (Q3 (runQ hN fun K hK=>?_)))));replace ⟨a9,h⟩:=Q0 h;simp [at_L a9];(repeat with_reducible refine sdQ ?_);replace ⟨v10,hv10,h⟩:=bind_some h;refine Q6 (Q6J _ _ v10 hv10) (.cons .lst (.cons .val .nil)) ?_;simp [at_L a9];(repeat refine sdQ ?_);refine hK _ ?_;clear hK K;refine tn (Q7 (st':=⟨Y16 a_ [(1,iV v10),(5,iV s7.2)],[],0⟩) (wkQ8 []) (Q3 (runQ hN fun K hK=>?_)));simp;(repeat refine sdQ ?_);refine hK _ ?_;clear hK K;refine tn (Qd rfl (fun g=>?_) fun g=>?_)
   ·have g11:v10<0:=gQ;clear g;replace h:=if_l g11 h;refine Q3 (runQ hN fun K hK=>?_);simp;(repeat refine sdQ ?_);refine hK _ (tn (Q7 (st':=⟨[(4,iV (-1))],[],0⟩) (wkQ8 []) (Qo (br (tr (lr (br (tr ?_))))))));clear hK K;cases h;have q:_=e1:=hk7;have h:=h1;rw [← q] at h;clear q;(try dsimp only at h);have hr:=Option.some.inj h;rw [← hr];refine ⟨_,(.tmp .nil),?_⟩;refine ⟨(.one rfl rfl .nil),[iV (-1)],[],by simp [UA,U1,IA,I1,LA,L1,BA,B1,EA,E1,E2,eB,eI,eL],by simp,(UpL.refl _)⟩
   have g11:¬ (v10<0):=gQ;clear g;replace h:=if_r g11 h;refine Qe (bn (tn (runQ hN fun K hK=>?_)));replace ⟨a12,h⟩:=Q0 h;simp [Qh a12];(repeat refine sdQ ?_);refine hK _ ?_;clear hK K;cases h;exact rn (s':=(v10,s7.2+1)) hk7 (wkQ8 [])
  have g8:¬ (s7.2<(a_.length:Int)):=gQ;clear g;replace h:=if_r g8 h;refine Qm (tx (lx (bh ?_)));cases h;exact jn (b:=s7.1) hk7 (wkQ8 [])
 intro b1 hb1;have h:=h1;try rw [← hb1] at h
 clear h1;try dsimp only at h
 refine Q3 (runQ hN fun K hK=>?_);simp;repeat refine sdQ ?_
 refine hK _ (tn (Q7 (st':=⟨[(4,iV b1)],[],0⟩) (wkQ8 []) (Qo ?_)));clear hK K;have hr:=Option.some.inj h;rw [← hr];refine ⟨_,(.tmp .nil),?_⟩;refine ⟨(.one rfl rfl .nil),[iV b1],[],by simp [UA,U1,IA,I1,LA,L1,BA,B1,EA,E1,E2,eB,eI,eL],by simp,(UpL.refl _)⟩
attribute [local simp] unk unA unE unT unC flat eL eI Qr
noncomputable def Q2n (a_:List (List (List Int))) (k_:Int):Option Int :=
 (Qy (σ:=Int × Int) (ε:=Int ⊕ Int) (fun s7 =>
  if s7.2<(a_.length:Int) then
   ass (0≤s7.2∧s7.2<(a_.length:Int)) <|
   (Q26 (gx a_ s7.2) s7.1).bind fun v10 =>
   if v10<0 then
    some (Ctl.ret (Sum.inr (-1)))
   else
    ass (B64 (s7.2+1)) <|
    some (Ctl.next (v10,s7.2+1))
  else
   some (Ctl.ret (Sum.inl s7.1))) fuel (k_,0)).bind fun e1 =>
 match e1 with
 | .inl b1 =>
  some b1
 | .inr p1 =>
  some p1
theorem Q5S (a_:List (List (List Int))) (k_:Int) (r:Int) (h:Q2n a_ k_=some r):Contract Tryz.prog 13 [.lst true 1 (Es eL a_),iV k_] (iV r):=by
 refine Qc (rvs:=[.tmp 4]) (rs:=[iV r]) Tryz.func13 rfl rfl rfl rfl (by simp [Tryz.f13]) fun F hN hP=>?_;unfold Q2n at h;refine Q3 (runQ hN fun K hK=>?_);simp;repeat refine sdQ ?_
 refine hK _ ?_;clear hK K;refine tn (Q7 (st':=⟨[(0,.lst true 1 (Es eL a_)),(1,iV k_)],[],0⟩) (wkQ8 []) (Q3 (Q3 (runQ hN fun K hK=>?_))));simp;repeat refine sdQ ?_
 refine hK _ (tn (Q7 (st':=⟨[(0,.lst true 1 (Es eL a_)),(1,iV k_),(5,iV 0)],[],0⟩) (wkQ8 []) ?_));clear hK K;replace ⟨e1,h,h1⟩:=bind_some h;refine Qg (fun b1:Int=>⟨[(1,iV b1)],[],0⟩) (fun b1=>Sum.inl b1=e1) ?_ ?_
 ·refine Qa (Qn h (fun s7:Int × Int=>⟨[(0,.lst true 1 (Es eL a_)),(1,iV s7.1),(5,iV s7.2)],[],0⟩) (wkQ8 []) ?_);clear h;intro k7 s7 c7 h hk7;refine Q3 (Q3 (runQ hN fun K hK=>?_));simp;repeat refine sdQ ?_
  refine hK _ ?_;clear hK K;refine tn (Qd rfl (fun g=>?_) fun g=>?_)
  ·have g8:s7.2<(a_.length:Int):=gQ;clear g;replace h:=if_l g8 h;refine Qe (tn (Q3 (Qa (Q3 (runQ hN fun K hK=>?_)))));replace ⟨a9,h⟩:=Q0 h;simp [at_E (c:=eL) a9];(repeat with_reducible refine sdQ ?_);replace ⟨v10,hv10,h⟩:=bind_some h;refine Q6 (Q6A _ _ v10 hv10) (.cons .lst (.cons .val .nil)) ?_;simp [at_E (c:=eL) a9];(repeat refine sdQ ?_);refine hK _ ?_;clear hK K;refine tn (Q7 (st':=⟨[(0,.lst true 1 (Es eL a_)),(1,iV v10),(5,iV s7.2)],[],0⟩) (wkQ8 []) (Q3 (runQ hN fun K hK=>?_)));simp;(repeat refine sdQ ?_);refine hK _ ?_;clear hK K;refine tn (Qd rfl (fun g=>?_) fun g=>?_)
   ·have g11:v10<0:=gQ;clear g;replace h:=if_l g11 h;refine Q3 (runQ hN fun K hK=>?_);simp;(repeat refine sdQ ?_);refine hK _ (tn (Q7 (st':=⟨[(4,iV (-1))],[],0⟩) (wkQ8 []) (Qo (br (tr (lr (br (tr ?_))))))));clear hK K;cases h;have q:_=e1:=hk7;have h:=h1;rw [← q] at h;clear q;(try dsimp only at h);have hr:=Option.some.inj h;rw [← hr];refine ⟨_,(.tmp .nil),?_⟩;refine ⟨(.one rfl rfl .nil),[iV (-1)],[],by simp [UA,U1,IA,I1,LA,L1,BA,B1,EA,E1,E2,eB,eI,eL],by simp,(UpL.refl _)⟩
   have g11:¬ (v10<0):=gQ;clear g;replace h:=if_r g11 h;refine Qe (bn (tn (runQ hN fun K hK=>?_)));replace ⟨a12,h⟩:=Q0 h;simp [Qh a12];(repeat refine sdQ ?_);refine hK _ ?_;clear hK K;cases h;exact rn (s':=(v10,s7.2+1)) hk7 (wkQ8 [])
  have g8:¬ (s7.2<(a_.length:Int)):=gQ;clear g;replace h:=if_r g8 h;refine Qm (tx (lx (bh ?_)));cases h;exact jn (b:=s7.1) hk7 (wkQ8 [])
 intro b1 hb1;have h:=h1;try rw [← hb1] at h
 clear h1;try dsimp only at h
 refine Q3 (runQ hN fun K hK=>?_);simp;repeat refine sdQ ?_
 refine hK _ (tn (Q7 (st':=⟨[(4,iV b1)],[],0⟩) (wkQ8 []) (Qo ?_)));clear hK K;have hr:=Option.some.inj h;rw [← hr];refine ⟨_,(.tmp .nil),?_⟩;refine ⟨(.one rfl rfl .nil),[iV b1],[],by simp [UA,U1,IA,I1,LA,L1,BA,B1,EA,E1,E2,eB,eI,eL],by simp,(UpL.refl _)⟩
section
attribute [local simp] Ql Q11 QE Q1j QW
def sumN (x:List (List (List Int))):Nat:=(x.map sumL).sum
def runn (k:Int):List (List (List Int))→List (List (List Int))
 | []=>[]
 | a :: r=>runs k a :: runn (k+sumL a) r
def okN (x:List (List (List Int))):Prop:=∀ a∈x,a.length≤1048576∧∀ b∈a,b.length≤1048576
@[simp] theorem runn_len (x:List (List (List Int))):∀ k,(runn k x).length=x.length:=by
 induction x with
 | nil=>intro k;rfl
 | cons c r ih=>intro k;simp [runn,ih]
theorem Q8j (x:List (List (List Int))):∀ (i:Nat) (h:i<x.length),sumN (x.take (i+1))=sumN (x.take i)+sumL x[i]:=by
 induction x with
 | nil=>intro i h;simp at h
 | cons c r ih =>
  intro i h;cases i with
  | zero=>simp [sumN]
  | succ i =>
   have:=ih i (by simpa using h);simp only [sumN,List.take_succ_cons,List.map_cons,List.sum_cons,List.getElem_cons_succ] at this ⊢;omega
theorem sumN_le (x:List (List (List Int))):∀ (i:Nat),sumN (x.take i)≤sumN x:=by
 induction x with
 | nil=>intro i;simp [sumN]
 | cons c r ih =>
  intro i;cases i with
  | zero=>simp [sumN]
  | succ i =>
   have:=ih i;simp only [sumN,List.take_succ_cons,List.map_cons,List.sum_cons] at this ⊢;omega
theorem Q9V (x:List (List (List Int))):∀ (k:Int) (i:Nat) (h:i<x.length),(runn k x)[i]'(by simpa using h)=runs (k+sumN (x.take i)) x[i]:=by
 induction x with
 | nil=>intro k i h;simp at h
 | cons c r ih =>
  intro k i h;cases i with
  | zero=>simp [runn,sumN]
  | succ i =>
   simp only [runn,List.getElem_cons_succ];rw [ih _ i (by simpa using h)];have e:k+(sumL c:Int)+(sumN (r.take i):Int)=k+(sumN ((c :: r).take (i+1)):Int):=by
    simp only [sumN,List.take_succ_cons,List.map_cons,List.sum_cons]
    push_cast
    omega
   rw [e]
theorem set_takeN {α:Type} {xs ys:List α} {i:Nat} (h1:i<xs.length) (h2:i<ys.length) (h:ys.take i=xs.take i):(ys.set i xs[i]).take (i+1)=xs.take (i+1):=by
 rw [List.take_succ_eq_append_getElem h1,List.take_succ_eq_append_getElem (by simpa using h2),List.take_set_of_le (Nat.le_refl _),h];simp
theorem Es_nget {ys:List (List (List Int))} {i:Nat} (h:i<ys.length):(Es eL ys).getD i []=[.lst true 1 (Ls ys[i])]:=by
 simp [Es,List.getD_eq_getElem?_getD,h,eL]
theorem Es_nset {ys:List (List (List Int))} {i:Nat} {a:List (List Int)}:(Es eL ys).set i [.lst true 1 (Ls a)]=Es eL (ys.set i a):=by
 simp [Es,List.map_set,eL]
theorem Q6l {α:Type} (xs:List α) (k:Nat) (v z:α) {i:Nat} (h:i=xs.length):(xs++List.replicate (k+1) z).set i v=(xs++[v])++List.replicate k z:=by
 subst h;simp [List.replicate_succ]
theorem Q5c {σ ε β:Type} {body:σ→Option (Ctl σ ε)} {K:ε→Option β} {r:Option β} {s0:σ} (n:Nat) (g:Nat→σ) {e:ε} (h0:s0=g 0) (hn:n<4611686018427387904) (h:∀ i:Nat,i<n→body (g i)=some (.next (g (i+1)))) (he:body (g n)=some (.ret e)) (hk:K e=r):(Qy body fuel s0).bind K=r:=by
 rw [Q4F g n h0 hn h he];exact hk
theorem nloop_rel {σ ε:Type} {body:σ→Option (Ctl σ ε)} {I:Nat→σ→Prop} {J:ε→Prop} {n:Nat} (hs:∀ i s,i<n→I i s→(∃ s',body s=some (.next s')∧I (i+1) s')∨∃ e,body s=some (.ret e)∧J e) (he:∀ s,I n s→∃ e,body s=some (.ret e)∧J e) :
  ∀ (r i:Nat) (s:σ) (F:Nat),i+r=n→r<F→I i s→∃ e,Qy body F s=some e∧J e:=by
 intro r
 induction r with
 | zero =>
  intro i s F hi hF hI;obtain ⟨e,h1,h2⟩:=he s (by rw [show n=i by omega];exact hI);obtain ⟨F',rfl⟩:∃ F',F=F' + 1:=⟨F - 1,by omega⟩;simp only [Qy,h1];exact ⟨e,rfl,h2⟩
 | succ r ih =>
  intro i s F hi hF hI;obtain ⟨F',rfl⟩:∃ F',F=F' + 1:=⟨F - 1,by omega⟩;rcases hs i s (by omega) hI with ⟨s',h1,h2⟩|⟨e,h1,h2⟩
  ·simp only [Qy,h1];exact ih (i+1) s' F' (by omega) (by omega) h2
  simp only [Qy,h1];exact ⟨e,rfl,h2⟩
theorem Q1x {σ ε β:Type} {body:σ→Option (Ctl σ ε)} {K:ε→Option β} {s0:σ} {Q:Option β→Prop} (n:Nat) (I:Nat→σ→Prop) (J:ε→Prop) (hn:n<4611686018427387904) (h0:I 0 s0) (hs:∀ i s,i<n→I i s→(∃ s',body s=some (.next s')∧I (i+1) s')∨∃ e,body s=some (.ret e)∧J e)
  (he:∀ s,I n s→∃ e,body s=some (.ret e)∧J e) (hk:∀ e,J e→Q (K e)):Q ((Qy body fuel s0).bind K):=by
 obtain ⟨e,h1,h2⟩:=nloop_rel hs he n 0 s0 fuel (by omega) (by unfold fuel;omega) h0;rw [h1];exact hk e h2
theorem markN (x:List (List (List Int))) (k:Int) (h1:x.length≤1048576) (h1':okN x) (h2:0≤k) (h3:k+sumN x≤1152921504606846976) :
  MContract Tryz.prog 12 [.own 0 0 x.length,iV k] [⟨1,Es eL x,Es eL (runn k x)⟩] (iV (k+sumN x)):=by
 refine Q25 (ts:=[4]) (rv:=.int .i64 (k+sumN x)) Tryz.func12 rfl rfl ?_ rfl (by simp [Tryz.f12]) ?_ fun F hN hP=>?_
 ·have:(-9223372036854775808≤k+sumN x)∧k+sumN x≤9223372036854775807:=by omega
  simp [resV,this]
 ·intro j hj;simp at hj;subst hj;simp
 refine srQ hN fun K hK=>?_;simp;refine hK _ ?_;clear hK K;refine Q3 (w_sr mo (by rw [hN];decide) fun K hK=>?_);simp;refine hK _ (Qa ?_);clear hK K;refine Q1E (fun p:Nat × List (List (List Int))=>⟨[(0,.own 0 0 x.length),(1,iV (k+sumN (x.take p.1))),(5,iV p.1)],[(0,.row 1 (Es eL p.2))],1⟩) (fun p=>p.1≤x.length∧p.2.length=x.length∧p.2.take p.1=(runn k x).take p.1∧p.2.drop p.1=x.drop p.1) (fun p=>x.length - p.1) (0,x) (by simp) (Wk.cut (by simp [sumN]) (by simp [Q5s]) rfl) ?_
 rintro ⟨i,ys⟩ ⟨hi,hy,ht,hd⟩
 simp at hi hy ht hd;refine Q3 (w_sr mo (by rw [hN];decide) fun K hK=>?_);simp;refine hK _ (Qd rfl (fun h=>?_) fun h=>?_)<;>clear hK K
 ·simp at h;have hiy:i<ys.length:=by omega
  have he:ys[i]=x[i]:=by
   have h5:=congrArg (fun l=>l[0]?) hd;simpa [h,hiy] using h5
  have hm:=h1' _ (List.getElem_mem h);refine Qe ?_;simp only [Q4L];have hget:(Es eL ys).getD i []=[.lst true 1 (Ls x[i])]:=by rw [Es_nget hiy,he]
  have hlen:(Es eL ys).length=x.length:=by simp [hy]
  generalize hE:Es eL ys=E at *;have hi2:i<E.length:=by omega
  have hgi:∀ q:i<E.length,E[i]'q=[.lst true 1 (Ls x[i])]:=fun q=>by
   rw [← hget];simp [List.getD_eq_getElem?_getD,hi2]
  refine Q3 (Qa (w_runM mo (by rw [hN];decide) fun K hK=>?_));simp [h,hlen,hgi];have hs1:=Q8j x i h;have hs2:=sumN_le x (i+1);refine Q52 (m:=[1]) (m33 x[i] (k+sumN (x.take i)) hm.1 hm.2 (by omega) (by omega)) (MCall.cell (i:=i) (r:=0) (k:=0) (szr:=1) (esr:=E) (dels:=[1]) rfl rfl hi2 (by simp) (by simp [hgi,hi2]) (by simp [hgi,hi2]) (by simp) (by simp [Q7W])) rfl ?_ ?_ ?_
  ·intro q hq
   match q,hq with
   | 0,_ =>
    show MArg [1] (.own 1 0 x[i].length) (.own 0 0 x[i].length);exact .own (j:=0) (by simp)
   | 1,_=>exact .val
  ·intro j hj;have hj0:j=0:=(by simpa using hj);subst hj0;exact ⟨0,by simp,by simp [Occ]⟩
  simp [hgi,hi2];refine hK _ ?_;clear hK K;refine runQ hN fun K hK=>?_;simp;refine hK _ ?_;clear hK K;rw [QJ (n:=x.length) (by omega) (by omega)];refine ⟨(i+1,ys.set i (runs (k+sumN (x.take i)) x[i])),⟨by dsimp only;omega,by simp [hy],?_,?_⟩,by dsimp only;omega,Wk.relabel [(0,0)] (by simp) (by simp) (by rw [hP];simp) (by simp) (by simp) ?_ ?_⟩
  ·have:=set_takeN (xs:=runn k x) (ys:=ys) (i:=i) (by simpa using h) hiy ht;rw [Q9V x k i h] at this;exact this
  ·dsimp only;rw [List.drop_set_of_lt (by omega)];have:=congrArg (List.drop 1) hd;simpa [List.drop_drop,Nat.add_comm] using this
  ·simp [hs1,rl,Int.add_assoc]
  have hfin:E.set i [.lst true 1 (Ls (runs (k+sumN (x.take i)) x[i]))]=Es eL (ys.set i (runs (k+sumN (x.take i)) x[i])):=by
   rw [← hE,Es_nset]
  simp [rlE,hgi,hi2,hfin]
 simp at h;refine Qm ?_;simp;refine srQ hN fun K hK=>?_;simp;refine hK _ (Qo ?_);clear hK K;have hi':i=x.length:=by omega
 subst hi';rw [List.take_of_length_le (by omega),List.take_of_length_le (by simp)] at ht;subst ht;refine ⟨?_,?_⟩
 ·simp [Q8V]
 intro j hj;simp at hj;subst hj;simp
theorem e_eqSS (x:List (List Int)) (h:x.length≤1048576):Q2F x x=some true:=by
 unfold Q2F Q3D;rw [if_neg (by simp)];refine Q2B x.length (fun _=>True) (eb:=Sum.inr false) (eg:=Sum.inl ()) (by omega) (fun i hi _=>?_) (fun i hi q=>absurd trivial q) (by rw [if_neg (by omega)]) (fun q=>absurd (fun _ _=>trivial) q) fun _=>rfl;rw [if_pos (by omega),Q4 (by omega),Q4 (by omega)];simp only [not_true_eq_false,if_false,Option.bind_some,decide_true];rw [Q4 (by unfold B64;omega)]
theorem e_eqN (x:List (List (List Int))) (h:x.length≤1048576) (h2:okN x):Q2Z x x=some true:=by
 unfold Q2Z;rw [if_neg (by simp)];refine Q2B x.length (fun _=>True) (eb:=Sum.inr false) (eg:=Sum.inl ()) (by omega) (fun i hi _=>?_) (fun i hi q=>absurd trivial q) (by rw [if_neg (by omega)]) (fun q=>absurd (fun _ _=>trivial) q) fun _=>rfl;have hg:gx x i=x[i]:=by simp [gx,List.getD_eq_getElem?_getD,hi]
 have hm:=h2 _ (List.getElem_mem hi);rw [if_pos (by omega),Q4 (by omega),Q4 (by omega),hg,e_eqSS _ hm.1];simp only [not_true_eq_false,if_false,Option.bind_some];rw [Q4 (by unfold B64;omega)]
theorem eqN (u v:Bool) (x:List (List (List Int))) (h:x.length≤1048576) (h2:okN x):Contract Tryz.prog 9 [.lst true 1 (Es eL x),.lst true 1 (Es eL x)] (.val (.bool true)):=Q6I x x true (e_eqN x h h2)
theorem e_heldSS (x:List (List Int)) (k:Int) (h1:x.length≤1048576) (h1':∀ c∈x,c.length≤1048576) (h2:0≤k) (h3:k+sumL x≤1152921504606846976):Q26 (runs k x) k=some (k+sumL x):=by
 unfold Q26;refine Q5c (σ:=Int × Int) x.length (fun i=>(k+sumL (x.take i),(i:Int))) (e:=Sum.inl (k+sumL x)) (by simp [sumL]) (by omega) (fun i hi=>?_) ?_ rfl
 ·have hs1:=Q8i x i hi;have hs2:=sumL_le x (i+1);have hcl:=h1' _ (List.getElem_mem hi);have hg:rx (runs k x) i=run (k+sumL (x.take i)) x[i].length:=by
   rw [← Q9W x k i hi];simp [rx,List.getD_eq_getElem?_getD,hi]
  unfold Q30;simp only [hg];rw [if_pos (by simp;omega),Q4 (by simp;omega),Q4 (by simp;omega),Q4 (by omega),Q4 (by omega)];simp only [Option.bind_some,held_run];rw [if_neg (by omega),Q4 (by unfold B64;omega)]
  congr 3
  rw [hs1];push_cast;omega
 simp only;rw [if_neg (by simp)];rw [List.take_length]
theorem e_heldN (x:List (List (List Int))) (k:Int) (h1:x.length≤1048576) (h1':okN x) (h2:0≤k) (h3:k+sumN x≤1152921504606846976):Q2n (runn k x) k=some (k+sumN x):=by
 unfold Q2n;refine Q5c (σ:=Int × Int) x.length (fun i=>(k+sumN (x.take i),(i:Int))) (e:=Sum.inl (k+sumN x)) (by simp [sumN]) (by omega) (fun i hi=>?_) ?_ rfl
 ·have hs1:=Q8j x i hi;have hs2:=sumN_le x (i+1);have hcl:=h1' _ (List.getElem_mem hi);have hg:gx (runn k x) i=runs (k+sumN (x.take i)) x[i]:=by
   rw [← Q9V x k i hi];simp [gx,List.getD_eq_getElem?_getD,hi]
  simp only [hg];rw [if_pos (by simp;omega),Q4 (by simp;omega),e_heldSS _ _ hcl.1 hcl.2 (by omega) (by omega)];simp only [Option.bind_some];rw [if_neg (by omega),Q4 (by unfold B64;omega)]
  congr 3
  rw [hs1];push_cast;omega
 simp only;rw [if_neg (by simp)];rw [List.take_length]
theorem heldN (u:Bool) (x:List (List (List Int))) (k:Int) (h1:x.length≤1048576) (h1':okN x) (h2:0≤k) (h3:k+sumN x≤1152921504606846976):Contract Tryz.prog 13 [.lst true 1 (Es eL (runn k x)),iV k] (iV (k+sumN x)):=Q5S _ _ _ (e_heldN x k h1 h1' h2 h3)
end
section
attribute [local simp] Ql Q11 QE Q1j QW
theorem toCat (u:Bool) (c:Cat) (hc:c.ok):Contract Tryz.prog 26 [.agg (c.cells u)] (.agg (c.cells true)):=c18 c u hc
theorem cszCat (u:Bool) (c:Cat) (l:Int) (h1:0≤l) (h2:l≤1048576):Contract Tryz.prog 16 [.agg (c.cells u),iV l] (iV (Q4e l c)):=c13 u c l h1 h2
theorem Q3w {l:Int} {f:Cat} (h:l≤1048576):Q4e l f≤1048576:=szCat_le h
theorem mu_len {ms:List Mu} (h:∀ u∈ms,u.fs.length=u.es.length):∀ j,j<ms.length→(ms.getD j .none).fs.length=(ms.getD j .none).es.length:=fun j hj=>by rw [List.getD_eq_getElem?_getD,List.getElem?_eq_getElem hj];exact h _ (List.getElem_mem hj)
theorem markCat (f:Cat) (k:Int) (hf:f.ok) (h2:0≤k) (h3:k+f.size≤576460752303423488):MContract Tryz.prog 42 [.agg [iV f.n,.own 0 0 f.fr.length,.own 1 0 f.to.length,.own 2 0 f.id.length,.own 3 0 f.cs.length],iV k] (f.mu k) (iV (k+f.size)):=by
 have q:=m31 f k hf h2 (by omega)
 rwa [show k+f.fr.length+f.to.length+f.id.length+sumL f.cs=k+f.size by simp [Cat.size,Int.add_assoc]] at q
def Fn.mu (f:Fn) (k:Int):List Mu:=[⟨1,Is f.s.fr,Is (f.mark k).s.fr⟩,⟨1,Is f.s.to,Is (f.mark k).s.to⟩,⟨1,Is f.s.id,Is (f.mark k).s.id⟩,⟨1,Ls f.s.cs,Ls (f.mark k).s.cs⟩,⟨1,Is f.t.fr,Is (f.mark k).t.fr⟩,⟨1,Is f.t.to,Is (f.mark k).t.to⟩,⟨1,Is f.t.id,Is (f.mark k).t.id⟩,⟨1,Ls f.t.cs,Ls (f.mark k).t.cs⟩,⟨1,Is f.ob,Is (f.mark k).ob⟩,⟨1,Is f.ar,Is (f.mark k).ar⟩]
theorem Fn.ok_size {f:Fn} (h:f.ok):f.size≤2199031644160:=by
 obtain ⟨hs,ht,hob,har⟩:=h;have s_s:=Cat.ok_size hs;have s_t:=Cat.ok_size ht;simp only [Fn.size];omega
theorem eqFn (u v:Bool) (f:Fn):Contract Tryz.prog 10 [.agg (f.cells u),.agg (f.cells v)] (.val (.bool true)):=by
 refine Qp (rs:=[.val (.bool true)]) Tryz.func10 rfl rfl rfl rfl (by simp [Tryz.f10]) fun F hN hP=>?_;refine srQ hN fun K hK=>?_;simp [Fn.cells];refine hK _ ?_;clear hK K;refine Q3 (srQ hN fun K hK=>?_);simp;refine Q6 (c26 u v f.s) (.cons (.aggL Cat.pur) (.cons (.aggL Cat.pur) .nil)) ?_;simp [unk,unA,unE,flat];refine hK _ (Qd rfl (fun h=>by simp at h) fun _=>?_);clear hK K;refine Qe (Q3 (srQ hN fun K hK=>?_));simp;refine Q6 (c26 u v f.t) (.cons (.aggL Cat.pur) (.cons (.aggL Cat.pur) .nil)) ?_;simp [unk,unA,unE,flat];refine hK _ (Qd rfl (fun h=>by simp at h) fun _=>?_);clear hK K;refine Qe (Q3 (srQ hN fun K hK=>?_));simp;refine Q6 (c29 u v f.ob f.ob) (.cons .lst (.cons .lst .nil)) ?_;simp [unk,unA,unE,flat];refine hK _ (Qd rfl (fun h=>by simp at h) fun _=>?_);clear hK K;refine Qe (Q3 (srQ hN fun K hK=>?_));simp;refine Q6 (c29 u v f.ar f.ar) (.cons .lst (.cons .lst .nil)) ?_;simp [unk,unA,unE,flat];refine hK _ (Qd rfl (fun h=>by simp at h) fun _=>?_);clear hK K;refine Qe (srQ hN fun K hK=>?_);simp;refine hK _ ?_;clear hK K;refine Qo (Qz rfl rfl)
theorem toFn (u:Bool) (f:Fn) (hf:f.ok):Contract Tryz.prog 7 [.agg (f.cells u)] (.agg (f.cells true)):=by
 obtain ⟨hs,ht,hob,har⟩:=hf;refine Q23 Tryz.func7 rfl rfl tf_34 rfl rfl (by simp [Tryz.f7]) fun F hN hP=>?_;refine srQ hN fun K hK=>?_;simp [Fn.cells];refine hK _ ?_;clear hK K;refine srQ hN fun K hK=>?_;simp;refine hK _ ?_;clear hK K;refine srQ hN fun K hK=>?_;simp;refine Q6 (toCat u f.s hs) (.cons (.aggL Cat.pur) .nil) ?_;simp [unk,unA,unE,flat,unC,Cat.cells];refine hK _ ?_;clear hK K;refine srQ hN fun K hK=>?_;simp;refine Q6 (toCat u f.t ht) (.cons (.aggL Cat.pur) .nil) ?_;simp [unk,unA,unE,flat,unC,Cat.cells];refine hK _ ?_;clear hK K;refine srQ hN fun K hK=>?_;simp;refine Q6 (c19 u f.ob hob) (.cons .lst .nil) ?_;simp [unk,unA,unE,flat];refine hK _ ?_;clear hK K;refine srQ hN fun K hK=>?_;simp;refine Q6 (c19 u f.ar har) (.cons .lst .nil) ?_;simp [unk,unA,unE,flat];refine hK _ ?_;clear hK K;refine srQ hN fun K hK=>?_;simp;refine hK _ (Qo ⟨_,_,_,_,_,rfl,rfl,by simp,by simp,?_⟩);clear hK K;exact ⟨.agg rfl .nil,[iV f.s.n,lI f.s.fr,lI f.s.to,lI f.s.id,.lst true 1 (Ls f.s.cs),iV f.t.n,lI f.t.fr,lI f.t.to,lI f.t.id,.lst true 1 (Ls f.t.cs),lI f.ob,lI f.ar],[4,5,6,7,9,10,11,12,13,14],by simp,by simp,UpL.refl _⟩
def szFn (l:Int) (f:Fn):Int:=nn (Q4e l f.s) fun a0=>nn (Q4e a0 f.t) fun a1=>nn (less a1 f.ob.length) fun a2=>nn (less a2 f.ar.length) fun a3=>a3
theorem szFn_ok {l:Int} {f:Fn} (hl:l≤1048576) (h:0≤szFn l f):f.ok:=by
 unfold szFn at h;obtain ⟨p0,q0,_⟩:=Q87 h;have b0:=Q3w (f:=f.s) hl;obtain ⟨p1,q1,_⟩:=Q87 q0;have b1:=Q3w (f:=f.t) b0;obtain ⟨p2,q2,_⟩:=Q87 q1;obtain ⟨e2,_⟩:=Q5q p2;have b2:=Q3I (n:=f.ob.length) b1;obtain ⟨p3,q3,_⟩:=Q87 q2;obtain ⟨e3,_⟩:=Q5q p3;have b3:=Q3I (n:=f.ar.length) b2;exact ⟨Q9Z hl p0,Q9Z b0 p1,by omega,by omega⟩
theorem cszFn (u:Bool) (f:Fn) (l:Int) (h1:0≤l) (h2:l≤1048576):Contract Tryz.prog 5 [.agg (f.cells u),iV l] (iV (szFn l f)):=by
 refine Qp (rs:=[iV (szFn l f)]) Tryz.func5 rfl rfl rfl rfl (by simp [Tryz.f5]) fun F hN hP=>?_;refine srQ hN fun K hK=>?_;simp [Fn.cells];refine hK _ ?_;clear hK K;refine srQ hN fun K hK=>?_;simp;refine Q6 (cszCat u f.s (l) h1 (h2)) (.cons (.aggL Cat.pur) (.cons .val .nil)) ?_;simp [unk,unA,unE,flat];refine hK _ ?_;clear hK K;refine Q3 (srQ hN fun K hK=>?_);simp;refine hK _ ?_;clear hK K;refine Qd rfl (fun g1=>?_) fun g1=>?_
 ·simp at g1;refine srQ hN fun K hK=>?_;simp;refine hK _ (Qo (Qz rfl ?_));clear hK K;simp only [szFn,nn];rw [if_pos g1]
 simp at g1;refine Qe (srQ hN fun K hK=>?_);simp;refine Q6 (cszCat u f.t (Q4e (l) f.s) g1 (Q3w (h2))) (.cons (.aggL Cat.pur) (.cons .val .nil)) ?_;simp [unk,unA,unE,flat];refine hK _ ?_;clear hK K;refine Q3 (srQ hN fun K hK=>?_);simp;refine hK _ ?_;clear hK K;refine Qd rfl (fun g2=>?_) fun g2=>?_
 ·simp at g2;refine srQ hN fun K hK=>?_;simp;refine hK _ (Qo (Qz rfl ?_));clear hK K;simp only [szFn,nn];rw [if_neg (Int.not_lt.2 g1),if_pos g2]
 simp at g2;refine Qe (srQ hN fun K hK=>?_);simp;refine Q6 (c14 u f.ob (Q4e (Q4e (l) f.s) f.t) g2 (Q3w (Q3w (h2)))) (.cons .lst (.cons .val .nil)) ?_;simp [unk,unA,unE,flat];refine hK _ ?_;clear hK K;refine Q3 (srQ hN fun K hK=>?_);simp;refine hK _ ?_;clear hK K;refine Qd rfl (fun g3=>?_) fun g3=>?_
 ·simp at g3;refine srQ hN fun K hK=>?_;simp;refine hK _ (Qo (Qz rfl ?_));clear hK K;simp only [szFn,nn];rw [if_neg (Int.not_lt.2 g1),if_neg (Int.not_lt.2 g2),if_pos g3]
 simp at g3;refine Qe (srQ hN fun K hK=>?_);simp;refine Q6 (c14 u f.ar (less (Q4e (Q4e (l) f.s) f.t) f.ob.length) g3 (Q3I (Q3w (Q3w (h2))))) (.cons .lst (.cons .val .nil)) ?_;simp [unk,unA,unE,flat];refine hK _ ?_;clear hK K;refine Q3 (srQ hN fun K hK=>?_);simp;refine hK _ ?_;clear hK K;refine Qd rfl (fun g4=>?_) fun g4=>?_
 ·simp at g4;refine srQ hN fun K hK=>?_;simp;refine hK _ (Qo (Qz rfl ?_));clear hK K;simp only [szFn,nn];rw [if_neg (Int.not_lt.2 g1),if_neg (Int.not_lt.2 g2),if_neg (Int.not_lt.2 g3),if_pos g4]
 simp at g4;refine Qe (srQ hN fun K hK=>?_);simp;refine hK _ (Qo (Qz rfl ?_));clear hK K;simp only [szFn,nn];rw [if_neg (Int.not_lt.2 g1),if_neg (Int.not_lt.2 g2),if_neg (Int.not_lt.2 g3),if_neg (Int.not_lt.2 g4)]
theorem markFn (f:Fn) (k:Int) (hf:f.ok) (h2:0≤k) (h3:k+f.size≤576460752303423488) :
  MContract Tryz.prog 11 [.agg [iV f.s.n,.own 0 0 f.s.fr.length,.own 1 0 f.s.to.length,.own 2 0 f.s.id.length,.own 3 0 f.s.cs.length,iV f.t.n,.own 4 0 f.t.fr.length,.own 5 0 f.t.to.length,.own 6 0 f.t.id.length,.own 7 0 f.t.cs.length,.own 8 0 f.ob.length,.own 9 0 f.ar.length],iV k] (f.mu k) (iV (k+f.size)):=by
 obtain ⟨hs,ht,hob,har⟩:=hf;have hz:f.size=f.s.size+f.t.size+f.ob.length+f.ar.length:=rfl;refine Q25 (ts:=[4]) (rv:=.int .i64 (k+f.size)) Tryz.func11 rfl rfl ?_ rfl (by simp [Tryz.f11]) ?_ fun F hN hP=>?_
 ·have:(-9223372036854775808≤k+f.size)∧k+f.size≤9223372036854775807:=by omega
  simp [resV,this]
 ·exact mu_len (by simp [Fn.mu,Fn.mark,Cat.mark])
 refine srQ hN fun K hK=>?_;simp [Q5s,Fn.mu];refine hK _ ?_;clear hK K;refine Q6N mo (by rw [hN];decide) fun K hK=>?_;simp;refine Q4R (m:=[0,1,2,3]) (markCat f.s (k) hs (by omega) (by omega)) (by decide) (.cons rfl (.cons rfl (.cons rfl (.cons rfl .nil)))) (.cons (.aggL (.cons .val (.cons (.own (j:=0) (by decide)) (.cons (.own (j:=1) (by decide)) (.cons (.own (j:=2) (by decide)) (.cons (.own (j:=3) (by decide)) .nil)))))) (.cons .val .nil)) rfl (by simp) ?_;simp [Q5Q,Cat.mu];refine hK _ ?_;clear hK K;refine Q6N mo (by rw [hN];decide) fun K hK=>?_;simp;refine Q4R (m:=[4,5,6,7]) (markCat f.t (k+f.s.size) ht (by omega) (by omega)) (by decide) (.cons rfl (.cons rfl (.cons rfl (.cons rfl .nil)))) (.cons (.aggL (.cons .val (.cons (.own (j:=0) (by decide)) (.cons (.own (j:=1) (by decide)) (.cons (.own (j:=2) (by decide)) (.cons (.own (j:=3) (by decide)) .nil)))))) (.cons .val .nil)) rfl (by simp) ?_;simp [Q5Q,Cat.mu];refine hK _ ?_;clear hK K;refine Q6N mo (by rw [hN];decide) fun K hK=>?_;simp;refine Q2O (m32 f.ob (k+f.s.size+f.t.size) hob (by omega) (by omega)) rfl (by simp) ?_;simp;refine hK _ ?_;clear hK K;refine Q6N mo (by rw [hN];decide) fun K hK=>?_;simp;refine Q2O (m32 f.ar (k+f.s.size+f.t.size+f.ob.length) har (by omega) (by omega)) rfl (by simp) ?_;simp;refine hK _ ?_;clear hK K;refine srQ hN fun K hK=>?_;simp;refine hK _ ?_;clear hK K;refine Qo (mret ?_ ?_)
 ·simp [hz,Int.add_assoc]
 exact (.cons rfl (.cons rfl (.cons rfl (.cons rfl (.cons rfl (.cons rfl (.cons rfl (.cons rfl (.cons rfl (.cons rfl .nil))))))))))
end
attribute [local simp] unk unA unE unT unC flat eL eI Qr Q16 Q3k Cat.cells Fn.cells
noncomputable def Q4w (f_:Fn):Option Bool :=
 (
  (Q27 f_.s).bind fun v2 =>
  if ¬ (v2=true) then
   some true
  else
   (Q27 f_.t).bind fun v4 =>
   if ¬ (v4=true) then
    some true
   else
    if ¬ ((f_.ob.length:Int)=f_.s.n) then
     some true
    else
     some ((f_.ar.length:Int) != (f_.s.fr.length:Int)):Option (Bool)).bind fun b1 =>
 if b1=true then
  some false
 else
  (
   (Q2S f_.t.n f_.ob).bind fun v9 =>
   if ¬ (v9=true) then
    some true
   else
    (Q2S (f_.t.fr.length:Int) f_.ar).bind fun v11 =>
    some (!v11):Option (Bool)).bind fun b8 =>
  if b8=true then
   some false
  else
   (Qy (σ:=Int) (ε:=Unit ⊕ Bool) (fun s27 =>
    if s27<(f_.s.fr.length:Int) then
     (
      ass (0≤s27∧s27<(f_.ar.length:Int)) <|
      ass (0≤ix f_.ar s27∧ix f_.ar s27<(f_.t.fr.length:Int)) <|
      ass (0≤s27∧s27<(f_.s.fr.length:Int)) <|
      ass (0≤ix f_.s.fr s27∧ix f_.s.fr s27<(f_.ob.length:Int)) <|
      if ¬ ((ix f_.t.fr (ix f_.ar s27))=(ix f_.ob (ix f_.s.fr s27))) then
       some true
      else
       ass (0≤s27∧s27<(f_.ar.length:Int)) <|
       ass (0≤ix f_.ar s27∧ix f_.ar s27<(f_.t.to.length:Int)) <|
       ass (0≤s27∧s27<(f_.s.to.length:Int)) <|
       ass (0≤ix f_.s.to s27∧ix f_.s.to s27<(f_.ob.length:Int)) <|
       some ((ix f_.t.to (ix f_.ar s27)) != (ix f_.ob (ix f_.s.to s27))):Option (Bool)).bind fun b29 =>
     if b29=true then
      some (Ctl.ret (Sum.inr false))
     else
      ass (B64 (s27+1)) <|
      some (Ctl.next (s27+1))
    else
     some (Ctl.ret (Sum.inl ()))) fuel 0).bind fun e13 =>
   match e13 with
   | .inl b13 =>
    (Qy (σ:=Int) (ε:=Unit ⊕ Bool) (fun s49 =>
     if s49<f_.s.n then
      ass (0≤s49∧s49<(f_.s.id.length:Int)) <|
      ass (0≤ix f_.s.id s49∧ix f_.s.id s49<(f_.ar.length:Int)) <|
      ass (0≤s49∧s49<(f_.ob.length:Int)) <|
      ass (0≤ix f_.ob s49∧ix f_.ob s49<(f_.t.id.length:Int)) <|
      if ¬ ((ix f_.ar (ix f_.s.id s49))=(ix f_.t.id (ix f_.ob s49))) then
       some (Ctl.ret (Sum.inr false))
      else
       ass (B64 (s49+1)) <|
       some (Ctl.next (s49+1))
     else
      some (Ctl.ret (Sum.inl ()))) fuel 0).bind fun e41 =>
    match e41 with
    | .inl b41 =>
     (Qy (σ:=Int) (ε:=Unit ⊕ Bool) (fun s90 =>
      if s90<(f_.s.fr.length:Int) then
       (
        (Qy (σ:=Int) (ε:=Bool ⊕ Unit) (fun s107 =>
         if s107<(f_.s.fr.length:Int) then
          (
           ass (0≤s90∧s90<(f_.s.to.length:Int)) <|
           ass (0≤s107∧s107<(f_.s.fr.length:Int)) <|
           if (ix f_.s.to s90)=(ix f_.s.fr s107) then
            ass (0≤s90∧s90<(f_.s.cs.length:Int)) <|
            ass (0≤s107∧s107<((rx f_.s.cs s90).length:Int)) <|
            ass (0≤ix (rx f_.s.cs s90) s107∧ix (rx f_.s.cs s90) s107<(f_.ar.length:Int)) <|
            ass (0≤s90∧s90<(f_.ar.length:Int)) <|
            ass (0≤ix f_.ar s90∧ix f_.ar s90<(f_.t.cs.length:Int)) <|
            ass (0≤s107∧s107<(f_.ar.length:Int)) <|
            ass (0≤ix f_.ar s107∧ix f_.ar s107<((rx f_.t.cs (ix f_.ar s90)).length:Int)) <|
            some ((ix f_.ar (ix (rx f_.s.cs s90) s107)) != (ix (rx f_.t.cs (ix f_.ar s90)) (ix f_.ar s107)))
           else
            some false:Option (Bool)).bind fun b109 =>
          if b109=true then
           some (Ctl.ret (Sum.inl false))
          else
           ass (B64 (s107+1)) <|
           some (Ctl.next (s107+1))
         else
          some (Ctl.ret (Sum.inr ()))) fuel 0).bind fun e107 =>
        match e107 with
        | .inl p107 =>
         some (Sum.inr p107)
        | .inr p107 =>
         some (Sum.inl p107):Option (Unit ⊕ Bool)).bind fun e92 =>
       match e92 with
       | .inl b92 =>
        ass (B64 (s90+1)) <|
        some (Ctl.next (s90+1))
       | .inr p92 =>
        some (Ctl.ret (Sum.inr p92))
      else
       some (Ctl.ret (Sum.inl ()))) fuel 0).bind fun e57 =>
     match e57 with
     | .inl b57 =>
      some true
     | .inr p57 =>
      some p57
    | .inr p41 =>
     some p41
   | .inr p13 =>
    some p13
@[simp] abbrev Yx (a:Fn) (b:List (Nat × Ent)):List (Nat × Ent):=(0,.mix 12 [(Fn.cells true a)])::(1,.mix 5 [(Cat.cells true a.s)])::(2,.mix 5 [(Cat.cells true a.t)])::b
@[simp] abbrev YS (a:List (Nat × AV)):List (Nat × AV):=(1,.adr 0 0 0)::(3,.adr 1 0 0)::(4,.adr 2 0 0)::a
@[simp] abbrev Y0Z (a:List (Nat × AV)):List (Nat × AV):=(2,.val (.bool false))::a
theorem w_s_l06Is (f_:Fn) (r:Bool) (h:Q4w f_=some r):Contract Tryz.prog 18 [.agg (f_.cells true)] (.val (.bool r)):=by
 refine Qc (rvs:=[.tmp 2]) (rs:=[.val (.bool r)]) Tryz.func18 rfl rfl rfl rfl (by simp [Tryz.f18]) fun F hN hP=>?_;unfold Q4w at h;refine Q3 (runQ hN fun K hK=>?_);simp;repeat refine sdQ ?_
 refine hK _ ?_;clear hK K;refine tn (Q7 (st':=⟨Y0J [],[(0,.mix 12 [(Fn.cells true f_)])],1⟩) (wkQ8 [(0,0)]) (Q3 (w_runS mo (by rw [hN];decide) fun K hK=>?_)));simp;repeat refine sdQ ?_
 refine hK _ (tn (Q7 (st':=⟨YS [],Yx f_ [],3⟩) (wkI8 3) (Q3 (Q3 ?_))));clear hK K;replace ⟨e1,h,h1⟩:=bind_some h;refine Qg (fun b1:Bool=>⟨YS [(37,.val (.bool b1))],Yx f_ [],3⟩) (fun b1=>b1=e1) ?_ ?_
 ·refine runQ hN fun K hK=>?_;simp;repeat with_reducible refine sdQ ?_
  replace ⟨v2,hv2,h⟩:=bind_some h;refine Q6 (Q8q _ v2 hv2) (.cons (.aggL (.cons .val (.cons .lst (.cons .lst (.cons .lst (.cons .lst .nil)))))) .nil) ?_;simp;repeat with_reducible refine sdQ ?_
  refine QZ (fun g=>?_) (fun g=>?_)
  ·have g3:¬ (¬ (v2=true)):=gQ;clear g;replace h:=if_r g3 h;simp;(repeat with_reducible refine sdQ ?_);replace ⟨v4,hv4,h⟩:=bind_some h;refine Q6 (Q8q _ v4 hv4) (.cons (.aggL (.cons .val (.cons .lst (.cons .lst (.cons .lst (.cons .lst .nil)))))) .nil) ?_;simp;(repeat with_reducible refine sdQ ?_);refine QZ (fun g=>?_) (fun g=>?_)
   ·have g5:¬ (¬ (v4=true)):=gQ;clear g;replace h:=if_r g5 h;simp;(repeat with_reducible refine sdQ ?_);refine QZ (fun g=>?_) (fun g=>?_)
    ·have g6:¬ (¬ ((f_.ob.length:Int)=f_.s.n)):=gQ;clear g;replace h:=if_r g6 h;simp;(repeat refine sdQ ?_);refine hK _ ?_;exact jn (b:=(f_.ar.length:Int) != (f_.s.fr.length:Int)) (Option.some.inj h) (wkI8 3)
    have g6:¬ ((f_.ob.length:Int)=f_.s.n):=gQ;clear g;replace h:=if_l g6 h;simp;(repeat refine sdQ ?_);refine hK _ ?_;exact jn (b:=true) (Option.some.inj h) (wkI8 3)
   have g5:¬ (v4=true):=gQ;clear g;replace h:=if_l g5 h;simp;(repeat refine sdQ ?_);refine hK _ ?_;exact jn (b:=true) (Option.some.inj h) (wkI8 3)
  have g3:¬ (v2=true):=gQ;clear g;replace h:=if_l g3 h;simp;repeat refine sdQ ?_
  refine hK _ ?_;exact jn (b:=true) (Option.some.inj h) (wkI8 3)
 intro b1 hb1;have h:=h1;try rw [← hb1] at h
 clear h1;try dsimp only at h
 refine Qd rfl (fun g=>?_) fun g=>?_
 ·have g7:b1=true:=gQ;clear g;replace h:=if_l g7 h;refine Q3 (runQ hN fun K hK=>?_);simp;repeat refine sdQ ?_
  refine hK _ (tn (Q7 (st':=⟨Y0Z [],[],0⟩) (wkQ8 []) (Qo (tr ?_))));clear hK K;have hr:=Option.some.inj h;rw [← hr];refine ⟨_,(.tmp .nil),?_⟩;refine ⟨(.one rfl rfl .nil),[.val (.bool false)],[],by simp [Cat.cells,Fn.cells,UA,U1,IA,I1,LA,L1,BA,B1,EA,E1,E2,eB,eI,eL],by simp,(UpL.refl _)⟩
 have g7:¬ (b1=true):=gQ;clear g;replace h:=if_r g7 h;refine Qe (tn (Q3 (Q3 ?_)));replace ⟨e8,h,h8⟩:=bind_some h;refine Qg (fun b8:Bool=>⟨YS [(52,.val (.bool b8))],Yx f_ [],3⟩) (fun b8=>b8=e8) ?_ ?_
 ·refine runQ hN fun K hK=>?_;simp;repeat with_reducible refine sdQ ?_
  replace ⟨v9,hv9,h⟩:=bind_some h;refine Q6 (Q7a _ _ v9 hv9) (.cons .val (.cons .lst .nil)) ?_;simp;repeat with_reducible refine sdQ ?_
  refine QZ (fun g=>?_) (fun g=>?_)
  ·have g10:¬ (¬ (v9=true)):=gQ;clear g;replace h:=if_r g10 h;simp;(repeat with_reducible refine sdQ ?_);replace ⟨v11,hv11,h⟩:=bind_some h;refine Q6 (Q7a _ _ v11 hv11) (.cons .val (.cons .lst .nil)) ?_;simp;(repeat refine sdQ ?_);refine hK _ ?_;exact jn (b:=!v11) (Option.some.inj h) (wkI8 3)
  have g10:¬ (v9=true):=gQ;clear g;replace h:=if_l g10 h;simp;repeat refine sdQ ?_
  refine hK _ ?_;exact jn (b:=true) (Option.some.inj h) (wkI8 3)
 intro b8 hb8;have h:=h8;try rw [← hb8] at h
 clear h8;try dsimp only at h
 refine Qd rfl (fun g=>?_) fun g=>?_
 ·have g12:b8=true:=gQ;clear g;replace h:=if_l g12 h;refine Q3 (runQ hN fun K hK=>?_);simp;repeat refine sdQ ?_
  refine hK _ (tn (Q7 (st':=⟨Y0Z [],[],0⟩) (wkQ8 []) (Qo (tr ?_))));clear hK K;have hr:=Option.some.inj h;rw [← hr];refine ⟨_,(.tmp .nil),?_⟩;refine ⟨(.one rfl rfl .nil),[.val (.bool false)],[],by simp [Cat.cells,Fn.cells,UA,U1,IA,I1,LA,L1,BA,B1,EA,E1,E2,eB,eI,eL],by simp,(UpL.refl _)⟩
 have g12:¬ (b8=true):=gQ;clear g;replace h:=if_r g12 h;refine Qe (tn (Q3 (Q3 (runQ hN fun K hK=>?_))));simp;repeat refine sdQ ?_
 refine hK _ (tn (Q7 (st':=⟨YS [(5,iV 0)],Yx f_ [],3⟩) (wkI8 3) ?_));clear hK K;replace ⟨e13,h,h13⟩:=bind_some h;refine Qg (fun b13:Unit=>⟨YS [],Yx f_ [],3⟩) (fun b13=>Sum.inl b13=e13) ?_ ?_
 ·refine Qa (Qn h (fun s27:Int=>⟨YS [(5,iV s27)],Yx f_ [],3⟩) (wkI8 3) ?_);clear h;intro k27 s27 c27 h hk27;refine Q3 (Q3 (runQ hN fun K hK=>?_));simp;repeat refine sdQ ?_
  refine hK _ ?_;clear hK K;refine tn (Qd rfl (fun g=>?_) fun g=>?_)
  ·have g28:s27<(f_.s.fr.length:Int):=gQ;clear g;replace h:=if_l g28 h;refine Qe (tn (Q3 (Qa (Q3 ?_))));replace ⟨e29,h,h29⟩:=bind_some h;refine Qg (fun b29:Bool=>⟨YS [(5,iV s27),(99,.val (.bool b29))],Yx f_ [],3⟩) (fun b29=>b29=e29) ?_ ?_
   ·refine runQ hN fun K hK=>?_;replace ⟨a30,h⟩:=Q0 h;replace ⟨a31,h⟩:=Q0 h;replace ⟨a32,h⟩:=Q0 h;replace ⟨a33,h⟩:=Q0 h;simp [at_I a30,at_I a31,at_I a32,at_I a33];(repeat with_reducible refine sdQ ?_);refine QZ (fun g=>?_) (fun g=>?_)
    ·have g34:¬ (¬ ((ix f_.t.fr (ix f_.ar s27))=(ix f_.ob (ix f_.s.fr s27)))):=gQ;clear g;replace h:=if_r g34 h;replace ⟨a35,h⟩:=Q0 h;replace ⟨a36,h⟩:=Q0 h;replace ⟨a37,h⟩:=Q0 h;replace ⟨a38,h⟩:=Q0 h;simp [at_I a30,at_I a31,at_I a32,at_I a33,at_I a35,at_I a36,at_I a37,at_I a38];(repeat refine sdQ ?_);refine hK _ ?_;exact jn (b:=(ix f_.t.to (ix f_.ar s27)) != (ix f_.ob (ix f_.s.to s27))) (Option.some.inj h) (wkI8 3)
    have g34:¬ ((ix f_.t.fr (ix f_.ar s27))=(ix f_.ob (ix f_.s.fr s27))):=gQ;clear g;replace h:=if_l g34 h;simp [at_I a30,at_I a31,at_I a32,at_I a33];(repeat refine sdQ ?_);refine hK _ ?_;exact jn (b:=true) (Option.some.inj h) (wkI8 3)
   intro b29 hb29;have h:=h29;(try rw [← hb29] at h);clear h29;(try dsimp only at h);refine Qd rfl (fun g=>?_) fun g=>?_
   ·have g39:b29=true:=gQ;clear g;replace h:=if_l g39 h;refine Q3 (runQ hN fun K hK=>?_);simp;(repeat refine sdQ ?_);refine hK _ (tn (Q7 (st':=⟨Y0Z [],[],0⟩) (wkQ8 []) (Qo (br (tr (lr (br (tr ?_))))))));clear hK K;cases h;have q:_=e13:=hk27;have h:=h13;rw [← q] at h;clear q;(try dsimp only at h);have hr:=Option.some.inj h;rw [← hr];refine ⟨_,(.tmp .nil),?_⟩;refine ⟨(.one rfl rfl .nil),[.val (.bool false)],[],by simp [Cat.cells,Fn.cells,UA,U1,IA,I1,LA,L1,BA,B1,EA,E1,E2,eB,eI,eL],by simp,(UpL.refl _)⟩
   have g39:¬ (b29=true):=gQ;clear g;replace h:=if_r g39 h;refine Qe (bn (tn (runQ hN fun K hK=>?_)));replace ⟨a40,h⟩:=Q0 h;simp [Qh a40];(repeat refine sdQ ?_);refine hK _ ?_;clear hK K;cases h;exact rn (s':=s27+1) hk27 (wkI8 3)
  have g28:¬ (s27<(f_.s.fr.length:Int)):=gQ;clear g;replace h:=if_r g28 h;refine Qm (tx (lx (bh ?_)));cases h;exact jn (b:=()) hk27 (wkI8 3)
 intro b13 hb13;have h:=h13;try rw [← hb13] at h
 clear h13;try dsimp only at h
 refine Q3 (Q3 (runQ hN fun K hK=>?_));simp;repeat refine sdQ ?_
 refine hK _ (tn (Q7 (st':=⟨YS [(6,iV 0)],Yx f_ [],3⟩) (wkI8 3) ?_));clear hK K;replace ⟨e41,h,h41⟩:=bind_some h;refine Qg (fun b41:Unit=>⟨YS [],Yx f_ [],3⟩) (fun b41=>Sum.inl b41=e41) ?_ ?_
 ·refine Qa (Qn h (fun s49:Int=>⟨YS [(6,iV s49)],Yx f_ [],3⟩) (wkI8 3) ?_);clear h;intro k49 s49 c49 h hk49;refine Q3 (Q3 (runQ hN fun K hK=>?_));simp;repeat refine sdQ ?_
  refine hK _ ?_;clear hK K;refine tn (Qd rfl (fun g=>?_) fun g=>?_)
  ·have g50:s49<f_.s.n:=gQ;clear g;replace h:=if_l g50 h;refine Qe (tn (Q3 (Qa (Q3 (runQ hN fun K hK=>?_)))));replace ⟨a51,h⟩:=Q0 h;replace ⟨a52,h⟩:=Q0 h;replace ⟨a53,h⟩:=Q0 h;replace ⟨a54,h⟩:=Q0 h;simp [at_I a51,at_I a52,at_I a53,at_I a54];(repeat refine sdQ ?_);refine hK _ ?_;clear hK K;refine tn (Qd rfl (fun g=>?_) fun g=>?_)
   ·have g55:¬ ((ix f_.ar (ix f_.s.id s49))=(ix f_.t.id (ix f_.ob s49))):=gQ;clear g;replace h:=if_l g55 h;refine Q3 (runQ hN fun K hK=>?_);simp;(repeat refine sdQ ?_);refine hK _ (tn (Q7 (st':=⟨Y0Z [],[],0⟩) (wkQ8 []) (Qo (br (tr (lr (br (tr ?_))))))));clear hK K;cases h;have q:_=e41:=hk49;have h:=h41;rw [← q] at h;clear q;(try dsimp only at h);have hr:=Option.some.inj h;rw [← hr];refine ⟨_,(.tmp .nil),?_⟩;refine ⟨(.one rfl rfl .nil),[.val (.bool false)],[],by simp [Cat.cells,Fn.cells,UA,U1,IA,I1,LA,L1,BA,B1,EA,E1,E2,eB,eI,eL],by simp,(UpL.refl _)⟩
   have g55:¬ (¬ ((ix f_.ar (ix f_.s.id s49))=(ix f_.t.id (ix f_.ob s49)))):=gQ;clear g;replace h:=if_r g55 h;refine Qe (bn (tn (runQ hN fun K hK=>?_)));replace ⟨a56,h⟩:=Q0 h;simp [Qh a56];(repeat refine sdQ ?_);refine hK _ ?_;clear hK K;cases h;exact rn (s':=s49+1) hk49 (wkI8 3)
  have g50:¬ (s49<f_.s.n):=gQ;clear g;replace h:=if_r g50 h;refine Qm (tx (lx (bh ?_)));cases h;exact jn (b:=()) hk49 (wkI8 3)
 intro b41 hb41;have h:=h41;try rw [← hb41] at h
 clear h41;try dsimp only at h
 refine Q3 (Q3 (runQ hN fun K hK=>?_));simp;repeat refine sdQ ?_
 refine hK _ (tn (Q7 (st':=⟨YS [(7,iV 0)],Yx f_ [],3⟩) (wkI8 3) ?_));clear hK K;replace ⟨e57,h,h57⟩:=bind_some h;refine Qg (fun b57:Unit=>⟨[],[],0⟩) (fun b57=>Sum.inl b57=e57) ?_ ?_
 ·refine Qa (Qn h (fun s90:Int=>⟨YS [(7,iV s90)],Yx f_ [],3⟩) (wkI8 3) ?_);clear h;intro k90 s90 c90 h hk90;refine Q3 (Q3 (runQ hN fun K hK=>?_));simp;repeat refine sdQ ?_
  refine hK _ ?_;clear hK K;refine tn (Qd rfl (fun g=>?_) fun g=>?_)
  ·have g91:s90<(f_.s.fr.length:Int):=gQ;clear g;replace h:=if_l g91 h;refine Qe (tn (Q3 ?_));replace ⟨e92,h,h92⟩:=bind_some h;refine Qg (fun b92:Unit=>⟨YS [(7,iV s90)],Yx f_ [],3⟩) (fun b92=>Sum.inl b92=e92) ?_ ?_
   ·refine Qa (Q3 (runQ hN fun K hK=>?_));simp;(repeat refine sdQ ?_);refine hK _ (tn (Q7 (st':=⟨YS [(7,iV s90),(8,iV 0)],Yx f_ [],3⟩) (wkI8 3) (Qa ?_)));clear hK K;replace ⟨e107,he107,h107⟩:=bind_some h;refine Qn he107 (fun s107:Int=>⟨YS [(7,iV s90),(8,iV s107)],Yx f_ [],3⟩) (wkI8 3) ?_;intro k107 s107 c107 h hk107;refine Q3 (Q3 (runQ hN fun K hK=>?_));simp;(repeat refine sdQ ?_);refine hK _ ?_;clear hK K;refine tn (Qd rfl (fun g=>?_) fun g=>?_)
    ·have g108:s107<(f_.s.fr.length:Int):=gQ;clear g;replace h:=if_l g108 h;refine Qe (tn (Q3 (Qa (Q3 ?_))));replace ⟨e109,h,h109⟩:=bind_some h;refine Qg (fun b109:Bool=>⟨YS [(7,iV s90),(8,iV s107),(180,.val (.bool b109))],Yx f_ [],3⟩) (fun b109=>b109=e109) ?_ ?_
     ·refine runQ hN fun K hK=>?_;replace ⟨a110,h⟩:=Q0 h;replace ⟨a111,h⟩:=Q0 h;simp [at_I a110,at_I a111];(repeat with_reducible refine sdQ ?_);refine QZ (fun g=>?_) (fun g=>?_)
      ·have g112:(ix f_.s.to s90)=(ix f_.s.fr s107):=gQ;clear g;replace h:=if_l g112 h;replace ⟨a113,h⟩:=Q0 h;replace ⟨a114,h⟩:=Q0 h;replace ⟨a115,h⟩:=Q0 h;replace ⟨a116,h⟩:=Q0 h;replace ⟨a117,h⟩:=Q0 h;replace ⟨a118,h⟩:=Q0 h;replace ⟨a119,h⟩:=Q0 h;simp [at_I a110,at_I a111,at_L a113,at_I a114,at_I a115,at_I a116,at_L a117,at_I a118,at_I a119];(repeat refine sdQ ?_);refine hK _ ?_;exact jn (b:=(ix f_.ar (ix (rx f_.s.cs s90) s107)) != (ix (rx f_.t.cs (ix f_.ar s90)) (ix f_.ar s107))) (Option.some.inj h) (wkI8 3)
      have g112:¬ ((ix f_.s.to s90)=(ix f_.s.fr s107)):=gQ;clear g;replace h:=if_r g112 h;simp [at_I a110,at_I a111];(repeat refine sdQ ?_);refine hK _ ?_;exact jn (b:=false) (Option.some.inj h) (wkI8 3)
     intro b109 hb109;have h:=h109;(try rw [← hb109] at h);clear h109;(try dsimp only at h);refine Qd rfl (fun g=>?_) fun g=>?_
     ·have g120:b109=true:=gQ;clear g;replace h:=if_l g120 h;refine Q3 (runQ hN fun K hK=>?_);simp;(repeat refine sdQ ?_);refine hK _ (tn (Q7 (st':=⟨Y0Z [],[],0⟩) (wkQ8 []) (Qo (br (tr (lr (br (br (tr (lr (br (tr ?_))))))))))));clear hK K;cases h;have q:_=e107:=hk107;have h:=h107;rw [← q] at h;clear q;(try dsimp only at h);cases h;have h:=h92;(try dsimp only at h);cases h;have q:_=e57:=hk90;have h:=h57;rw [← q] at h;clear q;(try dsimp only at h);have hr:=Option.some.inj h;rw [← hr];refine ⟨_,(.tmp .nil),?_⟩;refine ⟨(.one rfl rfl .nil),[.val (.bool false)],[],by simp [Cat.cells,Fn.cells,UA,U1,IA,I1,LA,L1,BA,B1,EA,E1,E2,eB,eI,eL],by simp,(UpL.refl _)⟩
     have g120:¬ (b109=true):=gQ;clear g;replace h:=if_r g120 h;refine Qe (bn (tn (runQ hN fun K hK=>?_)));replace ⟨a121,h⟩:=Q0 h;simp [Qh a121];(repeat refine sdQ ?_);refine hK _ ?_;clear hK K;cases h;exact rn (s':=s107+1) hk107 (wkI8 3)
    have g108:¬ (s107<(f_.s.fr.length:Int)):=gQ;clear g;replace h:=if_r g108 h;refine Qm (tx (lx (bh (bn ?_))));cases h;have q:_=e107:=hk107;have h:=h107;rw [← q] at h;clear q;(try dsimp only at h);exact jn (b:=()) (Option.some.inj h) (wkI8 3)
   intro b92 hb92;have h:=h92;(try rw [← hb92] at h);clear h92;(try dsimp only at h);refine runQ hN fun K hK=>?_;replace ⟨a122,h⟩:=Q0 h;simp [Qh a122];(repeat refine sdQ ?_);refine hK _ ?_;clear hK K;cases h;exact rn (s':=s90+1) hk90 (wkI8 3)
  have g91:¬ (s90<(f_.s.fr.length:Int)):=gQ;clear g;replace h:=if_r g91 h;refine Qm (tx (lx (bh ?_)));cases h;exact jn (b:=()) hk90 (wkQ8 [])
 intro b57 hb57;have h:=h57;try rw [← hb57] at h
 clear h57;try dsimp only at h
 refine Q3 (runQ hN fun K hK=>?_);simp;repeat refine sdQ ?_
 refine hK _ (tn (Q7 (st':=⟨[(2,.val (.bool true))],[],0⟩) (wkQ8 []) (Qo ?_)));clear hK K;have hr:=Option.some.inj h;rw [← hr];refine ⟨_,(.tmp .nil),?_⟩;refine ⟨(.one rfl rfl .nil),[.val (.bool true)],[],by simp [Cat.cells,Fn.cells,UA,U1,IA,I1,LA,L1,BA,B1,EA,E1,E2,eB,eI,eL],by simp,(UpL.refl _)⟩
section
attribute [local simp] Ql Q11 QE Q1j QW
structure Fn.Is (f:Fn):Prop where
 s:f.s.Is
 t:f.t.Is
 lo:(f.ob.length:Int)=f.s.n
 la:f.ar.length=f.s.fr.length
 ob:∀ j:Nat,j<f.ob.length→0≤ix f.ob j∧ix f.ob j<f.t.n
 ar:∀ j:Nat,j<f.ar.length→0≤ix f.ar j∧ix f.ar j<f.t.fr.length
 ends:∀ a:Nat,a<f.s.fr.length→ix f.t.fr (ix f.ar a)=ix f.ob (ix f.s.fr a)∧ix f.t.to (ix f.ar a)=ix f.ob (ix f.s.to a)
 ids:∀ x:Nat,x<f.s.id.length→ix f.ar (ix f.s.id x)=ix f.t.id (ix f.ob x)
 comp:∀ a:Nat,a<f.s.fr.length→∀ b:Nat,b<f.s.fr.length→ix f.s.to a=ix f.s.fr b→ix f.ar (ix (rx f.s.cs a) b)=ix (rx f.t.cs (ix f.ar a)) (ix f.ar b)
theorem Cat.Sh.frn {c:Cat} (h:c.Sh) {a:Nat} (ha:a<c.fr.length):(0≤ix c.fr a∧ix c.fr a<c.id.length)∧(0≤ix c.to a∧ix c.to a<c.id.length):=⟨h.fr' (by omega) (by omega),h.to' (by omega) (by omega)⟩
theorem Cat.Sh.idn {c:Cat} (h:c.Sh) {a:Nat} (ha:a<c.id.length):0≤ix c.id a∧ix c.id a<c.fr.length:=h.id' (by omega) (by omega)
theorem Cat.Sh.cmp {c:Cat} (h:c.Sh) {f g:Int} (h0:0≤f) (h1:f<c.fr.length) (h2:0≤g) (h3:g<c.fr.length) (e:ix c.to f=ix c.fr g):0≤ix (rx c.cs f) g∧ix (rx c.cs f) g<c.fr.length:=by
 have:=(h.cell' h0 h1 h2 h3).2 e;omega
theorem e_l06Is (f:Fn):Q4w f=some (bo f.Is):=by
 unfold Q4w
 by_cases h1:f.s.Is
 case neg=>rw [Q1n (show ¬ f.Is from fun q=>h1 q.s)];simp [Q27,bo,h1]
 by_cases h2:f.t.Is
 case neg=>rw [Q1n (show ¬ f.Is from fun q=>h2 q.t)];simp [Q27,bo,h1,h2]
 by_cases h3:(f.ob.length:Int)=f.s.n
 case neg=>rw [Q1n (show ¬ f.Is from fun q=>h3 q.lo)];simp [Q27,bo,h1,h2,h3]
 by_cases h4:(f.ar.length:Int)=f.s.fr.length
 case neg=>rw [Q1n (show ¬ f.Is from fun q=>h4 (by rw [q.la]))];simp [Q27,bo,h1,h2,h3,h4]
 by_cases h5:f.ob.all (inR f.t.n)=true
 case neg=>rw [Q1n (show ¬ f.Is from fun q=>h5 (all_inR.2 q.ob))];simp [Q27,Q2S,bo,h1,h2,h3,h4,h5]
 by_cases h6:f.ar.all (inR f.t.fr.length)=true
 case neg=>rw [Q1n (show ¬ f.Is from fun q=>h6 (all_inR.2 q.ar))];simp [Q27,Q2S,bo,h1,h2,h3,h4,h5,h6]
 have ho:=all_inR.1 h5;have ha:=all_inR.1 h6;have hs:=h1.1;have ht:=h2.1;simp only [Q27,Q2S,Q2L h1,Q2L h2,h3,h4,h5,h6,Option.bind_some,if_true,if_false,not_true_eq_false,bne_self_eq_false,Bool.not_true,Bool.false_eq_true];refine Q2B f.s.fr.length (fun a:Nat=>ix f.t.fr (ix f.ar a)=ix f.ob (ix f.s.fr a)∧ix f.t.to (ix f.ar a)=ix f.ob (ix f.s.to a)) (eb:=Sum.inr false) (eg:=Sum.inl ()) (by have:=hs.m40;omega) (fun a hi hp=>?_) (fun a hi hp=>?_) ?_ (fun hx=>?_) fun q1=>?_
 ·have:=hs.frn hi;have:=ha a (by omega);have:=hs.lt;have:=ht.lt;have:=hs.li;have:=hs.m40;simp (disch:=omega) only [Q4,if_pos,B64,hp.1,hp.2,Option.bind_some,not_true_eq_false,if_false,bne_self_eq_false,Bool.false_eq_true]
 ·have:=hs.frn hi;have:=ha a (by omega);have:=hs.lt;have:=ht.lt;have:=hs.li;have:=hs.m40
  by_cases hp1:ix f.t.fr (ix f.ar a)=ix f.ob (ix f.s.fr a)
  ·have hp2:¬ ix f.t.to (ix f.ar a)=ix f.ob (ix f.s.to a):=fun h=>hp ⟨hp1,h⟩;simp (disch:=omega) [Q4,B64,hp1,hp2,hi]
  simp (disch:=omega) [Q4,B64,hp1,hi]
 ·simp
 ·rw [Q1n (show ¬ f.Is from fun q=>hx q.ends)]
 simp only;refine Q2B f.s.id.length (fun x:Nat=>ix f.ar (ix f.s.id x)=ix f.t.id (ix f.ob x)) (eb:=Sum.inr false) (eg:=Sum.inl ()) (by have:=hs.n8;have:=hs.li;omega) (fun a hi hp=>?_) (fun a hi hp=>?_) ?_ (fun hx=>?_) fun q2=>?_
 ·have:=hs.idn hi;have:=ho a (by have:=hs.li;omega);have:=hs.li;have:=ht.li;have:=hs.n8;simp (disch:=omega) [Q4,B64,hp];omega
 ·have:=hs.idn hi;have:=ho a (by have:=hs.li;omega);have:=hs.li;have:=ht.li;have:=hs.n8;simp (disch:=omega) [Q4,B64,hp];omega
 ·simp [hs.li]
 ·rw [Q1n (show ¬ f.Is from fun q=>hx q.ids)]
 simp only;refine Q2B f.s.fr.length (fun a:Nat=>∀ b:Nat,b<f.s.fr.length→ix f.s.to a=ix f.s.fr b→ix f.ar (ix (rx f.s.cs a) b)=ix (rx f.t.cs (ix f.ar a)) (ix f.ar b)) (eb:=Sum.inr false) (eg:=Sum.inl ()) (by have:=hs.m40;omega) (fun a hi hp=>?_) (fun a hi hp=>?_) ?_ (fun hx=>?_) fun q3=>?_;rotate_left 2
 ·simp
 ·rw [Q1n (show ¬ f.Is from fun q=>hx q.comp)]
 ·rw [Q2L (show f.Is from ⟨h1,h2,h3,by omega,ho,ha,q1,q2,q3⟩)]
 all_goals
  have m40:=hs.m40;have h7:=hs.lt;have h8:=ha a (by omega);have h9:=hs.lc;have h10:=ht.lc;have h11:=hs.row' (j:=a) (by omega) (by omega);have h12:=ht.row' (j:=ix f.ar a) (by omega) (by omega);rw [if_pos (by omega)]
 all_goals
  rw [Option.bind_assoc];refine Q2B f.s.fr.length (fun b:Nat=>ix f.s.to a=ix f.s.fr b→ix f.ar (ix (rx f.s.cs a) b)=ix (rx f.t.cs (ix f.ar a)) (ix f.ar b)) (eb:=Sum.inl false) (eg:=Sum.inr ()) (by omega) (fun b hb hq=>?_) (fun b hb hq=>?_) ?_ (fun hn=>?_) fun hn=>?_
 all_goals first
  | exact absurd hp hn
  | exact absurd hn hp
  | (simp (disch:=omega) [Q4,B64];done)
  | skip
 all_goals
  have h13:=ha b (by omega)
  by_cases h14:ix f.s.to a=ix f.s.fr b
  ·have h15:=hs.cmp (f:=a) (g:=b) (by omega) (by omega) (by omega) (by omega) h14;first
    | (have hq1:=hq h14;simp (disch:=omega) [Q4,B64,h14,hq1,hb])
    | (have hq1:=fun e=>hq (fun _=>e);simp (disch:=omega) [Q4,B64,h14,hq1,hb];exact hq1)
  first
   | (simp (disch:=omega) [Q4,B64,h14,hb];done)
   | exact absurd (fun e=>absurd e h14) hq
end
attribute [local simp] unk unA unE unT unC flat eL eI Qr Q16 Q3k Cat.cells Fn.cells
noncomputable def Q3r (c_:Cat) (d_:Cat) (objects_:List Int) (arrows_:List Int):Option Fn :=
 (QP c_).bind fun v1 =>
 (QP d_).bind fun v2 =>
 (Q4v objects_).bind fun v3 =>
 (Q4v arrows_).bind fun v4 =>
 some (⟨v1,v2,v3,v4⟩:Fn)
@[simp] abbrev YD (a b:Cat) (c:List (Nat × AV)):List (Nat × AV):=(0,.rptr (Cat.cells true a))::(1,.rptr (Cat.cells true b))::c
@[simp] abbrev Y1k (a:Cat) (b:List (AV)):List (AV):=iV a.n::.own 5 0 a.fr.length::.own 6 0 a.to.length::.own 7 0 a.id.length::.own 8 0 a.cs.length::b
@[simp] abbrev Y1u (a:Cat) (b:List (AV)):List (AV):=iV a.n::.own 1 0 a.fr.length::.own 2 0 a.to.length::.own 3 0 a.id.length::.own 4 0 a.cs.length::b
@[simp] abbrev Y0h (a b:Cat) (c d:List Int) (e:List (Nat × Ent)):List (Nat × Ent):=(0,.mix 12 [(Y1u a (Y1k b [.own 9 0 c.length,.own 10 0 d.length]))])::(1,rI a.fr)::(2,rI a.to)::(3,rI a.id)::(4,.row 1 (Ls a.cs))::(5,rI b.fr)::(6,rI b.to)::(7,rI b.id)::(8,.row 1 (Ls b.cs))::(9,rI c)::(10,rI d)::e
@[simp] abbrev Y1i (a:List (AV)):List (AV):=iV 0::nS::nS::nS::nS::iV 0::nS::nS::nS::nS::nS::nS::a
theorem Q9e (c_:Cat) (d_:Cat) (objects_:List Int) (arrows_:List Int) (r:Fn) (h:Q3r c_ d_ objects_ arrows_=some r):Contract Tryz.prog 87 [.rptr (c_.cells true),.rptr (d_.cells true),lI objects_,lI arrows_] (.agg (r.cells true)):=by
 refine Qc (rvs:=[.cell 8 34]) (rs:=[.agg (r.cells true)]) Tryz.func87 rfl rfl rfl rfl (by simp [Tryz.f87]) fun F hN hP=>?_;unfold Q3r at h;refine Q3 (runQ hN fun K hK=>?_);simp;repeat refine sdQ ?_
 refine hK _ ?_;clear hK K;refine tn (Q7 (st':=⟨YD c_ d_ [(2,lI objects_),(3,lI arrows_),(8,.adr 0 0 0)],[(0,.mix 12 [(Y1i [])])],1⟩) (wkQ8 [(0,0)]) (Q3 (runQ hN fun K hK=>?_)));simp;repeat with_reducible refine sdQ ?_
 replace ⟨v1,hv1,h⟩:=bind_some h;refine Q6 (Q1o _ v1 hv1) (.cons (.preT (by simp [Cat.cells])) .nil) ?_;simp;repeat with_reducible refine sdQ ?_
 replace ⟨v2,hv2,h⟩:=bind_some h;refine Q6 (Q1o _ v2 hv2) (.cons (.preT (by simp [Cat.cells])) .nil) ?_;simp;repeat with_reducible refine sdQ ?_
 replace ⟨v3,hv3,h⟩:=bind_some h;refine Q6 (Q8m _ v3 hv3) (.cons .lst .nil) ?_;simp;repeat with_reducible refine sdQ ?_
 replace ⟨v4,hv4,h⟩:=bind_some h;refine Q6 (Q8m _ v4 hv4) (.cons .lst .nil) ?_;simp;repeat refine sdQ ?_
 refine hK _ (tn (Q7 (st':=⟨[(8,.adr 0 0 0)],Y0h v1 v2 v3 v4 [],11⟩) (wkQ8 [(0,0),(2,1),(3,2),(4,3),(5,4),(7,5),(8,6),(9,7),(10,8),(11,9),(12,10)]) (Qo ?_)));clear hK K;have hr:=Option.some.inj h;rw [← hr];refine ⟨_,(.cell tf_34 rfl rfl rfl (by simp) (by simp) .nil),?_⟩;refine ⟨(.agg rfl .nil),[iV v1.n,lI v1.fr,lI v1.to,lI v1.id,.lst true 1 (Ls v1.cs),iV v2.n,lI v2.fr,lI v2.to,lI v2.id,.lst true 1 (Ls v2.cs),lI v3,lI v4],[1,2,3,4,5,6,7,8,9,10],by simp [Cat.cells,Fn.cells,UA,U1,IA,I1,LA,L1,BA,B1,EA,E1,E2,eB,eI,eL],by simp,(UpL.refl _)⟩
attribute [local simp] unk unA unE unT unC flat eL eI Qr
noncomputable def Q2s (n_:Int):Option (List Int) :=
 ass (0≤n_∧n_≤1073741824) <|
 (Qy (σ:=List Int × Int) (ε:=List Int) (fun s6 =>
  if s6.2<((List.replicate n_.toNat 0).length:Int) then
   ass (0≤s6.2∧s6.2<(s6.1.length:Int)) <|
   ass (B64 (s6.2+1)) <|
   some (Ctl.next (s6.1.set s6.2.toNat s6.2,s6.2+1))
  else
   some (Ctl.ret s6.1)) fuel (List.replicate n_.toNat 0,0)).bind fun b2 =>
 some b2
@[simp] abbrev Y0Q (a:Int) (b:List (Nat × Ent)):List (Nat × Ent):=(0,rI (List.replicate a.toNat 0))::b
@[simp] abbrev Y1d (a:Int) (b:List (Nat × AV)):List (Nat × AV):=(8,iV ((List.replicate a.toNat 0).length:Int))::b
theorem Q4Z (n_:Int) (r:List Int) (h:Q2s n_=some r):Contract Tryz.prog 88 [iV n_] (lI r):=by
 refine Qc (rvs:=[.tmp 2]) (rs:=[lI r]) Tryz.func88 rfl rfl rfl rfl (by simp [Tryz.f88]) fun F hN hP=>?_;unfold Q2s at h;refine Q3 (runQ hN fun K hK=>?_);simp;repeat refine sdQ ?_
 refine hK _ ?_;clear hK K;refine tn (Q7 (st':=⟨[(0,iV n_)],[],0⟩) (wkQ8 []) (Q3 (runQ hN fun K hK=>?_)));replace ⟨a1,h⟩:=Q0 h;simp;repeat refine sdQ ?_
 refine hK _ ?_;clear hK K;refine tn (Q7 (st':=⟨[(3,.own 0 0 ((List.replicate n_.toNat 0).length))],Y0Q n_ [],1⟩) (wkQ8 [(0,0)]) (Q3 (Q3 (runQ hN fun K hK=>?_))));simp;repeat refine sdQ ?_
 refine hK _ (tn (Q7 (st':=⟨(3,.own 0 0 ((List.replicate n_.toNat 0).length))::Y1d n_ [(9,iV 0)],Y0Q n_ [],1⟩) (wkQ8 [(0,0)]) ?_));clear hK K;replace ⟨e2,h,h2⟩:=bind_some h;refine Qg (fun b2:List Int=>⟨[(3,.own 0 0 b2.length)],[(0,rI b2)],1⟩) (fun b2=>b2=e2) ?_ ?_
 ·refine Qa (Qn h (fun s6:List Int × Int=>⟨(3,.own 0 0 s6.1.length)::Y1d n_ [(9,iV s6.2)],[(0,rI s6.1)],1⟩) (wkQ8 [(0,0)]) ?_);clear h;intro k6 s6 c6 h hk6;refine Q3 (runQ hN fun K hK=>?_);simp;repeat refine sdQ ?_
  refine hK _ ?_;clear hK K;refine tn (Q3 (Qd rfl (fun g=>?_) fun g=>?_))
  ·have g7:s6.2<((List.replicate n_.toNat 0).length:Int):=gQ;clear g;replace h:=if_l g7 h;refine Qe (tn (Q3 (Qa (Q3 (runQ hN fun K hK=>?_)))));simp;(repeat refine sdQ ?_);refine hK _ ?_;clear hK K;refine tn (Q7 (st':=⟨(3,.own 0 0 s6.1.length)::(4,iV s6.2)::Y1d n_ [(9,iV s6.2)],[(0,rI s6.1)],1⟩) (wkQ8 [(0,0)]) (runQ hN fun K hK=>?_));replace ⟨a8,h⟩:=Q0 h;simp [at_I a8];(repeat refine sdQ ?_);refine hK _ ?_;clear hK K;refine bn (tn (Q7 (st':=⟨(3,.own 0 0 ((s6.1.set s6.2.toNat s6.2).length))::Y1d n_ [(9,iV s6.2)],[(0,rI (s6.1.set s6.2.toNat s6.2))],1⟩) (wkQ8 [(0,0)]) (runQ hN fun K hK=>?_)));replace ⟨a9,h⟩:=Q0 h;simp [Qh a9];(repeat refine sdQ ?_);refine hK _ ?_;clear hK K;cases h;exact rn (s':=(s6.1.set s6.2.toNat s6.2,s6.2+1)) hk6 (wkQ8 [(0,0)])
  have g7:¬ (s6.2<((List.replicate n_.toNat 0).length:Int)):=gQ;clear g;replace h:=if_r g7 h;refine Qm (tx (lx (bh ?_)));cases h;exact jn (b:=s6.1) hk6 (wkQ8 [(0,0)])
 intro b2 hb2;have h:=h2;try rw [← hb2] at h
 clear h2;try dsimp only at h
 refine Q3 (runQ hN fun K hK=>?_);simp;repeat refine sdQ ?_
 refine hK _ (tn (Q7 (st':=⟨[(2,.own 0 0 b2.length)],[(0,rI b2)],1⟩) (wkQ8 [(0,0)]) (Qo ?_)));clear hK K;have hr:=Option.some.inj h;rw [← hr];refine ⟨_,(.tmp .nil),?_⟩;refine ⟨(.one rfl rfl .nil),[lI b2],[0],by simp [UA,U1,IA,I1,LA,L1,BA,B1,EA,E1,E2,eB,eI,eL],by simp,(UpL.refl _)⟩
attribute [local simp] unk unA unE unT unC flat eL eI Qr Q16 Q3k Cat.cells Fn.cells
noncomputable def Q2v (c_:Cat):Option Fn :=
 (Q2s c_.n).bind fun v1 =>
 (QN c_).bind fun v2 =>
 (Q2s v2).bind fun v3 =>
 (Q3r c_ c_ v1 v3).bind fun v4 =>
 some v4
@[simp] abbrev Y06 (a:Fn) (b:List (Nat × Ent)):List (Nat × Ent):=(0,.mix 12 [[iV a.s.n,.own 1 0 a.s.fr.length,.own 2 0 a.s.to.length,.own 3 0 a.s.id.length,.own 4 0 a.s.cs.length,iV a.t.n,.own 5 0 a.t.fr.length,.own 6 0 a.t.to.length,.own 7 0 a.t.id.length,.own 8 0 a.t.cs.length,.own 9 0 a.ob.length,.own 10 0 a.ar.length]])::(1,rI a.s.fr)::(2,rI a.s.to)::(3,rI a.s.id)::(4,.row 1 (Ls a.s.cs))::(5,rI a.t.fr)::(6,rI a.t.to)::(7,rI a.t.id)::(8,.row 1 (Ls a.t.cs))::(9,rI a.ob)::(10,rI a.ar)::b
@[simp] abbrev Y0j (a:Cat) (b:List (Nat × AV)):List (Nat × AV):=(0,.rptr (Cat.cells true a))::b
theorem Q5M (c_:Cat) (r:Fn) (h:Q2v c_=some r):Contract Tryz.prog 63 [.rptr (c_.cells true)] (.agg (r.cells true)):=by
 refine Qc (rvs:=[.cell 2 34]) (rs:=[.agg (r.cells true)]) Tryz.func63 rfl rfl rfl rfl (by simp [Tryz.f63]) fun F hN hP=>?_;unfold Q2v at h;refine Q3 (runQ hN fun K hK=>?_);simp;repeat refine sdQ ?_
 refine hK _ ?_;clear hK K;refine tn (Q7 (st':=⟨Y0j c_ [(2,.adr 0 0 0)],[(0,.mix 12 [(Y1i [])])],1⟩) (wkQ8 [(0,0)]) (Q3 (runQ hN fun K hK=>?_)));simp;repeat with_reducible refine sdQ ?_
 replace ⟨v1,hv1,h⟩:=bind_some h;refine Q6 (Q4Z _ v1 hv1) (.cons .val .nil) ?_;simp;repeat with_reducible refine sdQ ?_
 replace ⟨v2,hv2,h⟩:=bind_some h;refine Q6 (Q2t _ v2 hv2) (.cons (.preT (by simp [Cat.cells])) .nil) ?_;simp;repeat with_reducible refine sdQ ?_
 replace ⟨v3,hv3,h⟩:=bind_some h;refine Q6 (Q4Z _ v3 hv3) (.cons .val .nil) ?_;simp;repeat with_reducible refine sdQ ?_
 replace ⟨v4,hv4,h⟩:=bind_some h;refine Q6 (Q9e _ _ _ _ v4 hv4) (.cons (.preT (by simp [Cat.cells])) (.cons (.preT (by simp [Cat.cells])) (.cons .w (.cons .w .nil)))) ?_;simp;repeat refine sdQ ?_
 refine hK _ (tn (Q7 (st':=⟨[(2,.adr 0 0 0)],Y06 v4 [],11⟩) (wkQ8 [(0,0),(5,1),(6,2),(7,3),(8,4),(10,5),(11,6),(12,7),(13,8),(14,9),(15,10)]) (Qo ?_)));clear hK K;have hr:=Option.some.inj h;rw [← hr];refine ⟨_,(.cell tf_34 rfl rfl rfl (by simp) (by simp) .nil),?_⟩;refine ⟨(.agg rfl .nil),[iV v4.s.n,lI v4.s.fr,lI v4.s.to,lI v4.s.id,.lst true 1 (Ls v4.s.cs),iV v4.t.n,lI v4.t.fr,lI v4.t.to,lI v4.t.id,.lst true 1 (Ls v4.t.cs),lI v4.ob,lI v4.ar],[1,2,3,4,5,6,7,8,9,10],by simp [Cat.cells,Fn.cells,UA,U1,IA,I1,LA,L1,BA,B1,EA,E1,E2,eB,eI,eL],by simp,(UpL.refl _)⟩
attribute [local simp] unk unA unE unT unC flat eL eI Qr Q16 Q3k Cat.cells Fn.cells
noncomputable def Q3t (c_:Cat) (d_:Cat) (objects_:List Int) (arrows_:List Int):Option Fn :=
 (Q1M c_).bind fun v1 =>
 (Q1M d_).bind fun v2 =>
 (Q2T objects_).bind fun v3 =>
 (Q2T arrows_).bind fun v4 =>
 some (⟨v1,v2,v3,v4⟩:Fn)
@[simp] abbrev Y0L (a:Cat) (b:List (Nat × Ent)):List (Nat × Ent):=(0,.mix 5 [(Cat.cells true a)])::b
theorem Q9h (c_:Cat) (d_:Cat) (objects_:List Int) (arrows_:List Int) (r:Fn) (h:Q3t c_ d_ objects_ arrows_=some r):Contract Tryz.prog 57 [.agg (c_.cells true),.agg (d_.cells true),lI objects_,lI arrows_] (.agg (r.cells true)):=by
 refine Qc (rvs:=[.cell 8 34]) (rs:=[.agg (r.cells true)]) Tryz.func57 rfl rfl rfl rfl (by simp [Tryz.f57]) fun F hN hP=>?_;unfold Q3t at h;refine Q3 (runQ hN fun K hK=>?_);simp;repeat refine sdQ ?_
 refine hK _ ?_;clear hK K;refine tn (Q7 (st':=⟨[(2,lI objects_),(3,lI arrows_),(4,.adr 0 0 0),(5,.adr 1 0 0),(8,.adr 2 0 0)],Y0L c_ [(1,.mix 5 [(Cat.cells true d_)]),(2,.mix 12 [(Y1i [])])],3⟩) (wkI8 3) (Q3 (runQ hN fun K hK=>?_)));simp;repeat with_reducible refine sdQ ?_
 replace ⟨v1,hv1,h⟩:=bind_some h;refine Q6 (Q3i _ v1 hv1) (.cons (.aggL (.cons .val (.cons .lst (.cons .lst (.cons .lst (.cons .lst .nil)))))) .nil) ?_;simp;repeat with_reducible refine sdQ ?_
 replace ⟨v2,hv2,h⟩:=bind_some h;refine Q6 (Q3i _ v2 hv2) (.cons (.aggL (.cons .val (.cons .lst (.cons .lst (.cons .lst (.cons .lst .nil)))))) .nil) ?_;simp;repeat with_reducible refine sdQ ?_
 replace ⟨v3,hv3,h⟩:=bind_some h;refine Q6 (Q5A _ v3 hv3) (.cons .lst .nil) ?_;simp;repeat with_reducible refine sdQ ?_
 replace ⟨v4,hv4,h⟩:=bind_some h;refine Q6 (Q5A _ v4 hv4) (.cons .lst .nil) ?_;simp;repeat refine sdQ ?_
 refine hK _ (tn (Q7 (st':=⟨[(8,.adr 0 0 0)],Y0h v1 v2 v3 v4 [],11⟩) (wkQ8 [(2,0),(4,1),(5,2),(6,3),(7,4),(9,5),(10,6),(11,7),(12,8),(13,9),(14,10)]) (Qo ?_)));clear hK K;have hr:=Option.some.inj h;rw [← hr];refine ⟨_,(.cell tf_34 rfl rfl rfl (by simp) (by simp) .nil),?_⟩;refine ⟨(.agg rfl .nil),[iV v1.n,lI v1.fr,lI v1.to,lI v1.id,.lst true 1 (Ls v1.cs),iV v2.n,lI v2.fr,lI v2.to,lI v2.id,.lst true 1 (Ls v2.cs),lI v3,lI v4],[1,2,3,4,5,6,7,8,9,10],by simp [Cat.cells,Fn.cells,UA,U1,IA,I1,LA,L1,BA,B1,EA,E1,E2,eB,eI,eL],by simp,(UpL.refl _)⟩
attribute [local simp] unk unA unE unT unC flat eL eI Qr Q16 Q3k Cat.cells Fn.cells
noncomputable def Q2U (c_:Cat):Option Fn :=
 (Qy (σ:=List Int × Int) (ε:=List Int) (fun s5 =>
  if s5.2<c_.n then
   ass ((s5.1++[s5.2]).length≤1073741824) <|
   ass (B64 (s5.2+1)) <|
   some (Ctl.next (s5.1++[s5.2],s5.2+1))
  else
   some (Ctl.ret s5.1)) fuel ([],0)).bind fun b1 =>
 (Qy (σ:=List Int × Int) (ε:=List Int) (fun s13 =>
  if s13.2<(c_.fr.length:Int) then
   ass ((s13.1++[s13.2]).length≤1073741824) <|
   ass (B64 (s13.2+1)) <|
   some (Ctl.next (s13.1++[s13.2],s13.2+1))
  else
   some (Ctl.ret s13.1)) fuel ([],0)).bind fun b9 =>
 (Q3t c_ c_ b1 b9).bind fun v17 =>
 some v17
@[simp] abbrev YL (a:Cat) (b:List (Nat × Ent)):List (Nat × Ent):=(0,.mix 5 [(Cat.cells true a)])::(1,.mix 12 [(Y1i [])])::b
@[simp] abbrev Y0q (a:List (Nat × AV)):List (Nat × AV):=(1,.adr 0 0 0)::(2,.adr 1 0 0)::a
theorem Q6C (c_:Cat) (r:Fn) (h:Q2U c_=some r):Contract Tryz.prog 21 [.agg (c_.cells true)] (.agg (r.cells true)):=by
 refine Qc (rvs:=[.cell 2 34]) (rs:=[.agg (r.cells true)]) Tryz.func21 rfl rfl rfl rfl (by simp [Tryz.f21]) fun F hN hP=>?_;unfold Q2U at h;refine Q3 (runQ hN fun K hK=>?_);simp;repeat refine sdQ ?_
 refine hK _ ?_;clear hK K;refine tn (Q7 (st':=⟨Y0q [],YL c_ [],2⟩) (wkQ8 [(0,0),(1,1)]) (Q3 (runQ hN fun K hK=>?_)));simp;repeat refine sdQ ?_
 refine hK _ ?_;clear hK K;refine tn (Q7 (st':=⟨Y0q [(3,.own 2 0 0),(4,.own 3 0 0)],YL c_ [(2,.mix 1 []),(3,.mix 1 [])],4⟩) (wkI8 4) (Q3 (Q3 (runQ hN fun K hK=>?_))));simp;repeat refine sdQ ?_
 refine hK _ (tn (Q7 (st':=⟨Y0q [(3,.own 2 0 0),(4,.own 3 0 0),(5,iV 0)],YL c_ [(2,.mix 1 []),(3,.mix 1 [])],4⟩) (wkI8 4) ?_));clear hK K;replace ⟨e1,h,h1⟩:=bind_some h;refine Qg (fun b1:List Int=>⟨Y0q [(3,.own 2 0 b1.length),(4,.own 3 0 0)],YL c_ [(2,rI b1),(3,.mix 1 [])],4⟩) (fun b1=>b1=e1) ?_ ?_
 ·refine Qa (Qn h (fun s5:List Int × Int=>⟨Y0q [(3,.own 2 0 s5.1.length),(4,.own 3 0 0),(5,iV s5.2)],YL c_ [(2,rI s5.1),(3,.mix 1 [])],4⟩) (Q1J ⟨Y0q [(3,.own 2 0 0),(4,.own 3 0 0),(5,iV 0)],YL c_ [(2,rI []),(3,.mix 1 [])],4⟩ (Wk.nils [] (by simp) (by simp) (by simp [nlA]) (by simp [entN,nlL,nlA,Cat.cells,Fn.cells,UA,U1,IA,I1,LA,L1,BA,B1,EA,E1,E2,eB,eI,eL]) (by simp)) (wkI8 4)) ?_);clear h;intro k5 s5 c5 h hk5;refine Q3 (Q3 (runQ hN fun K hK=>?_));simp;repeat refine sdQ ?_
  refine hK _ ?_;clear hK K;refine tn (Qd rfl (fun g=>?_) fun g=>?_)
  ·have g6:s5.2<c_.n:=gQ;clear g;replace h:=if_l g6 h;refine Qe (tn (Q3 (Qa (runQ hN fun K hK=>?_))));replace ⟨a7,h⟩:=Q0 h;(try simp only [List.length_append,List.length_cons,List.length_nil] at a7);simp [a7];(repeat refine sdQ ?_);refine hK _ ?_;clear hK K;refine bn (tn (Q7 (st':=⟨Y0q [(3,.own 2 0 ((s5.1++[s5.2]).length)),(4,.own 3 0 0),(5,iV s5.2)],YL c_ [(2,rI (s5.1++[s5.2])),(3,.mix 1 [])],4⟩) (wkQ8 [(0,0),(1,1),(5,2),(3,3)]) (runQ hN fun K hK=>?_)));replace ⟨a8,h⟩:=Q0 h;simp [Qh a8];(repeat refine sdQ ?_);refine hK _ ?_;clear hK K;cases h;exact rn (s':=(s5.1++[s5.2],s5.2+1)) hk5 (wkI8 4)
  have g6:¬ (s5.2<c_.n):=gQ;clear g;replace h:=if_r g6 h;refine Qm (tx (lx (bh ?_)));cases h;exact jn (b:=s5.1) hk5 (wkI8 4)
 intro b1 hb1;have h:=h1;try rw [← hb1] at h
 clear h1;try dsimp only at h
 refine Q3 (Q3 (runQ hN fun K hK=>?_));simp;repeat refine sdQ ?_
 refine hK _ (tn (Q7 (st':=⟨Y0q [(3,.own 2 0 b1.length),(4,.own 3 0 0),(6,iV 0)],YL c_ [(2,rI b1),(3,.mix 1 [])],4⟩) (wkI8 4) ?_));clear hK K;replace ⟨e9,h,h9⟩:=bind_some h;refine Qg (fun b9:List Int=>⟨Y0q [(3,.own 2 0 b1.length),(4,.own 3 0 b9.length)],YL c_ [(2,rI b1),(3,rI b9)],4⟩) (fun b9=>b9=e9) ?_ ?_
 ·refine Qa (Qn h (fun s13:List Int × Int=>⟨Y0q [(3,.own 2 0 b1.length),(4,.own 3 0 s13.1.length),(6,iV s13.2)],YL c_ [(2,rI b1),(3,rI s13.1)],4⟩) (Q1J ⟨Y0q [(3,.own 2 0 b1.length),(4,.own 3 0 0),(6,iV 0)],YL c_ [(2,rI b1),(3,rI [])],4⟩ (Wk.nils [] (by simp) (by simp) (by simp [nlA]) (by simp [entN,nlL,nlA,Cat.cells,Fn.cells,UA,U1,IA,I1,LA,L1,BA,B1,EA,E1,E2,eB,eI,eL]) (by simp)) (wkI8 4)) ?_);clear h;intro k13 s13 c13 h hk13;refine Q3 (Q3 (runQ hN fun K hK=>?_));simp;repeat refine sdQ ?_
  refine hK _ ?_;clear hK K;refine tn (Qd rfl (fun g=>?_) fun g=>?_)
  ·have g14:s13.2<(c_.fr.length:Int):=gQ;clear g;replace h:=if_l g14 h;refine Qe (tn (Q3 (Qa (runQ hN fun K hK=>?_))));replace ⟨a15,h⟩:=Q0 h;(try simp only [List.length_append,List.length_cons,List.length_nil] at a15);simp [a15];(repeat refine sdQ ?_);refine hK _ ?_;clear hK K;refine bn (tn (Q7 (st':=⟨Y0q [(3,.own 2 0 b1.length),(4,.own 3 0 ((s13.1++[s13.2]).length)),(6,iV s13.2)],YL c_ [(2,rI b1),(3,rI (s13.1++[s13.2]))],4⟩) (wkQ8 [(0,0),(1,1),(2,2),(5,3)]) (runQ hN fun K hK=>?_)));replace ⟨a16,h⟩:=Q0 h;simp [Qh a16];(repeat refine sdQ ?_);refine hK _ ?_;clear hK K;cases h;exact rn (s':=(s13.1++[s13.2],s13.2+1)) hk13 (wkI8 4)
  have g14:¬ (s13.2<(c_.fr.length:Int)):=gQ;clear g;replace h:=if_r g14 h;refine Qm (tx (lx (bh ?_)));cases h;exact jn (b:=s13.1) hk13 (wkI8 4)
 intro b9 hb9;have h:=h9;try rw [← hb9] at h
 clear h9;try dsimp only at h
 refine Q3 (runQ hN fun K hK=>?_);simp;repeat with_reducible refine sdQ ?_
 replace ⟨v17,hv17,h⟩:=bind_some h;refine Q6 (Q9h _ _ _ _ v17 hv17) (.cons (.aggL (.cons .val (.cons .lst (.cons .lst (.cons .lst (.cons .lst .nil)))))) (.cons (.aggL (.cons .val (.cons .lst (.cons .lst (.cons .lst (.cons .lst .nil)))))) (.cons .w (.cons .w .nil)))) ?_;simp;repeat refine sdQ ?_
 refine hK _ (tn (Q7 (st':=⟨[(2,.adr 0 0 0)],Y06 v17 [],11⟩) (wkQ8 [(1,0),(5,1),(6,2),(7,3),(8,4),(10,5),(11,6),(12,7),(13,8),(14,9),(15,10)]) (Qo ?_)));clear hK K;have hr:=Option.some.inj h;rw [← hr];refine ⟨_,(.cell tf_34 rfl rfl rfl (by simp) (by simp) .nil),?_⟩;refine ⟨(.agg rfl .nil),[iV v17.s.n,lI v17.s.fr,lI v17.s.to,lI v17.s.id,.lst true 1 (Ls v17.s.cs),iV v17.t.n,lI v17.t.fr,lI v17.t.to,lI v17.t.id,.lst true 1 (Ls v17.t.cs),lI v17.ob,lI v17.ar],[1,2,3,4,5,6,7,8,9,10],by simp [Cat.cells,Fn.cells,UA,U1,IA,I1,LA,L1,BA,B1,EA,E1,E2,eB,eI,eL],by simp,(UpL.refl _)⟩
section
attribute [local simp] Ql Q11 QE Q1j QW
theorem Q2d (n:Nat) {j:Int} (h0:0≤j) (h1:j<n):ix (iota n) j=j:=by
 obtain ⟨i,rfl⟩:∃ i:Nat,j=i:=⟨j.toNat,by omega⟩;rw [← Q2q _ _ (show i<(iota n).length by simp [iota];omega)];simp [iota]
theorem set_fill {α:Type} (xs:List α) (k:Nat) (v z:α) {i:Nat} (h:i=xs.length):(xs++List.replicate (k+1) z).set i v=(xs++[v])++List.replicate k z:=by
 subst h;simp [List.replicate_succ]
def QM (c:Cat):Fn:=⟨c,c,iota c.n.toNat,iota c.fr.length⟩
theorem Cat.Is.ok {c:Cat} (h:c.Is):c.ok:=h.1.size2.1
theorem Fn.Is.lob {f:Fn} (h:f.Is):f.ob.length≤8:=by have:=h.lo;have:=h.s.1.n8;omega
theorem Fn.Is.lar {f:Fn} (h:f.Is):f.ar.length≤40:=by have:=h.la;have:=h.s.1.m40;omega
theorem e_l06Make {c d:Cat} {ob ar:List Int} (hc:c.ok) (hd:d.ok) (ho:ob.length≤1048576) (ha:ar.length≤1048576):Q3t c d ob ar=some ⟨c,d,ob,ar⟩:=by
 simp [Q3t,Q1M,Q2T,hc,hd,ho,ha]
theorem e_functor {c d:Cat} {ob ar:List Int} (hc:c.ok) (hd:d.ok) (ho:ob.length≤1048576) (ha:ar.length≤1048576):Q3r c d ob ar=some ⟨c,d,ob,ar⟩:=by
 simp [Q3r,QP,Q4v,hc,hd,ho,ha]
theorem Q7J {n:Int} (h0:0≤n) (h1:n≤1048576):Q2s n=some (iota n.toNat):=by
 unfold Q2s;rw [Q4 (by omega)];simp only [List.length_replicate];refine QY n.toNat (fun i:Nat=>iota i++List.replicate (n.toNat - i) 0) (e:=iota n.toNat) (by simp [iota]) (by omega) (fun i hi=>?_) (by simp) (by simp);obtain ⟨k,hk⟩:∃ k,n.toNat - i=k+1:=⟨n.toNat - i - 1,by omega⟩;have hl:(iota i).length=i:=by simp [iota]
 have hs:=set_fill (iota i) k (i:Int) 0 (i:=i) (by rw [hl]);rw [Q6f,hk,show n.toNat - (i+1)=k by omega,← hs];simp (disch:=omega) [Q4,B64,hl];omega
theorem Qa7 {c:Cat} (h:c.Is):Q2v c=some (QM c):=by
 have:=h.1.n0;have:=h.1.n8;have:=h.1.m40;simp (disch:=(first|exact h.ok|(simp [iota];omega)|omega)) only [Q2v,QN,Q7J,e_functor,Option.bind_some];simp [QM]
theorem e_l06Self {c:Cat} (h:c.Is):Q2U c=some (QM c):=by
 have n0:=h.1.n0;have n8:=h.1.n8;have m40:=h.1.m40;unfold Q2U;refine QY c.n.toNat (fun i:Nat=>iota i) (e:=iota c.n.toNat) (by simp [iota]) (by omega) (fun i hi=>?_) (by simp;omega) ?_
 ·have hl:(iota i).length=i:=by simp [iota]
  simp (disch:=omega) [Q4,B64,Q6f,hl];omega
 refine QY c.fr.length (fun i:Nat=>iota i) (e:=iota c.fr.length) (by simp [iota]) (by omega) (fun i hi=>?_) (by simp) ?_
 ·have hl:(iota i).length=i:=by simp [iota]
  simp (disch:=omega) [Q4,B64,Q6f,hl];omega
 rw [e_l06Make h.ok h.ok (by simp [iota];omega) (by simp [iota];omega)];rfl
theorem self_is {c:Cat} (h:c.Is):(QM c).Is:=by
 have n0:=h.1.n0;have li:=h.1.li;refine ⟨h,h,by simp [QM,iota];omega,by simp [QM,iota],fun j hj=>?_,fun j hj=>?_,fun a ha=>?_,fun x hx=>?_,fun a ha b hb e=>?_⟩
 ·simp only [QM,iota,List.length_map,List.length_range] at hj ⊢;have:=Q2d c.n.toNat (j:=j) (by omega) (by omega);simp only [iota] at this;rw [this];omega
 ·simp only [QM,iota,List.length_map,List.length_range] at hj ⊢;have:=Q2d c.fr.length (j:=j) (by omega) (by omega);simp only [iota] at this;rw [this];omega
 ·simp only [QM] at ha ⊢;have hf:=h.1.frn ha;rw [Q2d _ (by omega) (by omega),Q2d _ (by omega) (by omega),Q2d _ (by omega) (by omega)];exact ⟨rfl,rfl⟩
 ·simp only [QM] at hx ⊢;have hf:=h.1.idn hx;rw [Q2d _ (by omega) (by omega),Q2d _ (by omega) (by omega)]
 simp only [QM] at ha hb e ⊢;have hc:=h.1.cmp (f:=a) (g:=b) (by omega) (by omega) (by omega) (by omega) e;rw [Q2d _ (by omega) (by omega),Q2d _ (by omega) (by omega),Q2d _ (by omega) (by omega)]
end
attribute [local simp] unk unA unE unT unC flat eL eI Qr Q16 Q3k Cat.cells Fn.cells
noncomputable def Q1W (f_:Fn):Option Bool :=
 (
  if ¬ ((f_.ob.length:Int)=f_.s.n) then
   some true
  else
   (QN f_.s).bind fun v3 =>
   if ¬ ((f_.ar.length:Int)=v3) then
    some true
   else
    (Q2R f_.ob f_.t.n).bind fun v5 =>
    if ¬ (v5=true) then
     some true
    else
     (QN f_.t).bind fun v7 =>
     (Q2R f_.ar v7).bind fun v8 =>
     some (!v8):Option (Bool)).bind fun b1 =>
 if b1=true then
  some false
 else
  (Qy (σ:=Int) (ε:=Unit ⊕ Bool) (fun s23 =>
   if s23<(f_.ar.length:Int) then
    ass (0≤s23∧s23<(f_.ar.length:Int)) <|
    (
     ass (0≤ix f_.ar s23∧ix f_.ar s23<(f_.t.fr.length:Int)) <|
     ass (0≤s23∧s23<(f_.s.fr.length:Int)) <|
     ass (0≤ix f_.s.fr s23∧ix f_.s.fr s23<(f_.ob.length:Int)) <|
     if ¬ ((ix f_.t.fr (ix f_.ar s23))=(ix f_.ob (ix f_.s.fr s23))) then
      some true
     else
      ass (0≤ix f_.ar s23∧ix f_.ar s23<(f_.t.to.length:Int)) <|
      ass (0≤s23∧s23<(f_.s.to.length:Int)) <|
      ass (0≤ix f_.s.to s23∧ix f_.s.to s23<(f_.ob.length:Int)) <|
      some ((ix f_.t.to (ix f_.ar s23)) != (ix f_.ob (ix f_.s.to s23))):Option (Bool)).bind fun b26 =>
    if b26=true then
     some (Ctl.ret (Sum.inr false))
    else
     ass (B64 (s23+1)) <|
     some (Ctl.next (s23+1))
   else
    some (Ctl.ret (Sum.inl ()))) fuel 0).bind fun e10 =>
  match e10 with
  | .inl b10 =>
   (Qy (σ:=Int) (ε:=Unit ⊕ Bool) (fun s44 =>
    if s44<(f_.s.id.length:Int) then
     ass (0≤s44∧s44<(f_.s.id.length:Int)) <|
     ass (0≤ix f_.s.id s44∧ix f_.s.id s44<(f_.ar.length:Int)) <|
     ass (0≤s44∧s44<(f_.ob.length:Int)) <|
     ass (0≤ix f_.ob s44∧ix f_.ob s44<(f_.t.id.length:Int)) <|
     if ¬ ((ix f_.ar (ix f_.s.id s44))=(ix f_.t.id (ix f_.ob s44))) then
      some (Ctl.ret (Sum.inr false))
     else
      ass (B64 (s44+1)) <|
      some (Ctl.next (s44+1))
    else
     some (Ctl.ret (Sum.inl ()))) fuel 0).bind fun e36 =>
   match e36 with
   | .inl b36 =>
    (Qy (σ:=Int) (ε:=Unit ⊕ Bool) (fun s78 =>
     if s78<(f_.s.cs.length:Int) then
      (
       ass (0≤s78∧s78<(f_.s.cs.length:Int)) <|
       (Qy (σ:=Int) (ε:=Bool ⊕ Unit) (fun s92 =>
        if s92<((rx f_.s.cs s78).length:Int) then
         ass (0≤s92∧s92<((rx f_.s.cs s78).length:Int)) <|
         (
          if (ix (rx f_.s.cs s78) s92) ≥ 0 then
           ass (0≤ix (rx f_.s.cs s78) s92∧ix (rx f_.s.cs s78) s92<(f_.ar.length:Int)) <|
           ass (0≤s78∧s78<(f_.ar.length:Int)) <|
           ass (0≤s92∧s92<(f_.ar.length:Int)) <|
           (QU f_.t (ix f_.ar s78) (ix f_.ar s92)).bind fun v100 =>
           some ((ix f_.ar (ix (rx f_.s.cs s78) s92)) != v100)
          else
           some false:Option (Bool)).bind fun b95 =>
         if b95=true then
          some (Ctl.ret (Sum.inl false))
         else
          ass (B64 (s92+1)) <|
          some (Ctl.next (s92+1))
        else
         some (Ctl.ret (Sum.inr ()))) fuel 0).bind fun e92 =>
       match e92 with
       | .inl p92 =>
        some (Sum.inr p92)
       | .inr p92 =>
        some (Sum.inl p92):Option (Unit ⊕ Bool)).bind fun e80 =>
      match e80 with
      | .inl b80 =>
       ass (B64 (s78+1)) <|
       some (Ctl.next (s78+1))
      | .inr p80 =>
       some (Ctl.ret (Sum.inr p80))
     else
      some (Ctl.ret (Sum.inl ()))) fuel 0).bind fun e52 =>
    match e52 with
    | .inl b52 =>
     some true
    | .inr p52 =>
     some p52
   | .inr p36 =>
    some p36
  | .inr p10 =>
   some p10
@[simp] abbrev Y1p (a:Fn) (b:List (AV)):List (AV):=iV a.t.n::lI a.t.fr::lI a.t.to::lI a.t.id::.lst true 1 (Ls a.t.cs)::lI a.ob::lI a.ar::b
@[simp] abbrev Yv (a:Fn) (b:List (Nat × AV)):List (Nat × AV):=(4,.rptr (Y1p a []))::b
@[simp] abbrev Y01 (a:Fn) (b:List (Nat × AV)):List (Nat × AV):=(0,.rptr (Fn.cells true a))::(3,.rptr (Fn.cells true a))::b
@[simp] abbrev Y0g (a:Fn) (b:Int) (c:List (Nat × AV)):List (Nat × AV):=(151,.lst true 1 (Ls a.s.cs))::(152,iV (a.s.cs.length:Int))::(153,iV b)::(158,lI (rx a.s.cs b))::(159,iV ((rx a.s.cs b).length:Int))::c
@[simp] abbrev Y0A (a:Fn) (b:List (Nat × AV)):List (Nat × AV):=(0,.rptr (Fn.cells true a))::b
@[simp] abbrev Y0W (a:Fn) (b:List (Nat × AV)):List (Nat × AV):=(151,.lst true 1 (Ls a.s.cs))::(152,iV (a.s.cs.length:Int))::b
theorem Q5R (f_:Fn) (r:Bool) (h:Q1W f_=some r):Contract Tryz.prog 62 [.rptr (f_.cells true)] (.val (.bool r)):=by
 refine Qc (rvs:=[.tmp 2]) (rs:=[.val (.bool r)]) Tryz.func62 rfl rfl rfl rfl (by simp [Tryz.f62]) fun F hN hP=>?_;unfold Q1W at h;refine Q3 (runQ hN fun K hK=>?_);simp;repeat refine sdQ ?_
 refine hK _ ?_;clear hK K;refine tn (Q7 (st':=⟨Y0A f_ [],[],0⟩) (wkQ8 []) (Q3 (runQ hN fun K hK=>?_)));simp;repeat refine sdQ ?_
 refine hK _ (tn (Q7 (st':=⟨Y01 f_ (Yv f_ []),[],0⟩) (wkQ8 []) (Q3 (Q3 ?_))));clear hK K;replace ⟨e1,h,h1⟩:=bind_some h;refine Qg (fun b1:Bool=>⟨Y01 f_ (Yv f_ [(60,.val (.bool b1))]),[],0⟩) (fun b1=>b1=e1) ?_ ?_
 ·refine runQ hN fun K hK=>?_;simp;repeat with_reducible refine sdQ ?_
  refine QZ (fun g=>?_) (fun g=>?_)
  ·have g2:¬ (¬ ((f_.ob.length:Int)=f_.s.n)):=gQ;clear g;replace h:=if_r g2 h;simp;(repeat with_reducible refine sdQ ?_);replace ⟨v3,hv3,h⟩:=bind_some h;refine Q6 (Q2t _ v3 hv3) (.cons (.preT (by simp [Cat.cells,Fn.cells])) .nil) ?_;simp;(repeat with_reducible refine sdQ ?_);refine QZ (fun g=>?_) (fun g=>?_)
   ·have g4:¬ (¬ ((f_.ar.length:Int)=v3)):=gQ;clear g;replace h:=if_r g4 h;simp;(repeat with_reducible refine sdQ ?_);replace ⟨v5,hv5,h⟩:=bind_some h;refine Q6 (Q79 _ _ v5 hv5) (.cons .lst (.cons .val .nil)) ?_;simp;(repeat with_reducible refine sdQ ?_);refine QZ (fun g=>?_) (fun g=>?_)
    ·have g6:¬ (¬ (v5=true)):=gQ;clear g;replace h:=if_r g6 h;simp;(repeat with_reducible refine sdQ ?_);replace ⟨v7,hv7,h⟩:=bind_some h;refine Q6 (Q2t _ v7 hv7) (.cons (.preT (by simp [Cat.cells,Fn.cells])) .nil) ?_;simp;(repeat with_reducible refine sdQ ?_);replace ⟨v8,hv8,h⟩:=bind_some h;refine Q6 (Q79 _ _ v8 hv8) (.cons .lst (.cons .val .nil)) ?_;simp;(repeat refine sdQ ?_);refine hK _ ?_;exact jn (b:=!v8) (Option.some.inj h) (wkQ8 [])
    have g6:¬ (v5=true):=gQ;clear g;replace h:=if_l g6 h;simp;(repeat refine sdQ ?_);refine hK _ ?_;exact jn (b:=true) (Option.some.inj h) (wkQ8 [])
   have g4:¬ ((f_.ar.length:Int)=v3):=gQ;clear g;replace h:=if_l g4 h;simp;(repeat refine sdQ ?_);refine hK _ ?_;exact jn (b:=true) (Option.some.inj h) (wkQ8 [])
  have g2:¬ ((f_.ob.length:Int)=f_.s.n):=gQ;clear g;replace h:=if_l g2 h;simp;repeat refine sdQ ?_
  refine hK _ ?_;exact jn (b:=true) (Option.some.inj h) (wkQ8 [])
 intro b1 hb1;have h:=h1;try rw [← hb1] at h
 clear h1;try dsimp only at h
 refine Qd rfl (fun g=>?_) fun g=>?_
 ·have g9:b1=true:=gQ;clear g;replace h:=if_l g9 h;refine Q3 (runQ hN fun K hK=>?_);simp;repeat refine sdQ ?_
  refine hK _ (tn (Q7 (st':=⟨Y0Z [],[],0⟩) (wkQ8 []) (Qo (tr ?_))));clear hK K;have hr:=Option.some.inj h;rw [← hr];refine ⟨_,(.tmp .nil),?_⟩;refine ⟨(.one rfl rfl .nil),[.val (.bool false)],[],by simp [Cat.cells,Fn.cells,UA,U1,IA,I1,LA,L1,BA,B1,EA,E1,E2,eB,eI,eL],by simp,(UpL.refl _)⟩
 have g9:¬ (b1=true):=gQ;clear g;replace h:=if_r g9 h;refine Qe (tn (Q3 (Q3 (runQ hN fun K hK=>?_))));simp;repeat refine sdQ ?_
 refine hK _ (tn (Q7 (st':=⟨Y01 f_ (Yv f_ [(64,lI f_.ar),(65,iV (f_.ar.length:Int)),(66,iV 0)]),[],0⟩) (wkQ8 []) ?_));clear hK K;replace ⟨e10,h,h10⟩:=bind_some h;refine Qg (fun b10:Unit=>⟨Y01 f_ (Yv f_ []),[],0⟩) (fun b10=>Sum.inl b10=e10) ?_ ?_
 ·refine Qa (Qn h (fun s23:Int=>⟨Y01 f_ (Yv f_ [(64,lI f_.ar),(65,iV (f_.ar.length:Int)),(66,iV s23)]),[],0⟩) (wkQ8 []) ?_);clear h;intro k23 s23 c23 h hk23;refine Q3 (runQ hN fun K hK=>?_);simp;repeat refine sdQ ?_
  refine hK _ ?_;clear hK K;refine tn (Q3 (Qd rfl (fun g=>?_) fun g=>?_))
  ·have g24:s23<(f_.ar.length:Int):=gQ;clear g;replace h:=if_l g24 h;refine Qe (tn (Q3 (Qa (Q3 (runQ hN fun K hK=>?_)))));replace ⟨a25,h⟩:=Q0 h;simp [at_I a25];(repeat refine sdQ ?_);refine hK _ (tn (Q7 (st':=⟨Y01 f_ (Yv f_ [(5,iV s23),(6,iV (ix f_.ar s23)),(64,lI f_.ar),(65,iV (f_.ar.length:Int)),(66,iV s23)]),[],0⟩) (wkQ8 []) (Q3 ?_)));clear hK K;replace ⟨e26,h,h26⟩:=bind_some h;refine Qg (fun b26:Bool=>⟨Y01 f_ (Yv f_ [(64,lI f_.ar),(65,iV (f_.ar.length:Int)),(66,iV s23),(114,.val (.bool b26))]),[],0⟩) (fun b26=>b26=e26) ?_ ?_
   ·refine runQ hN fun K hK=>?_;replace ⟨a27,h⟩:=Q0 h;replace ⟨a28,h⟩:=Q0 h;replace ⟨a29,h⟩:=Q0 h;simp [at_I a27,at_I a28,at_I a29];(repeat with_reducible refine sdQ ?_);refine QZ (fun g=>?_) (fun g=>?_)
    ·have g30:¬ (¬ ((ix f_.t.fr (ix f_.ar s23))=(ix f_.ob (ix f_.s.fr s23)))):=gQ;clear g;replace h:=if_r g30 h;replace ⟨a31,h⟩:=Q0 h;replace ⟨a32,h⟩:=Q0 h;replace ⟨a33,h⟩:=Q0 h;simp [at_I a27,at_I a28,at_I a29,at_I a31,at_I a32,at_I a33];(repeat refine sdQ ?_);refine hK _ ?_;exact jn (b:=(ix f_.t.to (ix f_.ar s23)) != (ix f_.ob (ix f_.s.to s23))) (Option.some.inj h) (wkQ8 [])
    have g30:¬ ((ix f_.t.fr (ix f_.ar s23))=(ix f_.ob (ix f_.s.fr s23))):=gQ;clear g;replace h:=if_l g30 h;simp [at_I a27,at_I a28,at_I a29];(repeat refine sdQ ?_);refine hK _ ?_;exact jn (b:=true) (Option.some.inj h) (wkQ8 [])
   intro b26 hb26;have h:=h26;(try rw [← hb26] at h);clear h26;(try dsimp only at h);refine Qd rfl (fun g=>?_) fun g=>?_
   ·have g34:b26=true:=gQ;clear g;replace h:=if_l g34 h;refine Q3 (runQ hN fun K hK=>?_);simp;(repeat refine sdQ ?_);refine hK _ (tn (Q7 (st':=⟨Y0Z [],[],0⟩) (wkQ8 []) (Qo (br (tr (lr (br (tr ?_))))))));clear hK K;cases h;have q:_=e10:=hk23;have h:=h10;rw [← q] at h;clear q;(try dsimp only at h);have hr:=Option.some.inj h;rw [← hr];refine ⟨_,(.tmp .nil),?_⟩;refine ⟨(.one rfl rfl .nil),[.val (.bool false)],[],by simp [Cat.cells,Fn.cells,UA,U1,IA,I1,LA,L1,BA,B1,EA,E1,E2,eB,eI,eL],by simp,(UpL.refl _)⟩
   have g34:¬ (b26=true):=gQ;clear g;replace h:=if_r g34 h;refine Qe (bn (tn (runQ hN fun K hK=>?_)));replace ⟨a35,h⟩:=Q0 h;simp [Qh a35];(repeat refine sdQ ?_);refine hK _ ?_;clear hK K;cases h;exact rn (s':=s23+1) hk23 (wkQ8 [])
  have g24:¬ (s23<(f_.ar.length:Int)):=gQ;clear g;replace h:=if_r g24 h;refine Qm (tx (lx (bh ?_)));cases h;exact jn (b:=()) hk23 (wkQ8 [])
 intro b10 hb10;have h:=h10;try rw [← hb10] at h
 clear h10;try dsimp only at h
 refine Q3 (Q3 (runQ hN fun K hK=>?_));simp;repeat refine sdQ ?_
 refine hK _ (tn (Q7 (st':=⟨Y01 f_ (Yv f_ [(119,lI f_.s.id),(120,iV (f_.s.id.length:Int)),(121,iV 0)]),[],0⟩) (wkQ8 []) ?_));clear hK K;replace ⟨e36,h,h36⟩:=bind_some h;refine Qg (fun b36:Unit=>⟨Y01 f_ (Yv f_ []),[],0⟩) (fun b36=>Sum.inl b36=e36) ?_ ?_
 ·refine Qa (Qn h (fun s44:Int=>⟨Y01 f_ (Yv f_ [(119,lI f_.s.id),(120,iV (f_.s.id.length:Int)),(121,iV s44)]),[],0⟩) (wkQ8 []) ?_);clear h;intro k44 s44 c44 h hk44;refine Q3 (runQ hN fun K hK=>?_);simp;repeat refine sdQ ?_
  refine hK _ ?_;clear hK K;refine tn (Q3 (Qd rfl (fun g=>?_) fun g=>?_))
  ·have g45:s44<(f_.s.id.length:Int):=gQ;clear g;replace h:=if_l g45 h;refine Qe (tn (Q3 (Qa (Q3 (runQ hN fun K hK=>?_)))));replace ⟨a46,h⟩:=Q0 h;simp [at_I a46];(repeat refine sdQ ?_);refine hK _ ?_;clear hK K;refine tn (Q7 (st':=⟨Y01 f_ (Yv f_ [(7,iV s44),(8,iV (ix f_.s.id s44)),(119,lI f_.s.id),(120,iV (f_.s.id.length:Int)),(121,iV s44)]),[],0⟩) (wkQ8 []) (Q3 (runQ hN fun K hK=>?_)));replace ⟨a47,h⟩:=Q0 h;replace ⟨a48,h⟩:=Q0 h;replace ⟨a49,h⟩:=Q0 h;simp [at_I a47,at_I a48,at_I a49];(repeat refine sdQ ?_);refine hK _ ?_;clear hK K;refine tn (Qd rfl (fun g=>?_) fun g=>?_)
   ·have g50:¬ ((ix f_.ar (ix f_.s.id s44))=(ix f_.t.id (ix f_.ob s44))):=gQ;clear g;replace h:=if_l g50 h;refine Q3 (runQ hN fun K hK=>?_);simp;(repeat refine sdQ ?_);refine hK _ (tn (Q7 (st':=⟨Y0Z [],[],0⟩) (wkQ8 []) (Qo (br (tr (lr (br (tr ?_))))))));clear hK K;cases h;have q:_=e36:=hk44;have h:=h36;rw [← q] at h;clear q;(try dsimp only at h);have hr:=Option.some.inj h;rw [← hr];refine ⟨_,(.tmp .nil),?_⟩;refine ⟨(.one rfl rfl .nil),[.val (.bool false)],[],by simp [Cat.cells,Fn.cells,UA,U1,IA,I1,LA,L1,BA,B1,EA,E1,E2,eB,eI,eL],by simp,(UpL.refl _)⟩
   have g50:¬ (¬ ((ix f_.ar (ix f_.s.id s44))=(ix f_.t.id (ix f_.ob s44)))):=gQ;clear g;replace h:=if_r g50 h;refine Qe (bn (tn (runQ hN fun K hK=>?_)));replace ⟨a51,h⟩:=Q0 h;simp [Qh a51];(repeat refine sdQ ?_);refine hK _ ?_;clear hK K;cases h;exact rn (s':=s44+1) hk44 (wkQ8 [])
  have g45:¬ (s44<(f_.s.id.length:Int)):=gQ;clear g;replace h:=if_r g45 h;refine Qm (tx (lx (bh ?_)));cases h;exact jn (b:=()) hk44 (wkQ8 [])
 intro b36 hb36;have h:=h36;try rw [← hb36] at h
 clear h36;try dsimp only at h
 refine Q3 (Q3 (runQ hN fun K hK=>?_));simp;repeat refine sdQ ?_
 refine hK _ (tn (Q7 (st':=⟨Y0A f_ (Yv f_ (Y0W f_ [(153,iV 0)])),[],0⟩) (wkQ8 []) ?_));clear hK K;replace ⟨e52,h,h52⟩:=bind_some h;refine Qg (fun b52:Unit=>⟨[],[],0⟩) (fun b52=>Sum.inl b52=e52) ?_ ?_
 ·refine Qa (Qn h (fun s78:Int=>⟨Y0A f_ (Yv f_ (Y0W f_ [(153,iV s78)])),[],0⟩) (wkQ8 []) ?_);clear h;intro k78 s78 c78 h hk78;refine Q3 (runQ hN fun K hK=>?_);simp;repeat refine sdQ ?_
  refine hK _ ?_;clear hK K;refine tn (Q3 (Qd rfl (fun g=>?_) fun g=>?_))
  ·have g79:s78<(f_.s.cs.length:Int):=gQ;clear g;replace h:=if_l g79 h;refine Qe (tn (Q3 ?_));replace ⟨e80,h,h80⟩:=bind_some h;refine Qg (fun b80:Unit=>⟨Y0A f_ (Yv f_ (Y0W f_ [(153,iV s78)])),[],0⟩) (fun b80=>Sum.inl b80=e80) ?_ ?_
   ·refine Qa (Q3 (runQ hN fun K hK=>?_));replace ⟨a81,h⟩:=Q0 h;simp [at_L a81];(repeat refine sdQ ?_);refine hK _ ?_;clear hK K;refine tn (Q7 (st':=⟨Y0A f_ (Yv f_ ((9,iV s78)::(10,lI (rx f_.s.cs s78))::Y0W f_ [(153,iV s78)])),[],0⟩) (wkQ8 []) (Q3 (runQ hN fun K hK=>?_)));simp;(repeat refine sdQ ?_);refine hK _ (tn (Q7 (st':=⟨Y0A f_ (Yv f_ ((9,iV s78)::Y0g f_ s78 [(160,iV 0)])),[],0⟩) (wkQ8 []) (Qa ?_)));clear hK K;replace ⟨e92,he92,h92⟩:=bind_some h;refine Qn he92 (fun s92:Int=>⟨Y0A f_ (Yv f_ ((9,iV s78)::Y0g f_ s78 [(160,iV s92)])),[],0⟩) (wkQ8 []) ?_;intro k92 s92 c92 h hk92;refine Q3 (runQ hN fun K hK=>?_);simp;(repeat refine sdQ ?_);refine hK _ ?_;clear hK K;refine tn (Q3 (Qd rfl (fun g=>?_) fun g=>?_))
    ·have g93:s92<((rx f_.s.cs s78).length:Int):=gQ;clear g;replace h:=if_l g93 h;refine Qe (tn (Q3 (Qa (Q3 (runQ hN fun K hK=>?_)))));replace ⟨a94,h⟩:=Q0 h;simp [at_I a94];(repeat refine sdQ ?_);refine hK _ (tn (Q7 (st':=⟨Y0A f_ (Yv f_ ((9,iV s78)::(11,iV s92)::(12,iV (ix (rx f_.s.cs s78) s92))::Y0g f_ s78 [(160,iV s92)])),[],0⟩) (wkQ8 []) (Q3 ?_)));clear hK K;replace ⟨e95,h,h95⟩:=bind_some h;refine Qg (fun b95:Bool=>⟨Y0A f_ (Yv f_ ((9,iV s78)::Y0g f_ s78 [(160,iV s92),(192,.val (.bool b95))])),[],0⟩) (fun b95=>b95=e95) ?_ ?_
     ·refine runQ hN fun K hK=>?_;simp;(repeat with_reducible refine sdQ ?_);refine QZ (fun g=>?_) (fun g=>?_)
      ·have g96:(ix (rx f_.s.cs s78) s92) ≥ 0:=gQ;clear g;replace h:=if_l g96 h;replace ⟨a97,h⟩:=Q0 h;replace ⟨a98,h⟩:=Q0 h;replace ⟨a99,h⟩:=Q0 h;simp [at_I a97,at_I a98,at_I a99];(repeat with_reducible refine sdQ ?_);replace ⟨v100,hv100,h⟩:=bind_some h;refine Q6 (Q2c _ _ _ v100 hv100) (.cons (.preT (by simp [Cat.cells,Fn.cells])) (.cons .val (.cons .val .nil))) ?_;simp [at_I a97,at_I a98,at_I a99];(repeat refine sdQ ?_);refine hK _ ?_;exact jn (b:=(ix f_.ar (ix (rx f_.s.cs s78) s92)) != v100) (Option.some.inj h) (wkQ8 [])
      have g96:¬ ((ix (rx f_.s.cs s78) s92) ≥ 0):=gQ;clear g;replace h:=if_r g96 h;simp;(repeat refine sdQ ?_);refine hK _ ?_;exact jn (b:=false) (Option.some.inj h) (wkQ8 [])
     intro b95 hb95;have h:=h95;(try rw [← hb95] at h);clear h95;(try dsimp only at h);refine Qd rfl (fun g=>?_) fun g=>?_
     ·have g101:b95=true:=gQ;clear g;replace h:=if_l g101 h;refine Q3 (runQ hN fun K hK=>?_);simp;(repeat refine sdQ ?_);refine hK _ (tn (Q7 (st':=⟨Y0Z [],[],0⟩) (wkQ8 []) (Qo (br (tr (lr (br (br (tr (lr (br (tr ?_))))))))))));clear hK K;cases h;have q:_=e92:=hk92;have h:=h92;rw [← q] at h;clear q;(try dsimp only at h);cases h;have h:=h80;(try dsimp only at h);cases h;have q:_=e52:=hk78;have h:=h52;rw [← q] at h;clear q;(try dsimp only at h);have hr:=Option.some.inj h;rw [← hr];refine ⟨_,(.tmp .nil),?_⟩;refine ⟨(.one rfl rfl .nil),[.val (.bool false)],[],by simp [Cat.cells,Fn.cells,UA,U1,IA,I1,LA,L1,BA,B1,EA,E1,E2,eB,eI,eL],by simp,(UpL.refl _)⟩
     have g101:¬ (b95=true):=gQ;clear g;replace h:=if_r g101 h;refine Qe (bn (tn (runQ hN fun K hK=>?_)));replace ⟨a102,h⟩:=Q0 h;simp [Qh a102];(repeat refine sdQ ?_);refine hK _ ?_;clear hK K;cases h;exact rn (s':=s92+1) hk92 (wkQ8 [])
    have g93:¬ (s92<((rx f_.s.cs s78).length:Int)):=gQ;clear g;replace h:=if_r g93 h;refine Qm (tx (lx (bh (bn ?_))));cases h;have q:_=e92:=hk92;have h:=h92;rw [← q] at h;clear q;(try dsimp only at h);exact jn (b:=()) (Option.some.inj h) (wkQ8 [])
   intro b80 hb80;have h:=h80;(try rw [← hb80] at h);clear h80;(try dsimp only at h);refine runQ hN fun K hK=>?_;replace ⟨a103,h⟩:=Q0 h;simp [Qh a103];(repeat refine sdQ ?_);refine hK _ ?_;clear hK K;cases h;exact rn (s':=s78+1) hk78 (wkQ8 [])
  have g79:¬ (s78<(f_.s.cs.length:Int)):=gQ;clear g;replace h:=if_r g79 h;refine Qm (tx (lx (bh ?_)));cases h;exact jn (b:=()) hk78 (wkQ8 [])
 intro b52 hb52;have h:=h52;try rw [← hb52] at h
 clear h52;try dsimp only at h
 refine Q3 (runQ hN fun K hK=>?_);simp;repeat refine sdQ ?_
 refine hK _ (tn (Q7 (st':=⟨[(2,.val (.bool true))],[],0⟩) (wkQ8 []) (Qo ?_)));clear hK K;have hr:=Option.some.inj h;rw [← hr];refine ⟨_,(.tmp .nil),?_⟩;refine ⟨(.one rfl rfl .nil),[.val (.bool true)],[],by simp [Cat.cells,Fn.cells,UA,U1,IA,I1,LA,L1,BA,B1,EA,E1,E2,eB,eI,eL],by simp,(UpL.refl _)⟩
attribute [local simp] unk unA unE unT unC flat eL eI Qr Q16 Cat.cells
noncomputable def Q1L (list_:List Cat):Option Bool :=
 (Qy (σ:=Int) (ε:=Unit ⊕ Bool) (fun s7 =>
  if s7<(list_.length:Int) then
   ass (0≤s7∧s7<(list_.length:Int)) <|
   (Q17 (gx list_ s7)).bind fun v10 =>
   if ¬ (v10=true) then
    some (Ctl.ret (Sum.inr false))
   else
    ass (B64 (s7+1)) <|
    some (Ctl.next (s7+1))
  else
   some (Ctl.ret (Sum.inl ()))) fuel 0).bind fun e1 =>
 match e1 with
 | .inl b1 =>
  some true
 | .inr p1 =>
  some p1
@[simp] abbrev Y1a (a:List Cat) (b:List (Nat × AV)):List (Nat × AV):=(5,.lst true 1 (Es Q16 a))::(6,iV (a.length:Int))::b
theorem Q5z (list_:List Cat) (r:Bool) (h:Q1L list_=some r):Contract Tryz.prog 61 [.lst true 1 (Es Q16 list_)] (.val (.bool r)):=by
 refine Qc (rvs:=[.tmp 2]) (rs:=[.val (.bool r)]) Tryz.func61 rfl rfl rfl rfl (by simp [Tryz.f61]) fun F hN hP=>?_;unfold Q1L at h;refine Q3 (runQ hN fun K hK=>?_);simp;repeat refine sdQ ?_
 refine hK _ ?_;clear hK K;refine tn (Q7 (st':=⟨[(0,.lst true 1 (Es Q16 list_))],[],0⟩) (wkQ8 []) (Q3 (Q3 (runQ hN fun K hK=>?_))));simp;repeat refine sdQ ?_
 refine hK _ (tn (Q7 (st':=⟨Y1a list_ [(7,iV 0)],[],0⟩) (wkQ8 []) ?_));clear hK K;replace ⟨e1,h,h1⟩:=bind_some h;refine Qg (fun b1:Unit=>⟨[],[],0⟩) (fun b1=>Sum.inl b1=e1) ?_ ?_
 ·refine Qa (Qn h (fun s7:Int=>⟨Y1a list_ [(7,iV s7)],[],0⟩) (wkQ8 []) ?_);clear h;intro k7 s7 c7 h hk7;refine Q3 (runQ hN fun K hK=>?_);simp;repeat refine sdQ ?_
  refine hK _ ?_;clear hK K;refine tn (Q3 (Qd rfl (fun g=>?_) fun g=>?_))
  ·have g8:s7<(list_.length:Int):=gQ;clear g;replace h:=if_l g8 h;refine Qe (tn (Q3 (Qa (Q3 (runQ hN fun K hK=>?_)))));replace ⟨a9,h⟩:=Q0 h;simp [at_E (c:=Q16) a9];(repeat refine sdQ ?_);refine hK _ ?_;clear hK K;refine tn (Q7 (st':=⟨(4,.rptr (Cat.cells true (gx list_ s7)))::Y1a list_ [(7,iV s7)],[],0⟩) (wkQ8 []) (Q3 (runQ hN fun K hK=>?_)));simp;(repeat with_reducible refine sdQ ?_);replace ⟨v10,hv10,h⟩:=bind_some h;refine Q6 (Q4g _ v10 hv10) (.cons (.preT (by simp [Cat.cells])) .nil) ?_;simp;(repeat refine sdQ ?_);refine hK _ ?_;clear hK K;refine tn (Q7 (st':=⟨Y1a list_ [(7,iV s7),(13,.val (.bool (!v10)))],[],0⟩) (wkQ8 []) (Qd rfl (fun g=>?_) fun g=>?_))
   ·have g11:¬ (v10=true):=gQ;clear g;replace h:=if_l g11 h;refine Q3 (runQ hN fun K hK=>?_);simp;(repeat refine sdQ ?_);refine hK _ (tn (Q7 (st':=⟨Y0Z [],[],0⟩) (wkQ8 []) (Qo (br (tr (lr (br (tr ?_))))))));clear hK K;cases h;have q:_=e1:=hk7;have h:=h1;rw [← q] at h;clear q;(try dsimp only at h);have hr:=Option.some.inj h;rw [← hr];refine ⟨_,(.tmp .nil),?_⟩;refine ⟨(.one rfl rfl .nil),[.val (.bool false)],[],by simp [Cat.cells,UA,U1,IA,I1,LA,L1,BA,B1,EA,E1,E2,eB,eI,eL],by simp,(UpL.refl _)⟩
   have g11:¬ (¬ (v10=true)):=gQ;clear g;replace h:=if_r g11 h;refine Qe (bn (tn (runQ hN fun K hK=>?_)));replace ⟨a12,h⟩:=Q0 h;simp [Qh a12];(repeat refine sdQ ?_);refine hK _ ?_;clear hK K;cases h;exact rn (s':=s7+1) hk7 (wkQ8 [])
  have g8:¬ (s7<(list_.length:Int)):=gQ;clear g;replace h:=if_r g8 h;refine Qm (tx (lx (bh ?_)));cases h;exact jn (b:=()) hk7 (wkQ8 [])
 intro b1 hb1;have h:=h1;try rw [← hb1] at h
 clear h1;try dsimp only at h
 refine Q3 (runQ hN fun K hK=>?_);simp;repeat refine sdQ ?_
 refine hK _ (tn (Q7 (st':=⟨[(2,.val (.bool true))],[],0⟩) (wkQ8 []) (Qo ?_)));clear hK K;have hr:=Option.some.inj h;rw [← hr];refine ⟨_,(.tmp .nil),?_⟩;refine ⟨(.one rfl rfl .nil),[.val (.bool true)],[],by simp [Cat.cells,UA,U1,IA,I1,LA,L1,BA,B1,EA,E1,E2,eB,eI,eL],by simp,(UpL.refl _)⟩
attribute [local simp] unk unA unE unT unC flat eL eI Qr Q16 Q3k Cat.cells Fn.cells
noncomputable def Q1c (f_:Fn):Option Bool :=
 (
  (Q1L [f_.s,f_.t]).bind fun v2 =>
  if v2=true then
   (Q1W f_).bind fun v4 =>
   some v4
  else
   some false:Option (Bool)).bind fun b1 =>
 some b1
theorem Q4y (f_:Fn) (r:Bool) (h:Q1c f_=some r):Contract Tryz.prog 28 [.rptr (f_.cells true)] (.val (.bool r)):=by
 refine Qc (rvs:=[.tmp 2]) (rs:=[.val (.bool r)]) Tryz.func28 rfl rfl rfl rfl (by simp [Tryz.f28]) fun F hN hP=>?_;unfold Q1c at h;refine Q3 (runQ hN fun K hK=>?_);simp;repeat refine sdQ ?_
 refine hK _ (tn (Q7 (st':=⟨Y0A f_ [],[],0⟩) (wkQ8 []) (Q3 ?_)));clear hK K;replace ⟨e1,h,h1⟩:=bind_some h;refine Qg (fun b1:Bool=>⟨[(2,.val (.bool b1))],[],0⟩) (fun b1=>b1=e1) ?_ ?_
 ·refine runQ hN fun K hK=>?_;simp;repeat with_reducible refine sdQ ?_
  replace ⟨v2,hv2,h⟩:=bind_some h;refine Q6 (Q5z _ v2 hv2) (.cons (.lits (es:=_) rfl (.cons rfl (.cons (.preT (by simp [Cat.cells,Fn.cells])) .nil) (.cons rfl (.cons (.preT (by simp [Cat.cells,Fn.cells])) .nil) .nil)) rfl) .nil) ?_;simp;repeat with_reducible refine sdQ ?_
  refine QZ (fun g=>?_) (fun g=>?_)
  ·have g3:v2=true:=gQ;clear g;replace h:=if_l g3 h;simp;(repeat with_reducible refine sdQ ?_);replace ⟨v4,hv4,h⟩:=bind_some h;refine Q6 (Q5R _ v4 hv4) (.cons (.preT (by simp [Cat.cells,Fn.cells])) .nil) ?_;simp;(repeat refine sdQ ?_);refine hK _ ?_;exact jn (b:=v4) (Option.some.inj h) (wkQ8 [])
  have g3:¬ (v2=true):=gQ;clear g;replace h:=if_r g3 h;simp;repeat refine sdQ ?_
  refine hK _ ?_;exact jn (b:=false) (Option.some.inj h) (wkQ8 [])
 intro b1 hb1;have h:=h1;try rw [← hb1] at h
 clear h1;try dsimp only at h
 refine Qo ?_;have hr:=Option.some.inj h;rw [← hr];refine ⟨_,(.tmp .nil),?_⟩;refine ⟨(.one rfl rfl .nil),[.val (.bool b1)],[],by simp [Cat.cells,Fn.cells,UA,U1,IA,I1,LA,L1,BA,B1,EA,E1,E2,eB,eI,eL],by simp,(UpL.refl _)⟩
attribute [local simp] unk unA unE unT unC flat
noncomputable def Q1S (c_:Cat) (f_:Int) (g_:Int):Option Int :=
 ass (0≤f_∧f_<(c_.cs.length:Int)) <|
 ass (0≤g_∧g_<((rx c_.cs f_).length:Int)) <|
 some (ix (rx c_.cs f_) g_)
@[simp] abbrev Y0i (a b:Int) (c:List (Nat × AV)):List (Nat × AV):=(1,iV a)::(2,iV b)::(3,.adr 0 0 0)::c
theorem Q51 (c_:Cat) (f_:Int) (g_:Int) (r:Int) (h:Q1S c_ f_ g_=some r):Contract Tryz.prog 25 [.agg (c_.cells true),iV f_,iV g_] (iV r):=by
 refine Qc (rvs:=[.tmp 6]) (rs:=[iV r]) Tryz.func25 rfl rfl rfl rfl (by simp [Tryz.f25]) fun F hN hP=>?_;unfold Q1S at h;refine Q3 (runQ hN fun K hK=>?_);simp [eL,eI,Qr,Q16,Cat.cells];repeat refine sdQ ?_
 refine hK _ ?_;clear hK K;refine tn (Q7 (st':=⟨Y0i f_ g_ [],Y0L c_ [],1⟩) (wkQ8 [(0,0)]) (Q3 (runQ hN fun K hK=>?_)));replace ⟨a1,h⟩:=Q0 h;replace ⟨a2,h⟩:=Q0 h;simp [eL,eI,Qr,Q16,Cat.cells,at_L a1,at_I a2];repeat refine sdQ ?_
 refine hK _ (tn (Q7 (st':=⟨[(6,iV (ix (rx c_.cs f_) g_))],[],0⟩) (wkQ8 []) (Qo ?_)));clear hK K;have hr:=Option.some.inj h;rw [← hr];refine ⟨_,(.tmp .nil),?_⟩;refine ⟨(.one rfl rfl .nil),[iV (ix (rx c_.cs f_) g_)],[],by simp [Cat.cells,UA,U1,IA,I1,LA,L1,BA,B1,EA,E1,E2,eB,eI,eL],by simp,(UpL.refl _)⟩
section
attribute [local simp] Ql Q11 QE Q1j QW
structure Para (f g:Fn):Prop where
 hf:f.Is
 hg:g.Is
 s:f.s=g.s
 t:f.t=g.t
theorem e_l02Then {c:Cat} {f g:Int} (h0:0≤f∧f<(c.cs.length:Int)) (h1:0≤g∧g<((rx c.cs f).length:Int)):Q1S c f g=some (ix (rx c.cs f) g):=by
 unfold Q1S;rw [Q4 h0,Q4 h1]
theorem Q8C {c:Cat} {f g:Int} (h0:0≤f∧f<(c.cs.length:Int)) (h1:0≤g∧g<((rx c.cs f).length:Int)):QU c f g=some (ix (rx c.cs f) g):=by
 unfold QU;rw [Q4 h0.1,Q4 h0.2,Q4 h1.1,Q4 h1.2]
theorem e_fits {f:Fn} (h1:f.s.Is) (h2:f.t.Is):Q1W f=some (bo f.Is):=by
 have hs:=h1.1;have ht:=h2.1;have k0:=hs.n0;have k1:=hs.n8;have k2:=hs.m40;have k3:=hs.li;have k4:=hs.lt;have k5:=hs.lc;have k6:=ht.li;have k7:=ht.lt;have k8:=ht.lc;have k9:=ht.m40;have k10:=ht.n0;have k11:=ht.n8;have b1:B64 (f.t.n - 1):=⟨by omega,by omega⟩;have b2:B64 ((f.t.fr.length:Int) - 1):=⟨by omega,by omega⟩;unfold Q1W
 by_cases h3:(f.ob.length:Int)=f.s.n
 case neg=>rw [Q1n (show ¬ f.Is from fun q=>h3 q.lo)];simp [h3]
 by_cases h4:(f.ar.length:Int)=f.s.fr.length
 case neg=>rw [Q1n (show ¬ f.Is from fun q=>h4 (by rw [q.la]))];simp [QN,h3,h4]
 by_cases h5:f.ob.all (inR f.t.n)=true
 case neg=>rw [Q1n (show ¬ f.Is from fun q=>h5 (all_inR.2 q.ob))];simp [QN,Q2R,Q4 b1,h3,h4,h5]
 by_cases h6:f.ar.all (inR f.t.fr.length)=true
 case neg=>rw [Q1n (show ¬ f.Is from fun q=>h6 (all_inR.2 q.ar))];simp [QN,Q2R,Q4 b1,Q4 b2,h3,h4,h5,h6]
 have ho:=all_inR.1 h5;have ha:=all_inR.1 h6;simp only [QN,Q2R,Q4 b1,Q4 b2,h3,h4,h5,h6,Option.bind_some,if_true,if_false,not_true_eq_false,Bool.not_true,Bool.false_eq_true];refine Q2B f.s.fr.length (fun a:Nat=>ix f.t.fr (ix f.ar a)=ix f.ob (ix f.s.fr a)∧ix f.t.to (ix f.ar a)=ix f.ob (ix f.s.to a)) (eb:=Sum.inr false) (eg:=Sum.inl ()) (by omega) (fun a hi hp=>?_) (fun a hi hp=>?_) (by simp) (fun hx=>?_) fun q1=>?_
 ·have:=hs.frn hi;have:=ha a (by omega);simp (disch:=omega) [Q4,B64,hp.1,hp.2,hi]
 ·have:=hs.frn hi;have:=ha a (by omega)
  by_cases hp1:ix f.t.fr (ix f.ar a)=ix f.ob (ix f.s.fr a)
  ·have hp2:¬ ix f.t.to (ix f.ar a)=ix f.ob (ix f.s.to a):=fun h=>hp ⟨hp1,h⟩;simp (disch:=omega) [Q4,B64,hp1,hp2,hi]
  simp (disch:=omega) [Q4,B64,hp1,hi]
 ·rw [Q1n (show ¬ f.Is from fun q=>hx q.ends)]
 simp only;refine Q2B f.s.id.length (fun x:Nat=>ix f.ar (ix f.s.id x)=ix f.t.id (ix f.ob x)) (eb:=Sum.inr false) (eg:=Sum.inl ()) (by omega) (fun a hi hp=>?_) (fun a hi hp=>?_) (by simp) (fun hx=>?_) fun q2=>?_
 ·have:=hs.idn hi;have:=ho a (by omega);simp (disch:=omega) [Q4,B64,hp,hi]
 ·have:=hs.idn hi;have:=ho a (by omega);simp (disch:=omega) [Q4,B64,hp,hi]
 ·rw [Q1n (show ¬ f.Is from fun q=>hx q.ids)]
 simp only;refine Q2B f.s.fr.length (fun a:Nat=>∀ b:Nat,b<f.s.fr.length→ix f.s.to a=ix f.s.fr b→ix f.ar (ix (rx f.s.cs a) b)=ix (rx f.t.cs (ix f.ar a)) (ix f.ar b)) (eb:=Sum.inr false) (eg:=Sum.inl ()) (by omega) (fun a hi hp=>?_) (fun a hi hp=>?_) (by simp;omega) (fun hx=>?_) fun q3=>?_;rotate_left 2
 ·rw [Q1n (show ¬ f.Is from fun q=>hx q.comp)]
 ·rw [Q2L (show f.Is from ⟨h1,h2,h3,by omega,ho,ha,q1,q2,q3⟩)]
 all_goals
  have h8:=ha a (by omega);have h11:=hs.row' (j:=a) (by omega) (by omega);have h12:=ht.row' (j:=ix f.ar a) (by omega) (by omega);rw [if_pos (by omega),Q4 (by omega),Option.bind_assoc];refine Q2B f.s.fr.length (fun b:Nat=>ix f.s.to a=ix f.s.fr b→ix f.ar (ix (rx f.s.cs a) b)=ix (rx f.t.cs (ix f.ar a)) (ix f.ar b)) (eb:=Sum.inl false) (eg:=Sum.inr ()) (by omega) (fun b hb hq=>?_) (fun b hb hq=>?_) ?_ (fun hn=>?_) fun hn=>?_
 all_goals first
  | exact absurd hp hn
  | exact absurd hn hp
  | (simp (disch:=omega) [Q4,B64,h11];done)
  | skip
 all_goals
  have h13:=ha b (by omega);have h16:=hs.cell' (f:=a) (g:=b) (by omega) (by omega) (by omega) (by omega)
  by_cases h14:ix f.s.to a=ix f.s.fr b
  ·have h15:=hs.cmp (f:=a) (g:=b) (by omega) (by omega) (by omega) (by omega) h14;have h17:ix (rx f.s.cs a) b ≥ 0:=h15.1;first
    | (have hq1:=hq h14;simp (disch:=omega) [Q4,B64,Q8C,h14,hq1,hb,h11,h17];done)
    | (have hq1:=fun e=>hq (fun _=>e);simp (disch:=omega) [Q4,B64,Q8C,h14,hq1,hb,h11,h17];exact hq1)
  have h17:=h16.1 h14;first
   | (simp (disch:=omega) [Q4,B64,h14,hb,h11,h17];done)
   | exact absurd (fun e=>absurd e h14) hq
theorem gx_nat {α:Type} [Inhabited α] (xs:List α) {i:Nat} (h:i<xs.length):gx xs i=xs[i]:=by simp [gx,List.getD_eq_getElem?_getD,h]
theorem e_areCats (cs:List Cat) (hl:cs.length≤1048576):Q1L cs=some (bo (∀ c∈cs,c.Is)):=by
 unfold Q1L;refine Q2B cs.length (fun i:Nat=>(gx cs i).Is) (eb:=Sum.inr false) (eg:=Sum.inl ()) (by omega) (fun a hi hp=>?_) (fun a hi hp=>?_) (by simp) (fun hx=>?_) fun q1=>?_
 ·simp (disch:=omega) [Q4,B64,Q17,Q2L hp,hi]
 ·simp (disch:=omega) [Q4,B64,Q17,Q1n hp,hi]
 ·rw [Q1n (show ¬ ∀ c∈cs,c.Is from fun q=>hx fun i hi=>q _ (by rw [gx_nat _ hi];exact List.getElem_mem hi))]
 rw [Q2L (show ∀ c∈cs,c.Is from fun c hc=>by obtain ⟨i,hi,rfl⟩:=List.getElem_of_mem hc;have:=q1 i hi;rwa [gx_nat _ hi] at this)]
theorem Q68 (f:Fn):Q1c f=some (bo f.Is):=by
 unfold Q1c;rw [e_areCats _ (by simp)]
 by_cases h:f.s.Is∧f.t.Is
 ·rw [Q2L (show ∀ c∈[f.s,f.t],c.Is by simpa using h)];simp [e_fits h.1 h.2]
 rw [Q1n (show ¬ ∀ c∈[f.s,f.t],c.Is by simpa using h),Q1n (show ¬ f.Is from fun q=>h ⟨q.s,q.t⟩)];simp
end
section
attribute [local simp] Ql Q11 QE Q1j QW
def tab {α:Type} (n:Nat) (g:Nat→α):List α:=(List.range n).map g
@[simp] theorem Q3Z {α:Type} (n:Nat) (g:Nat→α):(tab n g).length=n:=by simp [tab]
theorem Q1u {α:Type} (n:Nat) (g:Nat→α):tab (n+1) g=tab n g++[g n]:=by simp [tab,List.range_succ]
theorem Q4J {α:Type} (g:Nat→α):tab 0 g=[]:=rfl
theorem Q3R (n:Nat) (g:Nat→Int) {i:Nat} (h:i<n):ix (tab n g) i=g i:=by
 rw [← Q2q _ _ (show i<(tab n g).length by simpa using h)];simp [tab]
end
section
attribute [local simp] Ql Q11 QE Q1j QW
theorem Q1k {α:Type} {n:Nat} {f g:Nat→α} (h:∀ i,i<n→f i=g i):tab n f=tab n g:=by
 unfold tab;exact List.map_congr_left fun i hi=>h i (by simpa using hi)
end
attribute [local simp] unk unA unE unT unC flat eL eI Qr Q16 Cat.cells
noncomputable def Q10 (c_:Cat) (x_:Int) (y_:Int):Option (List Int) :=
 (Qy (σ:=List Int × Int) (ε:=List Int) (fun s11 =>
  if s11.2<(c_.fr.length:Int) then
   (
    (
     ass (0≤s11.2∧s11.2<(c_.fr.length:Int)) <|
     if (ix c_.fr s11.2)=x_ then
      ass (0≤s11.2∧s11.2<(c_.to.length:Int)) <|
      some ((ix c_.to s11.2) == y_)
     else
      some false:Option (Bool)).bind fun b14 =>
    if b14=true then
     ass ((s11.1++[s11.2]).length≤1073741824) <|
     some (s11.1++[s11.2])
    else
     some s11.1:Option (List Int)).bind fun b13 =>
   ass (B64 (s11.2+1)) <|
   some (Ctl.next (b13,s11.2+1))
  else
   some (Ctl.ret s11.1)) fuel ([],0)).bind fun b1 =>
 some b1
theorem Q2o (c_:Cat) (x_:Int) (y_:Int) (r:List Int) (h:Q10 c_ x_ y_=some r):Contract Tryz.prog 37 [.rptr (c_.cells true),iV x_,iV y_] (lI r):=by
 refine Qc (rvs:=[.tmp 6]) (rs:=[lI r]) Tryz.func37 rfl rfl rfl rfl (by simp [Tryz.f37]) fun F hN hP=>?_;unfold Q10 at h;refine Q3 (runQ hN fun K hK=>?_);simp;repeat refine sdQ ?_
 refine hK _ ?_;clear hK K;refine tn (Q7 (st':=⟨Y0j c_ [(1,iV x_),(2,iV y_)],[],0⟩) (wkQ8 []) (Q3 (runQ hN fun K hK=>?_)));simp;repeat refine sdQ ?_
 refine hK _ ?_;clear hK K;refine tn (Q7 (st':=⟨Y0j c_ [(1,iV x_),(2,iV y_),(7,.own 0 0 0)],[(0,.mix 1 [])],1⟩) (wkQ8 [(0,0)]) (Q3 (Q3 (runQ hN fun K hK=>?_))));simp;repeat refine sdQ ?_
 refine hK _ (tn (Q7 (st':=⟨Y0j c_ [(1,iV x_),(2,iV y_),(7,.own 0 0 0),(14,iV (c_.fr.length:Int)),(15,iV 0)],[(0,.mix 1 [])],1⟩) (wkQ8 [(0,0)]) ?_));clear hK K;replace ⟨e1,h,h1⟩:=bind_some h;refine Qg (fun b1:List Int=>⟨[(7,.own 0 0 b1.length)],[(0,rI b1)],1⟩) (fun b1=>b1=e1) ?_ ?_
 ·refine Qa (Qn h (fun s11:List Int × Int=>⟨Y0j c_ [(1,iV x_),(2,iV y_),(7,.own 0 0 s11.1.length),(14,iV (c_.fr.length:Int)),(15,iV s11.2)],[(0,rI s11.1)],1⟩) (Q1J ⟨Y0j c_ [(1,iV x_),(2,iV y_),(7,.own 0 0 0),(14,iV (c_.fr.length:Int)),(15,iV 0)],[(0,rI [])],1⟩ (Wk.nils [] (by simp) (by simp) (by simp [nlA]) (by simp [entN,nlL,nlA,Cat.cells,UA,U1,IA,I1,LA,L1,BA,B1,EA,E1,E2,eB,eI,eL]) (by simp)) (wkQ8 [(0,0)])) ?_);clear h;intro k11 s11 c11 h hk11;refine Q3 (runQ hN fun K hK=>?_);simp;repeat refine sdQ ?_
  refine hK _ ?_;clear hK K;refine tn (Q3 (Qd rfl (fun g=>?_) fun g=>?_))
  ·have g12:s11.2<(c_.fr.length:Int):=gQ;clear g;replace h:=if_l g12 h;refine Qe (tn (Q3 ?_));replace ⟨e13,h,h13⟩:=bind_some h;refine Qg (fun b13:List Int=>⟨Y0j c_ [(1,iV x_),(2,iV y_),(7,.own 0 0 b13.length),(14,iV (c_.fr.length:Int)),(15,iV s11.2)],[(0,rI b13)],1⟩) (fun b13=>b13=e13) ?_ ?_
   ·refine Qa (Q3 (runQ hN fun K hK=>?_));simp;(repeat refine sdQ ?_);refine hK _ (tn (Q7 (st':=⟨Y0j c_ [(1,iV x_),(2,iV y_),(7,.own 0 0 s11.1.length),(8,iV s11.2),(14,iV (c_.fr.length:Int)),(15,iV s11.2)],[(0,rI s11.1)],1⟩) (wkQ8 [(0,0)]) (Q3 ?_)));clear hK K;replace ⟨e14,h,h14⟩:=bind_some h;refine Qg (fun b14:Bool=>⟨Y0j c_ [(1,iV x_),(2,iV y_),(7,.own 0 0 s11.1.length),(8,iV s11.2),(14,iV (c_.fr.length:Int)),(15,iV s11.2),(37,.val (.bool b14))],[(0,rI s11.1)],1⟩) (fun b14=>b14=e14) ?_ ?_
    ·refine runQ hN fun K hK=>?_;replace ⟨a15,h⟩:=Q0 h;simp [at_I a15];(repeat with_reducible refine sdQ ?_);refine QZ (fun g=>?_) (fun g=>?_)
     ·have g16:(ix c_.fr s11.2)=x_:=gQ;clear g;replace h:=if_l g16 h;replace ⟨a17,h⟩:=Q0 h;simp [at_I a15,at_I a17];(repeat refine sdQ ?_);refine hK _ ?_;exact jn (b:=(ix c_.to s11.2) == y_) (Option.some.inj h) (wkQ8 [(0,0)])
     have g16:¬ ((ix c_.fr s11.2)=x_):=gQ;clear g;replace h:=if_r g16 h;simp [at_I a15];(repeat refine sdQ ?_);refine hK _ ?_;exact jn (b:=false) (Option.some.inj h) (wkQ8 [(0,0)])
    intro b14 hb14;have h:=h14;(try rw [← hb14] at h);clear h14;(try dsimp only at h);refine Qd rfl (fun g=>?_) fun g=>?_
    ·have g18:b14=true:=gQ;clear g;replace h:=if_l g18 h;refine runQ hN fun K hK=>?_;replace ⟨a19,h⟩:=Q0 h;(try simp only [List.length_append,List.length_cons,List.length_nil] at a19);simp [a19];(repeat refine sdQ ?_);refine hK _ (bn ?_);clear hK K;exact jn (b:=s11.1++[s11.2]) (Option.some.inj h) (wkQ8 [(2,0)])
    have g18:¬ (b14=true):=gQ;clear g;replace h:=if_r g18 h;refine Qe (bn ?_);exact jn (b:=s11.1) (Option.some.inj h) (wkQ8 [(0,0)])
   intro b13 hb13;have h:=h13;(try rw [← hb13] at h);clear h13;(try dsimp only at h);refine runQ hN fun K hK=>?_;replace ⟨a20,h⟩:=Q0 h;simp [Qh a20];(repeat refine sdQ ?_);refine hK _ ?_;clear hK K;cases h;exact rn (s':=(b13,s11.2+1)) hk11 (wkQ8 [(0,0)])
  have g12:¬ (s11.2<(c_.fr.length:Int)):=gQ;clear g;replace h:=if_r g12 h;refine Qm (tx (lx (bh ?_)));cases h;exact jn (b:=s11.1) hk11 (wkQ8 [(0,0)])
 intro b1 hb1;have h:=h1;try rw [← hb1] at h
 clear h1;try dsimp only at h
 refine Q3 (runQ hN fun K hK=>?_);simp;repeat refine sdQ ?_
 refine hK _ (tn (Q7 (st':=⟨[(6,.own 0 0 b1.length)],[(0,rI b1)],1⟩) (wkQ8 [(0,0)]) (Qo ?_)));clear hK K;have hr:=Option.some.inj h;rw [← hr];refine ⟨_,(.tmp .nil),?_⟩;refine ⟨(.one rfl rfl .nil),[lI b1],[0],by simp [Cat.cells,UA,U1,IA,I1,LA,L1,BA,B1,EA,E1,E2,eB,eI,eL],by simp,(UpL.refl _)⟩
attribute [local simp] unk unA unE unT unC flat eL eI Qr Q16 Cat.cells
noncomputable def Q1y (c_:Cat) (x_:Int) (y_:Int):Option (List Int) :=
 (Qy (σ:=List Int × Int) (ε:=List Int) (fun s11 =>
  if s11.2<(c_.fr.length:Int) then
   (
    (
     ass (0≤s11.2∧s11.2<(c_.fr.length:Int)) <|
     if (ix c_.fr s11.2)=x_ then
      ass (0≤s11.2∧s11.2<(c_.to.length:Int)) <|
      some ((ix c_.to s11.2) == y_)
     else
      some false:Option (Bool)).bind fun b14 =>
    if b14=true then
     ass ((s11.1++[s11.2]).length≤1073741824) <|
     some (s11.1++[s11.2])
    else
     some s11.1:Option (List Int)).bind fun b13 =>
   ass (B64 (s11.2+1)) <|
   some (Ctl.next (b13,s11.2+1))
  else
   some (Ctl.ret s11.1)) fuel ([],0)).bind fun b1 =>
 some b1
theorem Q2w (c_:Cat) (x_:Int) (y_:Int) (r:List Int) (h:Q1y c_ x_ y_=some r):Contract Tryz.prog 23 [.agg (c_.cells true),iV x_,iV y_] (lI r):=by
 refine Qc (rvs:=[.tmp 6]) (rs:=[lI r]) Tryz.func23 rfl rfl rfl rfl (by simp [Tryz.f23]) fun F hN hP=>?_;unfold Q1y at h;refine Q3 (runQ hN fun K hK=>?_);simp;repeat refine sdQ ?_
 refine hK _ ?_;clear hK K;refine tn (Q7 (st':=⟨Y0i x_ y_ [],Y0L c_ [],1⟩) (wkQ8 [(0,0)]) (Q3 (runQ hN fun K hK=>?_)));simp;repeat refine sdQ ?_
 refine hK _ ?_;clear hK K;refine tn (Q7 (st':=⟨Y0i x_ y_ [(7,.own 1 0 0)],Y0L c_ [(1,.mix 1 [])],2⟩) (wkQ8 [(0,0),(1,1)]) (Q3 (Q3 (runQ hN fun K hK=>?_))));simp;repeat refine sdQ ?_
 refine hK _ (tn (Q7 (st':=⟨Y0i x_ y_ [(7,.own 1 0 0),(8,iV 0)],Y0L c_ [(1,.mix 1 [])],2⟩) (wkQ8 [(0,0),(1,1)]) ?_));clear hK K;replace ⟨e1,h,h1⟩:=bind_some h;refine Qg (fun b1:List Int=>⟨[(7,.own 0 0 b1.length)],[(0,rI b1)],1⟩) (fun b1=>b1=e1) ?_ ?_
 ·refine Qa (Qn h (fun s11:List Int × Int=>⟨Y0i x_ y_ [(7,.own 1 0 s11.1.length),(8,iV s11.2)],Y0L c_ [(1,rI s11.1)],2⟩) (Q1J ⟨Y0i x_ y_ [(7,.own 1 0 0),(8,iV 0)],Y0L c_ [(1,rI [])],2⟩ (Wk.nils [] (by simp) (by simp) (by simp [nlA]) (by simp [entN,nlL,nlA,Cat.cells,UA,U1,IA,I1,LA,L1,BA,B1,EA,E1,E2,eB,eI,eL]) (by simp)) (wkQ8 [(0,0),(1,1)])) ?_);clear h;intro k11 s11 c11 h hk11;refine Q3 (Q3 (runQ hN fun K hK=>?_));simp;repeat refine sdQ ?_
  refine hK _ ?_;clear hK K;refine tn (Qd rfl (fun g=>?_) fun g=>?_)
  ·have g12:s11.2<(c_.fr.length:Int):=gQ;clear g;replace h:=if_l g12 h;refine Qe (tn (Q3 ?_));replace ⟨e13,h,h13⟩:=bind_some h;refine Qg (fun b13:List Int=>⟨Y0i x_ y_ [(7,.own 1 0 b13.length),(8,iV s11.2)],Y0L c_ [(1,rI b13)],2⟩) (fun b13=>b13=e13) ?_ ?_
   ·refine Qa (Q3 ?_);replace ⟨e14,h,h14⟩:=bind_some h;refine Qg (fun b14:Bool=>⟨Y0i x_ y_ [(7,.own 1 0 s11.1.length),(8,iV s11.2),(32,.val (.bool b14))],Y0L c_ [(1,rI s11.1)],2⟩) (fun b14=>b14=e14) ?_ ?_
    ·refine runQ hN fun K hK=>?_;replace ⟨a15,h⟩:=Q0 h;simp [at_I a15];(repeat with_reducible refine sdQ ?_);refine QZ (fun g=>?_) (fun g=>?_)
     ·have g16:(ix c_.fr s11.2)=x_:=gQ;clear g;replace h:=if_l g16 h;replace ⟨a17,h⟩:=Q0 h;simp [at_I a15,at_I a17];(repeat refine sdQ ?_);refine hK _ ?_;exact jn (b:=(ix c_.to s11.2) == y_) (Option.some.inj h) (wkQ8 [(0,0),(1,1)])
     have g16:¬ ((ix c_.fr s11.2)=x_):=gQ;clear g;replace h:=if_r g16 h;simp [at_I a15];(repeat refine sdQ ?_);refine hK _ ?_;exact jn (b:=false) (Option.some.inj h) (wkQ8 [(0,0),(1,1)])
    intro b14 hb14;have h:=h14;(try rw [← hb14] at h);clear h14;(try dsimp only at h);refine Qd rfl (fun g=>?_) fun g=>?_
    ·have g18:b14=true:=gQ;clear g;replace h:=if_l g18 h;refine runQ hN fun K hK=>?_;replace ⟨a19,h⟩:=Q0 h;(try simp only [List.length_append,List.length_cons,List.length_nil] at a19);simp [a19];(repeat refine sdQ ?_);refine hK _ (bn ?_);clear hK K;exact jn (b:=s11.1++[s11.2]) (Option.some.inj h) (wkQ8 [(0,0),(3,1)])
    have g18:¬ (b14=true):=gQ;clear g;replace h:=if_r g18 h;refine Qe (bn ?_);exact jn (b:=s11.1) (Option.some.inj h) (wkQ8 [(0,0),(1,1)])
   intro b13 hb13;have h:=h13;(try rw [← hb13] at h);clear h13;(try dsimp only at h);refine runQ hN fun K hK=>?_;replace ⟨a20,h⟩:=Q0 h;simp [Qh a20];(repeat refine sdQ ?_);refine hK _ ?_;clear hK K;cases h;exact rn (s':=(b13,s11.2+1)) hk11 (wkQ8 [(0,0),(1,1)])
  have g12:¬ (s11.2<(c_.fr.length:Int)):=gQ;clear g;replace h:=if_r g12 h;refine Qm (tx (lx (bh ?_)));cases h;exact jn (b:=s11.1) hk11 (wkQ8 [(1,0)])
 intro b1 hb1;have h:=h1;try rw [← hb1] at h
 clear h1;try dsimp only at h
 refine Q3 (runQ hN fun K hK=>?_);simp;repeat refine sdQ ?_
 refine hK _ (tn (Q7 (st':=⟨[(6,.own 0 0 b1.length)],[(0,rI b1)],1⟩) (wkQ8 [(0,0)]) (Qo ?_)));clear hK K;have hr:=Option.some.inj h;rw [← hr];refine ⟨_,(.tmp .nil),?_⟩;refine ⟨(.one rfl rfl .nil),[lI b1],[0],by simp [Cat.cells,UA,U1,IA,I1,LA,L1,BA,B1,EA,E1,E2,eB,eI,eL],by simp,(UpL.refl _)⟩
section
attribute [local simp] Ql Q11 QE Q1j QW
noncomputable def flt (n:Nat) (p:Nat→Prop):List Int:=((List.range n).filter fun i=>bo (p i)).map Int.ofNat
noncomputable def fstN (n:Nat) (p:Nat→Prop):Int:=(((List.range n).find? fun i=>bo (p i)).map Int.ofNat).getD (-1)
theorem Q6d {n:Nat} {p:Nat→Prop} (h:p n):flt (n+1) p=flt n p++[(n:Int)]:=by simp [flt,List.range_succ,Q2L h]
theorem Q6c {n:Nat} {p:Nat→Prop} (h:¬ p n):flt (n+1) p=flt n p:=by simp [flt,List.range_succ,Q1n h]
theorem Q8G (n:Nat) (p:Nat→Prop):(flt n p).length≤n:=by
 unfold flt;rw [List.length_map];exact Nat.le_trans (List.length_filter_le _ _) (by simp)
theorem mem_flt {n:Nat} {p:Nat→Prop} {x:Int}:x∈flt n p↔∃ i:Nat,i<n∧p i∧x=(i:Int):=by
 simp only [flt,List.mem_map,List.mem_filter,List.mem_range,bo_tt];constructor
 ·rintro ⟨i,⟨h1,h2⟩,rfl⟩;exact ⟨i,h1,h2,rfl⟩
 rintro ⟨i,h1,h2,rfl⟩;exact ⟨i,⟨h1,h2⟩,rfl⟩
theorem Q46 (n:Nat) (p:Nat→Prop):(fstN n p = -1∧∀ i,i<n→¬ p i)∨∃ k:Nat,k<n∧p k∧fstN n p=(k:Int):=by
 unfold fstN;cases h:(List.range n).find? fun i=>bo (p i) with
 | none =>
  refine .inl ⟨rfl,fun i hi=>?_⟩;have:=List.find?_eq_none.1 h i (by simpa using hi);simpa [bo_tt] using this
 | some k =>
  have h1:=List.find?_some h;have h2:=List.mem_of_find?_eq_some h;exact .inr ⟨k,by simpa using h2,by simpa [bo_tt] using h1,rfl⟩
theorem e_hom {c:Cat} (h:c.Is) (x y:Int):Q10 c x y=some (flt c.fr.length fun a=>ix c.fr a=x∧ix c.to a=y):=by
 have k1:=h.1.lt;have k2:=h.1.m40;unfold Q10;refine QY c.fr.length (fun i=>flt i fun a=>ix c.fr a=x∧ix c.to a=y) (e:=flt c.fr.length fun a=>ix c.fr a=x∧ix c.to a=y) rfl (by omega) (fun i hi=>?_) (by simp) rfl;have hl:=Q8G i fun a=>ix c.fr a=x∧ix c.to a=y
 by_cases h1:ix c.fr i=x
 ·by_cases h2:ix c.to i=y
  ·rw [Q6d ⟨h1,h2⟩];simp (disch:=omega) [Q4,B64,h1,h2];try omega
  rw [Q6c fun q=>h2 q.2];simp (disch:=omega) [Q4,B64,h1,h2];try omega
 rw [Q6c fun q=>h1 q.1];simp (disch:=omega) [Q4,B64,h1];try omega
theorem e_l02Hom (c:Cat) (x y:Int):Q1y c x y=Q10 c x y:=rfl
def Inv (c:Cat) (f:Int) (g:Nat):Prop:=(ix c.fr g=ix c.to f∧ix c.to g=ix c.fr f)∧ix (rx c.cs f) g=ix c.id (ix c.fr f)∧ix (rx c.cs g) f=ix c.id (ix c.to f)
noncomputable def inv (c:Cat) (f:Int):Int:=fstN c.fr.length (Inv c f)
end
section
attribute [local simp] Ql Q11 QE Q1j QW
theorem Cat.Is.two {c:Cat} (h:c.Is) {f g:Int} (f0:0≤f∧f<c.fr.length) (g0:0≤g∧g<c.fr.length) (e:ix c.to f=ix c.fr g):(0≤ix (rx c.cs f) g∧ix (rx c.cs f) g<c.fr.length)∧ix c.fr (ix (rx c.cs f) g)=ix c.fr f∧ix c.to (ix (rx c.cs f) g)=ix c.to g:=by
 have:=(h.1.cell' f0.1 f0.2 g0.1 g0.2).2 e;exact ⟨⟨this.1,this.2.1⟩,this.2.2⟩
theorem e_Then {c:Cat} (h:c.Is) {f g:Int} (f0:0≤f∧f<c.fr.length) (g0:0≤g∧g<c.fr.length):Q1S c f g=some (ix (rx c.cs f) g)∧QU c f g=some (ix (rx c.cs f) g):=by
 have h1:=h.1.lc;have h2:=h.1.row' f0.1 f0.2;exact ⟨e_l02Then (by omega) (by omega),Q8C (by omega) (by omega)⟩
end
section
attribute [local simp] Ql Q11 QE Q1j QW
abbrev Ar (c:Cat) (f x y:Int):Prop:=(0≤f∧f<(c.fr.length:Int))∧ix c.fr f=x∧ix c.to f=y
theorem Ar.two {c:Cat} (hc:c.Is) {f g x y z:Int} (h1:Ar c f x y) (h2:Ar c g y z):Ar c (ix (rx c.cs f) g) x z:=by
 have:=hc.two h1.1 h2.1 (by rw [h1.2.2,h2.2.1]);exact ⟨this.1,by rw [this.2.1,h1.2.1],by rw [this.2.2,h2.2.2]⟩
theorem Ar.thn {c:Cat} (hc:c.Is) {f g x y z:Int} (h1:Ar c f x y) (h2:Ar c g y z):Q1S c f g=some (ix (rx c.cs f) g)∧QU c f g=some (ix (rx c.cs f) g):=e_Then hc h1.1 h2.1
end
section
attribute [local simp] Ql Q11 QE Q1j QW
theorem mem_ix {xs:List Int} {P:Int→Prop} (h:∀ x∈xs,P x) {i:Nat} (hi:i<xs.length):P (ix xs i):=by
 rw [← Q2q _ _ hi];exact h _ (List.getElem_mem hi)
noncomputable def homL (c:Cat) (x y:Int):List Int:=flt c.fr.length fun a=>ix c.fr a=x∧ix c.to a=y
theorem homL_mem {c:Cat} {x y:Int}:∀ f∈homL c x y,Ar c f x y:=by
 intro f hf;obtain ⟨i,h1,h2,rfl⟩:=mem_flt.1 hf;exact ⟨by omega,h2⟩
theorem Q2m (c:Cat) (x y:Int):(homL c x y).length≤c.fr.length:=Q8G _ _
theorem Q4i {c:Cat} (h:c.Is) (x y:Int):Q1y c x y=some (homL c x y)∧Q10 c x y=some (homL c x y):=⟨by rw [e_l02Hom,e_hom h];rfl,e_hom h x y⟩
end
end Go.Vc.T
