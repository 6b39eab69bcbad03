/- A part of the proof: a verified generator of conditions, and what each function of the program does. -/
import Derived.Test.YtbpjpnccoeedoaaJ7
set_option maxRecDepth 100000
set_option maxHeartbeats 4000000
set_option linter.unusedSimpArgs false
set_option linter.unusedVariables false

namespace Go.Vc.T
open Go Go.Vc Go.Proofs
def Es {α:Type} (c:α→List AV) (xs:List α):List (List AV):=xs.map c
def gx {α:Type} [Inhabited α] (xs:List α) (j:Int):α:=xs.getD j.toNat default
def eB (b:Bool):List AV:=[.val (.bool b)]
def eI (b:Int):List AV:=[iV b]
def eL (x:List (List Int)):List AV:=[.lst true 1 (Ls x)]
section
variable {α:Type} {c:α→List AV}
@[simp] theorem Es_length (xs:List α):(Es c xs).length=xs.length:=by simp [Es]
@[simp] theorem Es_nil:Es c []=[]:=rfl
theorem Es_append (xs ys:List α):Es c (xs++ys)=Es c xs++Es c ys:=by simp [Es]
theorem Es_set' (xs:List α) (i:Nat) (x:α):Es c (xs.set i x)=(Es c xs).set i (c x):=by simp [Es,List.map_set]
theorem at_E [Inhabited α] {xs:List α} {j:Int} (h:0≤j∧j<(xs.length:Int)):(Es c xs)[j.toNat]? = some (c (gx xs j)):=by
 have h2:j.toNat<xs.length:=by omega
 simp [Es,gx,List.getD_eq_getElem?_getD,h2]
end
@[simp] theorem Cs_E (xs:List Cat):Cs xs=Es (Cat.cells true) xs:=rfl
@[simp] theorem Fs_E (xs:List Fn):Fs xs=Es (Fn.cells true) xs:=rfl
@[simp] theorem Ls_nil':Ls []=[]:=rfl
theorem Ls_append (xs ys:List (List Int)):Ls (xs++ys)=Ls xs++Ls ys:=by simp [Ls]
@[simp] theorem Ls_rep0 (n:Nat):Ls (List.replicate n [])=List.replicate n [AV.lst true 1 []]:=by simp [Ls]
theorem at_I {xs:List Int} {j:Int} (h:0≤j∧j<(xs.length:Int)):(Is xs)[j.toNat]? = some [iV (ix xs j)]:=by
 have h2:j.toNat<xs.length:=by omega
 simp [Is,ix,List.getD_eq_getElem?_getD,h2]
theorem at_L {xs:List (List Int)} {j:Int} (h:0≤j∧j<(xs.length:Int)):(Ls xs)[j.toNat]? = some [lI (rx xs j)]:=by
 have h2:j.toNat<xs.length:=by omega
 simp [Ls,rx,List.getD_eq_getElem?_getD,h2]
@[simp] theorem Is_takeE (xs:List Int) (k:Nat):List.take k (Is xs)=Is (xs.take k):=by simp [Is,List.map_take]
@[simp] theorem Ls_takeA (xs:List (List Int)):List.take xs.length (Ls xs)=Ls xs:=List.take_of_length_le (by simp)
@[simp] theorem Us_takeA (xs:List Int):List.take xs.length (Us xs)=Us xs:=List.take_of_length_le (by simp)
@[simp] theorem u8_min:IntKind.u8.min=0:=rfl
@[simp] theorem u8_max:IntKind.u8.max=255:=rfl
@[simp] theorem Bs_nil':Bs []=[]:=rfl
theorem Bs_append (xs ys:List Bool):Bs (xs++ys)=Bs xs++Bs ys:=by simp [Bs]
theorem IA (xs ys:List Int):Is (xs++ys)=Is xs++Is ys:=Is_append xs ys
theorem I1 (x:Int) (xs:List Int):Is (x :: xs)=[iV x] :: Is xs:=rfl
theorem LA (xs ys:List (List Int)):Ls (xs++ys)=Ls xs++Ls ys:=Ls_append xs ys
theorem L1 (x:List Int) (xs:List (List Int)):Ls (x :: xs)=[lI x] :: Ls xs:=rfl
theorem BA (xs ys:List Bool):Bs (xs++ys)=Bs xs++Bs ys:=Bs_append xs ys
theorem B1 (x:Bool) (xs:List Bool):Bs (x :: xs)=[.val (.bool x)] :: Bs xs:=rfl
theorem EA {α:Type} {c:α→List AV} (xs ys:List α):Es c (xs++ys)=Es c xs++Es c ys:=Es_append xs ys
theorem E1 {α:Type} {c:α→List AV} (x:α) (xs:List α):Es c (x :: xs)=c x :: Es c xs:=rfl
theorem Es_stG {α:Type} {c:α→List AV} {xs:List α} {i:Nat} {x:α} {bs:List AV} (h:c x=bs):(Es c xs).set i bs=Es c (xs.set i x):=by rw [Es_set',h]
theorem E2 {α:Type} {c:α→List AV} (xs:List α) (i:Nat) (x:α):Es c (xs.set i x)=(Es c xs).set i (c x):=Es_set' xs i x
theorem rlLL_c {α:Type} {m:List (Nat × Nat)} {c:α→List AV} (h:∀ x,rlL m (c x)=c x):∀ xs:List α,rlLL m (xs.map c)=xs.map c:=by
 intro xs
 induction xs with
 | nil=>rfl
 | cons a r ih=>simp only [List.map_cons,rlLL,h,ih]
@[simp] theorem Qt {α:Type} (m:List (Nat × Nat)) (c:α→List AV) (xs:List α) (h:∀ x,rlL m (c x)=c x):rlLL m (Es c xs)=Es c xs:=rlLL_c h xs
theorem Ls_st {xss:List (List Int)} {i:Nat} {x:List Int}:(Ls xss).set i (((Ls xss).getD i []).set 0 (lI x))=Ls (xss.set i x):=by
 by_cases h:i<xss.length
 ·rw [← Ls_set];congr 1;simp [Ls,List.getD_eq_getElem?_getD,h]
 rw [List.set_eq_of_length_le (by simp;omega),List.set_eq_of_length_le (by omega)]
def QH (x:Cat):List AV:=[.rptr (x.cells true)]
def Q2e (x:Fn):List AV:=[.rptr (x.cells true)]
def Q3H (x:Fam):List AV:=[.rptr (x.cells true)]
instance:Inhabited Cat:=⟨⟨0,[],[],[],[]⟩⟩
instance:Inhabited Fn:=⟨⟨default,default,[],[]⟩⟩
structure Ends where
 a:Int
 b:Int
def Ends.cells (u:Bool) (f:Ends):List AV:=[iV f.a,iV f.b]
structure Prf where
 s:Cat
 t:Cat
 sz:List (List Int)
 bf:List (List (List Int))
 bh:List (List (List Int))
def Prf.cells (u:Bool) (f:Prf):List AV:=[iV f.s.n,.lst u 1 (Is f.s.fr),.lst u 1 (Is f.s.to),.lst u 1 (Is f.s.id),.lst u 1 (Ls f.s.cs),iV f.t.n,.lst u 1 (Is f.t.fr),.lst u 1 (Is f.t.to),.lst u 1 (Is f.t.id),.lst u 1 (Ls f.t.cs),.lst u 1 (Ls f.sz),.lst u 1 (Es eL f.bf),.lst u 1 (Es eL f.bh)]
structure XTerm where
 variable_:Int
 arrow_:Int
def XTerm.cells (u:Bool) (f:XTerm):List AV:=[iV f.variable_,iV f.arrow_]
structure XQuery where
 variables_:List Int
 left_:List XTerm
 right_:List XTerm
 output_:List Int
def XQuery.cells (u:Bool) (f:XQuery):List AV:=[.lst u 1 (Is f.variables_),.lst u 2 (Es (XTerm.cells true) f.left_),.lst u 2 (Es (XTerm.cells true) f.right_),.lst u 1 (Is f.output_)]
structure XL20Space where
 c_:Cat
 objects_:List (List Int)
 arrows_:List (List Int)
def XL20Space.cells (u:Bool) (f:XL20Space):List AV:=[iV f.c_.n,.lst u 1 (Is f.c_.fr),.lst u 1 (Is f.c_.to),.lst u 1 (Is f.c_.id),.lst u 1 (Ls f.c_.cs),.lst u 1 (Ls f.objects_),.lst u 1 (Ls f.arrows_)]
instance:Inhabited XL20Space:=⟨⟨default,default,default⟩⟩
def Qx (x:XL20Space):List AV:=[.rptr (x.cells true)]
structure XPairint64 where
 first_:Int
 second_:Int
def XPairint64.cells (u:Bool) (f:XPairint64):List AV:=[iV f.first_,iV f.second_]
structure XTotal where
 category_:Cat
 objects_:List (List Int)
 arrows_:List (List Int)
def XTotal.cells (u:Bool) (f:XTotal):List AV:=[iV f.category_.n,.lst u 1 (Is f.category_.fr),.lst u 1 (Is f.category_.to),.lst u 1 (Is f.category_.id),.lst u 1 (Ls f.category_.cs),.lst u 1 (Ls f.objects_),.lst u 1 (Ls f.arrows_)]
instance:Inhabited XTotal:=⟨⟨default,default,default⟩⟩
def Q59 (x:XTotal):List AV:=[.rptr (x.cells true)]
@[simp] theorem bf_220_9:byS Try.prog 220 9=some 5:=by kernel_rfl
@[simp] theorem ef_51:elm Try.prog 51=some 25:=by kernel_rfl
@[simp] theorem ef_52:elm Try.prog 52=some 40:=by kernel_rfl
@[simp] theorem ef_58:elm Try.prog 58=some 30:=by kernel_rfl
@[simp] theorem ef_59:elm Try.prog 59=some 44:=by kernel_rfl
@[simp] theorem ef_220:elm Try.prog 220=some 5:=by kernel_rfl
@[simp] theorem ef_223:elm Try.prog 223=some 101:=by kernel_rfl
@[simp] theorem ff_40_0:fld Try.prog 40 0=some (0,5,true):=by kernel_rfl
@[simp] theorem ff_40_1:fld Try.prog 40 1=some (5,5,true):=by kernel_rfl
@[simp] theorem ff_40_2:fld Try.prog 40 2=some (10,1,false):=by kernel_rfl
@[simp] theorem ff_40_3:fld Try.prog 40 3=some (11,1,false):=by kernel_rfl
@[simp] theorem ff_44_0:fld Try.prog 44 0=some (0,5,true):=by kernel_rfl
@[simp] theorem ff_44_1:fld Try.prog 44 1=some (5,5,true):=by kernel_rfl
@[simp] theorem ff_44_2:fld Try.prog 44 2=some (10,1,false):=by kernel_rfl
@[simp] theorem ff_44_3:fld Try.prog 44 3=some (11,1,false):=by kernel_rfl
@[simp] theorem ff_54_0:fld Try.prog 54 0=some (0,5,true):=by kernel_rfl
@[simp] theorem ff_54_1:fld Try.prog 54 1=some (5,1,false):=by kernel_rfl
@[simp] theorem ff_54_2:fld Try.prog 54 2=some (6,1,false):=by kernel_rfl
@[simp] theorem ff_61_0:fld Try.prog 61 0=some (0,5,true):=by kernel_rfl
@[simp] theorem ff_61_1:fld Try.prog 61 1=some (5,1,false):=by kernel_rfl
@[simp] theorem ff_61_2:fld Try.prog 61 2=some (6,1,false):=by kernel_rfl
@[simp] theorem ff_123_0:fld Try.prog 123 0=some (0,5,true):=by kernel_rfl
@[simp] theorem ff_123_1:fld Try.prog 123 1=some (5,1,false):=by kernel_rfl
@[simp] theorem ff_123_2:fld Try.prog 123 2=some (6,1,false):=by kernel_rfl
@[simp] theorem ff_132_0:fld Try.prog 132 0=some (0,5,true):=by kernel_rfl
@[simp] theorem ff_132_1:fld Try.prog 132 1=some (5,1,false):=by kernel_rfl
@[simp] theorem ff_132_2:fld Try.prog 132 2=some (6,1,false):=by kernel_rfl
@[simp] theorem kf_2:intk Try.prog 2=some .i64:=by kernel_rfl
@[simp] theorem kf_5:intk Try.prog 5=some .u8:=by kernel_rfl
@[simp] theorem mf_176:mty Try.prog 176=some (.str,.int .i64 0):=by kernel_rfl
@[simp] theorem en_30:elm Try.prog 30=none:=by kernel_rfl
@[simp] theorem en_44:elm Try.prog 44=none:=by kernel_rfl
@[simp] theorem pf_44:Q3K Try.prog 44=some [(0,5),(5,5),(10,1),(11,1)]:=by kernel_rfl
@[simp] theorem pf_123:Q3K Try.prog 123=some [(0,5),(5,1),(6,1)]:=by kernel_rfl
@[simp] theorem pf_132:Q3K Try.prog 132=some [(0,5),(5,1),(6,1)]:=by kernel_rfl
@[simp] theorem rp_30 (n:Nat):List.replicate n [iV 0,.lst true 1 [],.lst true 1 [],.lst true 1 [],.lst true 1 []]=Es (Cat.cells true) (List.replicate n default):=by simp [Es];exact .inr rfl
@[simp] theorem rp_44 (n:Nat):List.replicate n [iV 0,.lst true 1 [],.lst true 1 [],.lst true 1 [],.lst true 1 [],iV 0,.lst true 1 [],.lst true 1 [],.lst true 1 [],.lst true 1 [],.lst true 1 [],.lst true 1 []]=Es (Fn.cells true) (List.replicate n default):=by simp [Es];exact .inr rfl
@[simp] theorem tf_5:tyi Try.prog 5=some ⟨false,1,1,[.int .u8 0]⟩:=by kernel_rfl
@[simp] theorem tf_22:tyi Try.prog 22=some ⟨false,1,24,[.slice none 0 0]⟩:=by kernel_rfl
@[simp] theorem tf_30:tyi Try.prog 30=some ⟨true,5,104,[.int .i64 0,.slice none 0 0,.slice none 0 0,.slice none 0 0,.slice none 0 0]⟩:=by kernel_rfl
@[simp] theorem tf_40:tyi Try.prog 40=some ⟨true,12,256,[.int .i64 0,.slice none 0 0,.slice none 0 0,.slice none 0 0,.slice none 0 0,.int .i64 0,.slice none 0 0,.slice none 0 0,.slice none 0 0,.slice none 0 0,.slice none 0 0,.slice none 0 0]⟩:=by kernel_rfl
@[simp] theorem Q3U:tyi Try.prog 44=some ⟨true,12,256,[.int .i64 0,.slice none 0 0,.slice none 0 0,.slice none 0 0,.slice none 0 0,.int .i64 0,.slice none 0 0,.slice none 0 0,.slice none 0 0,.slice none 0 0,.slice none 0 0,.slice none 0 0]⟩:=by kernel_rfl
@[simp] theorem tf_51:tyi Try.prog 51=some ⟨false,1,24,[.slice none 0 0]⟩:=by kernel_rfl
@[simp] theorem tf_52:tyi Try.prog 52=some ⟨false,1,24,[.slice none 0 0]⟩:=by kernel_rfl
@[simp] theorem tf_58:tyi Try.prog 58=some ⟨false,1,24,[.slice none 0 0]⟩:=by kernel_rfl
@[simp] theorem tf_59:tyi Try.prog 59=some ⟨false,1,24,[.slice none 0 0]⟩:=by kernel_rfl
@[simp] theorem tf_61:tyi Try.prog 61=some ⟨true,7,152,[.int .i64 0,.slice none 0 0,.slice none 0 0,.slice none 0 0,.slice none 0 0,.slice none 0 0,.slice none 0 0]⟩:=by kernel_rfl
@[simp] theorem tf_101:tyi Try.prog 101=some ⟨false,1,8,[.pointer none]⟩:=by kernel_rfl
@[simp] theorem tf_123:tyi Try.prog 123=some ⟨true,7,152,[.int .i64 0,.slice none 0 0,.slice none 0 0,.slice none 0 0,.slice none 0 0,.slice none 0 0,.slice none 0 0]⟩:=by kernel_rfl
@[simp] theorem tf_128:tyi Try.prog 128=some ⟨false,1,8,[.pointer none]⟩:=by kernel_rfl
@[simp] theorem tf_132:tyi Try.prog 132=some ⟨true,7,152,[.int .i64 0,.slice none 0 0,.slice none 0 0,.slice none 0 0,.slice none 0 0,.slice none 0 0,.slice none 0 0]⟩:=by kernel_rfl
@[simp] theorem tf_172:tyi Try.prog 172=some ⟨false,1,8,[.pointer none]⟩:=by kernel_rfl
@[simp] theorem tf_176:tyi Try.prog 176=some ⟨false,1,8,[.map none]⟩:=by kernel_rfl
noncomputable def Q10 (xs:List Int):Option (List Int) :=
 ass (xs.length≤1048576) <| some (xs)
theorem Q2c (xs:List Int) (r:List Int) (h:Q10 xs=some r):Contract Try.prog 76 [lI xs] (lI r):=by
 unfold Q10 at h;replace h:=Q5 h;obtain ⟨hx,h⟩:=h;cases h;exact c19 true xs hx
noncomputable def Q1W (xs:List Int) (n:Int):Option (Bool) :=
 ass (B64 (n - 1)) <| some ((xs.all (inR n)))
theorem Q5Y (xs:List Int) (n:Int) (r:Bool) (h:Q1W xs n=some r):Contract Try.prog 186 [lI xs,iV n] (.val (.bool r)):=by
 unfold Q1W at h;replace h:=Q5 h;obtain ⟨hn,h⟩:=h;cases h;exact c22 true xs n hn
noncomputable def Q2o (xss:List (List Int)):Option (List (List Int)) :=
 ass (xss.length≤1048576) <| ass (∀ xs∈xss,xs.length≤1048576) <| some (xss)
theorem Q6s (xss:List (List Int)) (r:List (List Int)) (h:Q2o xss=some r):Contract Try.prog 60 [.lst true 1 (Ls xss)] (.lst true 1 (Ls r)):=by
 unfold Q2o at h;replace h:=Q5 h;obtain ⟨hx,h⟩:=h;replace h:=Q5 h;obtain ⟨hx',h⟩:=h;cases h;exact c20 true xss hx hx'
noncomputable def Q29 (xs:List Int) (l:Int):Option (Int) :=
 ass (0≤l) <| ass (l≤1048576) <| some ((less l xs.length))
theorem Q4H (xs:List Int) (l:Int) (r:Int) (h:Q29 xs l=some r):Contract Try.prog 72 [lI xs,iV l] (iV r):=by
 unfold Q29 at h;replace h:=Q5 h;obtain ⟨h1,h⟩:=h;replace h:=Q5 h;obtain ⟨h2,h⟩:=h;cases h;exact c14 true xs l h1 h2
noncomputable def QS (c:Cat) (l:Int):Option (Int) :=
 ass (0≤l) <| ass (l≤1048576) <| some ((Q1n l c))
theorem Q22 (c:Cat) (l:Int) (r:Int) (h:QS c l=some r):Contract Try.prog 42 [.agg (c.cells true),iV l] (iV r):=by
 unfold QS at h;replace h:=Q5 h;obtain ⟨h1,h⟩:=h;replace h:=Q5 h;obtain ⟨h2,h⟩:=h;cases h;exact c13 true c l h1 h2
noncomputable def Q1X (n:Int) (xs:List Int):Option (Bool) :=
 some ((xs.all (inR n)))
theorem Q5Z (n:Int) (xs:List Int) (r:Bool) (h:Q1X n xs=some r):Contract Try.prog 130 [iV n,lI xs] (.val (.bool r)):=by
 unfold Q1X at h;cases h;exact c57 true xs n
noncomputable def Q2R (xs:List Int):Option (List Int) :=
 ass (xs.length≤1048576) <| some (xs)
theorem Q60 (xs:List Int) (r:List Int) (h:Q2R xs=some r):Contract Try.prog 134 [lI xs] (lI r):=by
 unfold Q2R at h;replace h:=Q5 h;obtain ⟨hx,h⟩:=h;cases h;exact c58 true xs hx
noncomputable def Q3o (xs:List Int):Option (List Int) :=
 ass (xs.length≤1048576) <| some (xs)
theorem Q7j (xs:List Int) (r:List Int) (h:Q3o xs=some r):Contract Try.prog 67 [lI xs] (lI r):=by
 unfold Q3o at h;replace h:=Q5 h;obtain ⟨hx,h⟩:=h;cases h;exact c47 true xs hx
noncomputable def Qr (c:Cat):Option (Int) :=
 some (c.fr.length)
theorem QX (c:Cat) (r:Int) (h:Qr c=some r):Contract Try.prog 143 [.rptr (c.cells true)] (iV r):=by
 unfold Qr at h;cases h;have q:=c61 true c [];simp only [List.append_nil] at q;exact q
noncomputable def Q2S (c:Cat):Option (Cat) :=
 ass (c.ok) <| some (c)
theorem Q62 (c:Cat) (r:Cat) (h:Q2S c=some r):Contract Try.prog 133 [.agg (c.cells true)] (.agg (r.cells true)):=by
 unfold Q2S at h;replace h:=Q5 h;obtain ⟨hc,h⟩:=h;cases h;exact c41 true c hc
noncomputable def Q15 (c:Cat):Option (Cat) :=
 ass (c.ok) <| some (c)
theorem Q2U (c:Cat) (r:Cat) (h:Q15 c=some r):Contract Try.prog 129 [.rptr (c.cells true)] (.agg (r.cells true)):=by
 unfold Q15 at h;replace h:=Q5 h;obtain ⟨hc,h⟩:=h;cases h;have q:=c23 true c [] hc;simp only [List.append_nil] at q;exact q
noncomputable def QA (c:Cat) (f:Int) (g:Int):Option (Int) :=
 ass (0≤f) <| ass (f<c.cs.length) <| ass (0≤g) <| ass (g<(rx c.cs f).length) <| some ((ix (rx c.cs f) g))
theorem Q1Z (c:Cat) (f:Int) (g:Int) (r:Int) (h:QA c f g=some r):Contract Try.prog 128 [.rptr (c.cells true),iV f,iV g] (iV r):=by
 unfold QA at h;replace h:=Q5 h;obtain ⟨h1,h⟩:=h;replace h:=Q5 h;obtain ⟨h2,h⟩:=h;replace h:=Q5 h;obtain ⟨h3,h⟩:=h;replace h:=Q5 h;obtain ⟨h4,h⟩:=h;cases h;have q:=c69 true c [] f g h1 h2 h3 h4;simp only [List.append_nil] at q;exact q
noncomputable def Q11 (c:Cat):Option (Bool) :=
 some ((bo c.Is))
theorem Q4m (c:Cat) (r:Bool) (h:Q11 c=some r):Contract Try.prog 116 [.agg (c.cells true)] (.val (.bool r)):=by
 unfold Q11 at h;cases h;exact c55 true c
noncomputable def Qy (c:Cat):Option (Bool) :=
 some ((bo c.Is))
theorem Q1c (c:Cat) (r:Bool) (h:Qy c=some r):Contract Try.prog 142 [.rptr (c.cells true)] (.val (.bool r)):=by
 unfold Qy at h;cases h;have q:=c60 true c [];simp only [List.append_nil] at q;exact q
noncomputable def Q1C (xs:List Int) (ys:List Int):Option (Bool) :=
 some ((decide (xs=ys)))
theorem Q40 (xs:List Int) (ys:List Int) (r:Bool) (h:Q1C xs ys=some r):Contract Try.prog 131 [lI xs,lI ys] (.val (.bool r)):=by
 unfold Q1C at h;cases h;exact n54 true true xs ys
noncomputable def Q1m (c:Cat) (d:Cat):Option (Bool) :=
 some ((bo (c=d)))
theorem Q3a (c:Cat) (d:Cat) (r:Bool) (h:Q1m c d=some r):Contract Try.prog 74 [.agg (c.cells true),.agg (d.cells true)] (.val (.bool r)):=by
 unfold Q1m at h;cases h;exact n53 true true c d
noncomputable def Q2y (f:List Int) (g:List Int):Option (List Int) :=
 ass (f.length≤1048576) <| ass (∀ y∈f,0≤y∧y<(g.length:Int)) <| some ((Q1q f g))
theorem Q5v (f:List Int) (g:List Int) (r:List Int) (h:Q2y f g=some r):Contract Try.prog 184 [lI f,lI g] (lI r):=by
 unfold Q2y at h;replace h:=Q5 h;obtain ⟨hx,h⟩:=h;replace h:=Q5 h;obtain ⟨hg,h⟩:=h;cases h;exact n58 true true f g hx hg
noncomputable def Q4i (f:List Int) (g:List Int):Option (List Int) :=
 ass (f.length≤1048576) <| ass (∀ y∈f,0≤y∧y<(g.length:Int)) <| some ((Q1q f g))
theorem Q8W (f:List Int) (g:List Int) (r:List Int) (h:Q4i f g=some r):Contract Try.prog 124 [lI f,lI g] (lI r):=by
 unfold Q4i at h;replace h:=Q5 h;obtain ⟨hx,h⟩:=h;replace h:=Q5 h;obtain ⟨hg,h⟩:=h;cases h;exact n65 true true f g hx hg
noncomputable def Q4h (xs:List Int) (ys:List Int):Option (Bool) :=
 some ((decide (xs=ys)))
theorem Q8V (xs:List Int) (ys:List Int) (r:Bool) (h:Q4h xs ys=some r):Contract Try.prog 125 [lI xs,lI ys] (.val (.bool r)):=by
 unfold Q4h at h;cases h;exact n62 true true xs ys
noncomputable def QI (c:Cat) (d:Cat):Option (Bool) :=
 ass (c.cs.length≤1048576) <| some ((bo (c=d)))
theorem Q1y (c:Cat) (d:Cat) (r:Bool) (h:QI c d=some r):Contract Try.prog 78 [.rptr (c.cells true),.rptr (d.cells true)] (.val (.bool r)):=by
 unfold QI at h;replace h:=Q5 h;obtain ⟨hl,h⟩:=h;cases h;have q:=n61 true true c d [] [] hl;simp only [List.append_nil] at q;exact q
@[simp] theorem ass_true {α:Type} {k:Option α}:ass True k=k:=Q9 trivial
theorem bo_tt (p:Prop):(bo p=true)=p:=by simp [bo]
theorem QD {p:Prop} (h:p):bo p=true:=by simp [bo,h]
theorem Qm {p:Prop} (h:¬ p):bo p=false:=by simp [bo,h]
theorem loop_go {σ ε:Type} {body:σ→Option (Ctl σ ε)} (g:Nat→σ) (m:Nat):∀ (k:Nat),m≤k→(∀ i,i<m→body (g i)=some (.next (g (i+1))))→QC body k (g 0)=QC body (k - m) (g m):=by
 induction m with
 | zero=>intro k _ _;rfl
 | succ m ih =>
  intro k hk h;rw [ih k (by omega) fun i hi=>h i (by omega)];obtain ⟨j,hj⟩:∃ j,k - m=j+1:=⟨k - m - 1,by omega⟩;rw [hj,show k - (m+1)=j by omega];simp only [QC,h m (by omega)]
theorem Q3y {σ ε:Type} {body:σ→Option (Ctl σ ε)} (g:Nat→σ) (n:Nat) {e:ε} {s0:σ} (h0:s0=g 0) (hn:n<4611686018427387904) (h:∀ i,i<n→body (g i)=some (.next (g (i+1)))) (he:body (g n)=some (.ret e)):QC body fuel s0=some e:=by
 subst h0;rw [loop_go g n fuel (by unfold fuel;omega) h];obtain ⟨j,hj⟩:∃ j,fuel - n=j+1:=⟨fuel - n - 1,by unfold fuel;omega⟩;rw [hj];simp only [QC,he]
theorem Q8F {ε:Type} {body:Int→Option (Ctl Int ε)} (n:Nat) (p:Nat→Prop) {eb eg:ε} (hn:n<4611686018427387904) (h1:∀ i:Nat,i<n→p i→body (i:Int)=some (.next ((i:Int)+1))) (h2:∀ i:Nat,i<n→¬ p i→body (i:Int)=some (.ret eb)) (h3:body (n:Int)=some (.ret eg)) :
  QC body fuel 0=some (@ite _ (∀ i:Nat,i<n→p i) (Classical.propDecidable _) eg eb):=by
 by_cases hall:∀ i:Nat,i<n→p i
 ·rw [if_pos hall];exact Q3y (fun i:Nat=>(i:Int)) n rfl hn (fun i hi=>h1 i hi (hall i hi)) h3
 rw [if_neg hall];have hex:∃ i,i<n∧¬ p i:=Classical.byContradiction fun hx=>hall fun i hi=>Classical.byContradiction fun hp=>hx ⟨i,hi,hp⟩;obtain ⟨m,⟨hm,hp⟩,hmin⟩:∃ m,(m<n∧¬ p m)∧∀ k,k<m→¬ (k<n∧¬ p k):=by
  obtain ⟨i,hi⟩:=hex
  induction i using Nat.strongRecOn with
  | _ i ih =>
   by_cases h:∃ k,k<i∧k<n∧¬ p k
   ·obtain ⟨k,h1,h2⟩:=h;exact ih k h1 h2
   exact ⟨i,hi,fun k hk hh=>h ⟨k,hk,hh⟩⟩
 exact Q3y (fun i:Nat=>(i:Int)) m rfl (by omega) (fun i hi=>h1 i (by omega) (Classical.byContradiction fun hh=>hmin i hi ⟨by omega,hh⟩)) (h2 m hm hp)
theorem loop_fst {ε:Type} {body:Int→Option (Ctl Int ε)} (n:Nat) (p:Nat→Prop) {eb:Nat→ε} {eg:ε} (hn:n<4611686018427387904) (h1:∀ i:Nat,i<n→p i→body (i:Int)=some (.next ((i:Int)+1))) (h2:∀ i:Nat,i<n→¬ p i→body (i:Int)=some (.ret (eb i))) (h3:body (n:Int)=some (.ret eg)) :
  ((∀ i:Nat,i<n→p i)∧QC body fuel 0=some eg)∨∃ m,m<n∧¬ p m∧(∀ k,k<m→p k)∧QC body fuel 0=some (eb m):=by
 by_cases hall:∀ i:Nat,i<n→p i
 ·exact .inl ⟨hall,Q3y (fun i:Nat=>(i:Int)) n rfl hn (fun i hi=>h1 i hi (hall i hi)) h3⟩
 right;have hex:∃ i,i<n∧¬ p i:=Classical.byContradiction fun hx=>hall fun i hi=>Classical.byContradiction fun hp=>hx ⟨i,hi,hp⟩;obtain ⟨m,⟨hm,hp⟩,hmin⟩:∃ m,(m<n∧¬ p m)∧∀ k,k<m→¬ (k<n∧¬ p k):=by
  obtain ⟨i,hi⟩:=hex
  induction i using Nat.strongRecOn with
  | _ i ih =>
   by_cases h:∃ k,k<i∧k<n∧¬ p k
   ·obtain ⟨k,h1,h2⟩:=h;exact ih k h1 h2
   exact ⟨i,hi,fun k hk hh=>h ⟨k,hk,hh⟩⟩
 have hlt:∀ k,k<m→p k:=fun k hk=>Classical.byContradiction fun hh=>hmin k hk ⟨by omega,hh⟩;exact ⟨m,hm,hp,hlt,Q3y (fun i:Nat=>(i:Int)) m rfl (by omega) (fun i hi=>h1 i (by omega) (hlt i hi)) (h2 m hm hp)⟩
theorem loop_acc {α ε:Type} {body:α × Int→Option (Ctl (α × Int) ε)} (g:Nat→α) (n:Nat) {e:ε} {a0:α} (h0:a0=g 0) (hn:n<4611686018427387904) (h:∀ i:Nat,i<n→body (g i,(i:Int))=some (.next (g (i+1),(i:Int)+1))) (he:body (g n,(n:Int))=some (.ret e)):QC body fuel (a0,0)=some e:=by
 subst h0;exact Q3y (fun i:Nat=>(g i,(i:Int))) n rfl hn h he
theorem all_inR {xs:List Int} {n:Int}:xs.all (inR n)=true↔∀ j:Nat,j<xs.length→0≤ix xs j∧ix xs j<n:=by
 rw [List.all_eq_true];constructor
 ·intro h j hj;have:=h _ (List.getElem_mem hj);rw [Q1p _ _ hj] at this;simp only [inR,Bool.and_eq_true,decide_eq_true_eq] at this;omega
 intro h x hx;obtain ⟨i,hi,rfl⟩:=List.getElem_of_mem hx;rw [Q1p _ _ hi];have:=h i hi;simp only [inR,Bool.and_eq_true,decide_eq_true_eq];omega
theorem Q2j {ε β:Type} {body:Int→Option (Ctl Int ε)} {K:ε→Option β} {r:β} (n:Nat) (p:Nat→Prop) {eb eg:ε} (hn:n<4611686018427387904) (h1:∀ i:Nat,i<n→p i→body (i:Int)=some (.next ((i:Int)+1))) (h2:∀ i:Nat,i<n→¬ p i→body (i:Int)=some (.ret eb)) (h3:body (n:Int)=some (.ret eg))
  (hb:(¬ ∀ i:Nat,i<n→p i)→K eb=some r) (hg:(∀ i:Nat,i<n→p i)→K eg=some r):(QC body fuel 0).bind K=some r:=by
 rw [Q8F n p hn h1 h2 h3]
 by_cases h:∀ i:Nat,i<n→p i
 ·rw [if_pos h];exact hg h
 rw [if_neg h];exact hb h
theorem QG {α ε β:Type} {body:α × Int→Option (Ctl (α × Int) ε)} {K:ε→Option β} {r:Option β} {a0:α} (n:Nat) (g:Nat→α) {e:ε} (h0:a0=g 0) (hn:n<4611686018427387904) (h:∀ i:Nat,i<n→body (g i,(i:Int))=some (.next (g (i+1),(i:Int)+1))) (he:body (g n,(n:Int))=some (.ret e)) (hk:K e=r):(QC body fuel (a0,0)).bind K=r:=by
 rw [loop_acc g n h0 hn h he];exact hk
theorem Contract.good {P : Program} {f : Nat} {av : List AV} {res : AV} (k : Nat) (hk : k < av.length) (he : ∃ fn, P.funcs[f]? = some fn ∧ (fn.name == "runtime.NumGoroutine") = false ∧ fn.body.isSome = true) (h : Good (av.getD k .bot) → Contract P f av res) : Contract P f av res :=
 ⟨he,fun w R vals hR hv hx=>(h (hx k hk).good).calls w R vals hR hv hx⟩
theorem Q71 {α:Type} (xs:List α) (k:Nat) (v z:α) {i:Nat} (h:i=xs.length):(xs++List.replicate (k+1) z).set i v=(xs++[v])++List.replicate k z:=by
 subst h;simp [List.replicate_succ]
theorem nrun_bind {σ ε β:Type} {body:σ→Option (Ctl σ ε)} {K:ε→Option β} {r:Option β} {s0:σ} (n:Nat) (g:Nat→σ) {e:ε} (h0:s0=g 0) (hn:n<4611686018427387904) (h:∀ i:Nat,i<n→body (g i)=some (.next (g (i+1)))) (he:body (g n)=some (.ret e)) (hk:K e=r):(QC body fuel s0).bind K=r:=by
 rw [Q3y g n h0 hn h he];exact hk
theorem nloop_rel {σ ε:Type} {body:σ→Option (Ctl σ ε)} {I:Nat→σ→Prop} {J:ε→Prop} {n:Nat} (hs:∀ i s,i<n→I i s→(∃ s',body s=some (.next s')∧I (i+1) s')∨∃ e,body s=some (.ret e)∧J e) (he:∀ s,I n s→∃ e,body s=some (.ret e)∧J e) :
  ∀ (r i:Nat) (s:σ) (F:Nat),i+r=n→r<F→I i s→∃ e,QC body F s=some e∧J e:=by
 intro r
 induction r with
 | zero =>
  intro i s F hi hF hI;obtain ⟨e,h1,h2⟩:=he s (by rw [show n=i by omega];exact hI);obtain ⟨F',rfl⟩:∃ F',F=F' + 1:=⟨F - 1,by omega⟩;simp only [QC,h1];exact ⟨e,rfl,h2⟩
 | succ r ih =>
  intro i s F hi hF hI;obtain ⟨F',rfl⟩:∃ F',F=F' + 1:=⟨F - 1,by omega⟩;rcases hs i s (by omega) hI with ⟨s',h1,h2⟩|⟨e,h1,h2⟩
  ·simp only [QC,h1];exact ih (i+1) s' F' (by omega) (by omega) h2
  simp only [QC,h1];exact ⟨e,rfl,h2⟩
theorem Q2O {σ ε β:Type} {body:σ→Option (Ctl σ ε)} {K:ε→Option β} {s0:σ} {Q:Option β→Prop} (n:Nat) (I:Nat→σ→Prop) (J:ε→Prop) (hn:n<4611686018427387904) (h0:I 0 s0) (hs:∀ i s,i<n→I i s→(∃ s',body s=some (.next s')∧I (i+1) s')∨∃ e,body s=some (.ret e)∧J e)
  (he:∀ s,I n s→∃ e,body s=some (.ret e)∧J e) (hk:∀ e,J e→Q (K e)):Q ((QC body fuel s0).bind K):=by
 obtain ⟨e,h1,h2⟩:=nloop_rel hs he n 0 s0 fuel (by omega) (by unfold fuel;omega) h0;rw [h1];exact hk e h2
theorem Q19 {l:Int} {f:Cat} (h:l≤1048576):Q1n l f≤1048576:=szCat_le h
theorem mu_len {ms:List Mu} (h:∀ u∈ms,u.fs.length=u.es.length):∀ j,j<ms.length→(ms.getD j .none).fs.length=(ms.getD j .none).es.length:=fun j hj=>by rw [List.getD_eq_getElem?_getD,List.getElem?_eq_getElem hj];exact h _ (List.getElem_mem hj)
theorem markCat (f:Cat) (k:Int) (hf:f.ok) (h2:0≤k) (h3:k+f.size≤576460752303423488):MContract Try.prog 34 [.agg [iV f.n,.own 0 0 f.fr.length,.own 1 0 f.to.length,.own 2 0 f.id.length,.own 3 0 f.cs.length],iV k] (f.mu k) (iV (k+f.size)):=by
 have q:=m31 f k hf h2 (by omega)
 rwa [show k+f.fr.length+f.to.length+f.id.length+sumL f.cs=k+f.size by simp [Cat.size,Int.add_assoc]] at q
def Fn.mu (f:Fn) (k:Int):List Mu:=[⟨1,Is f.s.fr,Is (f.mark k).s.fr⟩,⟨1,Is f.s.to,Is (f.mark k).s.to⟩,⟨1,Is f.s.id,Is (f.mark k).s.id⟩,⟨1,Ls f.s.cs,Ls (f.mark k).s.cs⟩,⟨1,Is f.t.fr,Is (f.mark k).t.fr⟩,⟨1,Is f.t.to,Is (f.mark k).t.to⟩,⟨1,Is f.t.id,Is (f.mark k).t.id⟩,⟨1,Ls f.t.cs,Ls (f.mark k).t.cs⟩,⟨1,Is f.ob,Is (f.mark k).ob⟩,⟨1,Is f.ar,Is (f.mark k).ar⟩]
theorem eqFn (u v:Bool) (f:Fn):Contract Try.prog 21 [.agg (f.cells u),.agg (f.cells v)] (.val (.bool true)):=by
 refine Qe (rs:=[.val (.bool true)]) Try.func21 rfl rfl rfl rfl (by simp [Try.f21]) fun F hN hP=>?_;refine srQ hN fun K hK=>?_;simp [Fn.cells];refine hK _ ?_;clear hK K;refine Q4 ?_;refine srQ hN fun K hK=>?_;simp;refine Q3 (c26 u v f.s) (.cons (.aggL Cat.pur) (.cons (.aggL Cat.pur) .nil)) ?_;simp [unk,unA,unE,flat];refine hK _ ?_;clear hK K;refine Qc rfl (fun h=>by simp at h) fun _=>?_;refine Qd ?_;refine Q4 ?_;refine srQ hN fun K hK=>?_;simp;refine Q3 (c26 u v f.t) (.cons (.aggL Cat.pur) (.cons (.aggL Cat.pur) .nil)) ?_;simp [unk,unA,unE,flat];refine hK _ ?_;clear hK K;refine Qc rfl (fun h=>by simp at h) fun _=>?_;refine Qd ?_;refine Q4 ?_;refine srQ hN fun K hK=>?_;simp;refine Q3 (c29 u v f.ob f.ob) (.cons .lst (.cons .lst .nil)) ?_;simp [unk,unA,unE,flat];refine hK _ ?_;clear hK K;refine Qc rfl (fun h=>by simp at h) fun _=>?_;refine Qd ?_;refine Q4 ?_;refine srQ hN fun K hK=>?_;simp;refine Q3 (c29 u v f.ar f.ar) (.cons .lst (.cons .lst .nil)) ?_;simp [unk,unA,unE,flat];refine hK _ ?_;clear hK K;refine Qc rfl (fun h=>by simp at h) fun _=>?_;refine Qd ?_;refine srQ hN fun K hK=>?_;simp;refine hK _ ?_;clear hK K;refine Qg (Qi rfl rfl)
theorem heldFn (u:Bool) (f:Fn) (k:Int) (hf:f.ok) (h2:0≤k) (h3:k+f.size≤1152921504606846976):Contract Try.prog 25 [.agg ((f.mark k).cells u),iV k] (iV (k+f.size)):=by
 obtain ⟨hs,ht,hob,har⟩:=hf;have hz:f.size=f.s.size+f.t.size+f.ob.length+f.ar.length:=rfl;refine Qe (rs:=[iV (k+f.size)]) Try.func25 rfl rfl rfl rfl (by simp [Try.f25]) fun F hN hP=>?_;refine srQ hN fun K hK=>?_;simp [Fn.cells,Cat.mark,Fn.mark];refine hK _ ?_;clear hK K;refine srQ hN fun K hK=>?_;simp;refine Q3 (c36 u f.s (k) hs (by omega) (by omega)) (.cons (.aggL (.cons .val (.cons .lst (.cons .lst (.cons .lst (.cons .lst .nil)))))) (.cons .val .nil)) ?_;simp [unk,unA,unE,flat];refine hK _ ?_;clear hK K;refine Q4 ?_;refine srQ hN fun K hK=>?_;simp;refine hK _ ?_;clear hK K;refine Qc rfl (fun g=>?_) fun g=>?_
 ·simp at g;omega
 refine Qd ?_;refine srQ hN fun K hK=>?_;simp;refine Q3 (c36 u f.t (k+f.s.size) ht (by omega) (by omega)) (.cons (.aggL (.cons .val (.cons .lst (.cons .lst (.cons .lst (.cons .lst .nil)))))) (.cons .val .nil)) ?_;simp [unk,unA,unE,flat];refine hK _ ?_;clear hK K;refine Q4 ?_;refine srQ hN fun K hK=>?_;simp;refine hK _ ?_;clear hK K;refine Qc rfl (fun g=>?_) fun g=>?_
 ·simp at g;omega
 refine Qd ?_;refine srQ hN fun K hK=>?_;simp;refine Q3 (c53 u (run (k+f.s.size+f.t.size) f.ob.length) (k+f.s.size+f.t.size) (by simpa using hob) (by omega) (by omega)) (.cons .lst (.cons .val .nil)) ?_;simp [unk,unA,unE,flat];refine hK _ ?_;clear hK K;refine Q4 ?_;refine srQ hN fun K hK=>?_;simp;refine hK _ ?_;clear hK K;refine Qc rfl (fun g=>?_) fun g=>?_
 ·simp at g;omega
 refine Qd ?_;refine srQ hN fun K hK=>?_;simp;refine Q3 (c53 u (run (k+f.s.size+f.t.size+f.ob.length) f.ar.length) (k+f.s.size+f.t.size+f.ob.length) (by simpa using har) (by omega) (by omega)) (.cons .lst (.cons .val .nil)) ?_;simp [unk,unA,unE,flat];refine hK _ ?_;clear hK K;refine Q4 ?_;refine srQ hN fun K hK=>?_;simp;refine hK _ ?_;clear hK K;refine Qc rfl (fun g=>?_) fun g=>?_
 ·simp at g;omega
 refine Qd ?_;refine srQ hN fun K hK=>?_;simp;refine hK _ ?_;clear hK K;refine Qg (Qi rfl ?_);simp [hz,Int.add_assoc]
def szFn (l:Int) (f:Fn):Int:=nn (Q1n l f.s) fun a0=>nn (Q1n a0 f.t) fun a1=>nn (less a1 f.ob.length) fun a2=>nn (less a2 f.ar.length) fun a3=>a3
theorem szFn_le {l:Int} {f:Fn} (h:l≤1048576):szFn l f≤1048576:=Q6Z (fun x0 h0 _=>Q6Z (fun x1 h1 _=>Q6Z (fun x2 h2 _=>Q6Z (fun x3 h3 _=>by rw [← h3];exact Q2g (by rw [← h2];exact Q2g (by rw [← h1];exact Q19 (by rw [← h0];exact Q19 h)))) (by decide)) (by decide)) (by decide)) (by decide)
theorem szFn_ok {l:Int} {f:Fn} (hl:l≤1048576) (h:0≤szFn l f):f.ok:=by
 unfold szFn at h;obtain ⟨p0,q0,_⟩:=Q2Z h;have b0:=Q19 (f:=f.s) hl;obtain ⟨p1,q1,_⟩:=Q2Z q0;have b1:=Q19 (f:=f.t) b0;obtain ⟨p2,q2,_⟩:=Q2Z q1;obtain ⟨e2,_⟩:=Q2v p2;have b2:=Q2g (n:=f.ob.length) b1;obtain ⟨p3,q3,_⟩:=Q2Z q2;obtain ⟨e3,_⟩:=Q2v p3;have b3:=Q2g (n:=f.ar.length) b2;exact ⟨Q54 hl p0,Q54 b0 p1,by omega,by omega⟩
theorem markFn (f:Fn) (k:Int) (hf:f.ok) (h2:0≤k) (h3:k+f.size≤576460752303423488) :
  MContract Try.prog 22 [.agg [iV f.s.n,.own 0 0 f.s.fr.length,.own 1 0 f.s.to.length,.own 2 0 f.s.id.length,.own 3 0 f.s.cs.length,iV f.t.n,.own 4 0 f.t.fr.length,.own 5 0 f.t.to.length,.own 6 0 f.t.id.length,.own 7 0 f.t.cs.length,.own 8 0 f.ob.length,.own 9 0 f.ar.length],iV k] (f.mu k) (iV (k+f.size)):=by
 obtain ⟨hs,ht,hob,har⟩:=hf;have hz:f.size=f.s.size+f.t.size+f.ob.length+f.ar.length:=rfl;refine QU (ts:=[4]) (rv:=.int .i64 (k+f.size)) Try.func22 rfl rfl ?_ rfl (by simp [Try.f22]) ?_ fun F hN hP=>?_
 ·have:(-9223372036854775808≤k+f.size)∧k+f.size≤9223372036854775807:=by omega
  simp [resV,this]
 ·exact mu_len (by simp [Fn.mu,Fn.mark,Cat.mark])
 refine srQ hN fun K hK=>?_;simp [Q3P,Fn.mu];refine hK _ ?_;clear hK K;refine Q2h mo (by rw [hN];decide) fun K hK=>?_;simp;refine Q2r (m:=[0,1,2,3]) (markCat f.s (k) hs (by omega) (by omega)) (by decide) (.cons rfl (.cons rfl (.cons rfl (.cons rfl .nil)))) (.cons (.aggL (.cons .val (.cons (.own (j:=0) (by decide)) (.cons (.own (j:=1) (by decide)) (.cons (.own (j:=2) (by decide)) (.cons (.own (j:=3) (by decide)) .nil)))))) (.cons .val .nil)) rfl (by simp) ?_;simp [Q4g,Cat.mu];refine hK _ ?_;clear hK K;refine Q2h mo (by rw [hN];decide) fun K hK=>?_;simp;refine Q2r (m:=[4,5,6,7]) (markCat f.t (k+f.s.size) ht (by omega) (by omega)) (by decide) (.cons rfl (.cons rfl (.cons rfl (.cons rfl .nil)))) (.cons (.aggL (.cons .val (.cons (.own (j:=0) (by decide)) (.cons (.own (j:=1) (by decide)) (.cons (.own (j:=2) (by decide)) (.cons (.own (j:=3) (by decide)) .nil)))))) (.cons .val .nil)) rfl (by simp) ?_;simp [Q4g,Cat.mu];refine hK _ ?_;clear hK K;refine Q2h mo (by rw [hN];decide) fun K hK=>?_;simp;refine Q1F (m32 f.ob (k+f.s.size+f.t.size) hob (by omega) (by omega)) rfl (by simp) ?_;simp;refine hK _ ?_;clear hK K;refine Q2h mo (by rw [hN];decide) fun K hK=>?_;simp;refine Q1F (m32 f.ar (k+f.s.size+f.t.size+f.ob.length) har (by omega) (by omega)) rfl (by simp) ?_;simp;refine hK _ ?_;clear hK K;refine srQ hN fun K hK=>?_;simp;refine hK _ ?_;clear hK K;refine Qg (mret ?_ ?_)
 ·simp [hz,Int.add_assoc]
 exact (.cons rfl (.cons rfl (.cons rfl (.cons rfl (.cons rfl (.cons rfl (.cons rfl (.cons rfl (.cons rfl (.cons rfl .nil))))))))))
attribute [local simp] eL eI Qw QH Cat.cells
noncomputable def Q1k (a_:List Cat) (left_:Int):Option Int :=
 ass (B64 (left_ - (a_.length:Int))) <|
 if (left_ - (a_.length:Int))<0 then
  some (-1)
 else
  (QC (σ:=Int × Int) (ε:=Int ⊕ Int) (fun s9 =>
   if s9.2<(a_.length:Int) then
    ass (0≤s9.2∧s9.2<(a_.length:Int)) <|
    (QS (gx a_ s9.2) s9.1).bind fun v12 =>
    if v12<0 then
     some (Ctl.ret (Sum.inr (-1)))
    else
     ass (B64 (s9.2+1)) <|
     some (Ctl.next (v12,s9.2+1))
   else
    some (Ctl.ret (Sum.inl s9.1))) fuel (left_ - (a_.length:Int),0)).bind fun e3 =>
  match e3 with
  | .inl b3 =>
   some b3
  | .inr p3 =>
   some p3
theorem wkQ8 {F : Fx} {st st' : St} (m : List (Nat × Nat)) (h : (m.map Prod.fst).Nodup ∧ (m.map Prod.snd).Nodup ∧ (∀ id, id < F.pins → look id m = some id) ∧ (∀ p ∈ m, p.2 < st'.n) ∧ (∀ p ∈ st'.h, p.1 < st'.n) ∧ (∀ p ∈ st'.s, p.2 = rl m (st.get p.1) ∨ p.2 = .bot) ∧ ∀ p ∈ st'.h, hhOk m st.h p.1 p.2 := by simp [hP, hhOk, back, Cat.cells, UA, U1, IA, I1, LA, L1, BA, B1, EA, E1, E2, eB, eI, eL, Qt _ (Cat.cells true) _ (fun _=>rfl), Fn.cells, Qt _ (Fn.cells true) _ (fun _=>rfl), Fam.cells]) : Wk F st st' := Wk.r1 m h
theorem Q5t (a_:List Cat) (left_:Int) (r:Int) (h:Q1k a_ left_=some r):Contract Try.prog 88 [.lst true 5 (Es (Cat.cells true) a_),iV left_] (iV r):=by
 refine Qf (rvs:=[.tmp 4]) (rs:=[iV r]) Try.func88 rfl rfl rfl rfl (by simp [Try.f88]) fun F hN hP=>?_;unfold Q1k at h;refine Q4 ?_;refine runQ hN fun K hK=>?_;simp [-Q0,-Q6,-Q1,-Q7,-Q2];repeat refine sdQ ?_
 refine hK _ ?_;clear hK K;refine tn ?_;refine Q8 (st':=⟨[(0,.lst true 5 (Es (Cat.cells true) a_)),(1,iV left_)],[],0⟩) (wkQ8 []) ?_;refine Q4 ?_;refine runQ hN fun K hK=>?_;replace h:=Q5 h;obtain ⟨a1,h⟩:=h;simp [-Q0,-Q6,-Q1,-Q7,-Q2,Qk a1];repeat refine sdQ ?_
 refine hK _ ?_;clear hK K;refine tn ?_;refine Q8 (st':=⟨[(0,.lst true 5 (Es (Cat.cells true) a_)),(1,iV (left_ - (a_.length:Int)))],[],0⟩) (wkQ8 []) ?_;refine Q4 ?_;refine Q4 ?_;refine runQ hN fun K hK=>?_;simp [-Q0,-Q6,-Q1,-Q7,-Q2];repeat refine sdQ ?_
 refine hK _ ?_;clear hK K;refine tn ?_;refine Q8 (st':=⟨[(0,.lst true 5 (Es (Cat.cells true) a_)),(1,iV (left_ - (a_.length:Int))),(11,.val (.bool (decide ((left_ - (a_.length:Int))<0))))],[],0⟩) (wkQ8 []) ?_;refine Qc rfl (fun g=>?_) fun g=>?_
 ·have g2:(left_ - (a_.length:Int))<0:=gQ;clear g;replace h:=if_l g2 h;refine Q4 ?_;refine runQ hN fun K hK=>?_;simp [-Q0,-Q6,-Q1,-Q7,-Q2];repeat refine sdQ ?_
  refine hK _ ?_;clear hK K;refine tn ?_;refine Q8 (st':=⟨[(4,iV (-1))],[],0⟩) (wkQ8 []) ?_;refine Qg ?_;refine tr ?_;have hr:=Option.some.inj h;rw [← hr];refine ⟨_,(.tmp .nil),?_⟩;refine ⟨(.one rfl rfl .nil),[iV (-1)],[],by simp [Cat.cells,UA,U1,IA,I1,LA,L1,BA,B1,EA,E1,E2,eB,eI,eL,Qt _ (Cat.cells true) _ (fun _=>rfl)],by simp,(UpL.refl _)⟩
 have g2:¬ ((left_ - (a_.length:Int))<0):=gQ;clear g;replace h:=if_r g2 h;refine Qd ?_;refine tn ?_;refine Q4 ?_;refine Q4 ?_;refine runQ hN fun K hK=>?_;simp [-Q0,-Q6,-Q1,-Q7,-Q2];repeat refine sdQ ?_
 refine hK _ ?_;clear hK K;refine tn ?_;refine Q8 (st':=⟨[(0,.lst true 5 (Es (Cat.cells true) a_)),(1,iV (left_ - (a_.length:Int))),(5,iV 0)],[],0⟩) (wkQ8 []) ?_;replace h:=bind_some h;obtain ⟨e3,h,h3⟩:=h;refine Qh (fun b3:Int=>⟨[(1,iV b3)],[],0⟩) (fun b3=>Sum.inl b3=e3) ?_ ?_
 ·refine Qa ?_;refine Qu h (fun s9:Int × Int=>⟨[(0,.lst true 5 (Es (Cat.cells true) a_)),(1,iV s9.1),(5,iV s9.2)],[],0⟩) (wkQ8 []) ?_;clear h;intro k9 s9 c9 h hk9;refine Q4 ?_;refine Q4 ?_;refine runQ hN fun K hK=>?_;simp [-Q0,-Q6,-Q1,-Q7,-Q2];repeat refine sdQ ?_
  refine hK _ ?_;clear hK K;refine tn ?_;refine Q8 (st':=⟨[(0,.lst true 5 (Es (Cat.cells true) a_)),(1,iV s9.1),(5,iV s9.2),(15,.val (.bool (decide (s9.2<(a_.length:Int)))))],[],0⟩) (wkQ8 []) ?_;refine Qc rfl (fun g=>?_) fun g=>?_
  ·have g10:s9.2<(a_.length:Int):=gQ;clear g;replace h:=if_l g10 h;refine Qd ?_;refine tn ?_;refine Q4 ?_;refine Qa ?_;refine Q4 ?_;refine runQ hN fun K hK=>?_;replace h:=Q5 h;obtain ⟨a11,h⟩:=h;simp [-Q0,-Q6,-Q1,-Q7,-Q2,at_E (c:=(Cat.cells true)) a11];(repeat with_reducible refine sdQ ?_);replace h:=bind_some h;obtain ⟨v12,hv12,h⟩:=h;refine Q3 (Q22 _ _ v12 hv12) (.cons (.aggL (.cons .val (.cons .lst (.cons .lst (.cons .lst (.cons .lst .nil)))))) (.cons .val .nil)) ?_;simp [-Q0,-Q6,-Q1,-Q7,-Q2,unk,unA,unE,unT,unC,flat,at_E (c:=(Cat.cells true)) a11];(repeat refine sdQ ?_);refine hK _ ?_;clear hK K;refine tn ?_;refine Q8 (st':=⟨[(0,.lst true 5 (Es (Cat.cells true) a_)),(1,iV v12),(5,iV s9.2)],[],0⟩) (wkQ8 []) ?_;refine Q4 ?_;refine runQ hN fun K hK=>?_;simp [-Q0,-Q6,-Q1,-Q7,-Q2];(repeat refine sdQ ?_);refine hK _ ?_;clear hK K;refine tn ?_;refine Q8 (st':=⟨[(0,.lst true 5 (Es (Cat.cells true) a_)),(1,iV v12),(5,iV s9.2),(25,.val (.bool (decide (v12<0))))],[],0⟩) (wkQ8 []) ?_;refine Qc rfl (fun g=>?_) fun g=>?_
   ·have g13:v12<0:=gQ;clear g;replace h:=if_l g13 h;refine Q4 ?_;refine runQ hN fun K hK=>?_;simp [-Q0,-Q6,-Q1,-Q7,-Q2];(repeat refine sdQ ?_);refine hK _ ?_;clear hK K;refine tn ?_;refine Q8 (st':=⟨[(4,iV (-1))],[],0⟩) (wkQ8 []) ?_;refine Qg ?_;refine br ?_;refine tr ?_;refine lr ?_;refine br ?_;refine tr ?_;cases h;have q:_=e3:=hk9;have h:=h3;rw [← q] at h;clear q;(try dsimp only at h);have hr:=Option.some.inj h;rw [← hr];refine ⟨_,(.tmp .nil),?_⟩;refine ⟨(.one rfl rfl .nil),[iV (-1)],[],by simp [Cat.cells,UA,U1,IA,I1,LA,L1,BA,B1,EA,E1,E2,eB,eI,eL,Qt _ (Cat.cells true) _ (fun _=>rfl)],by simp,(UpL.refl _)⟩
   have g13:¬ (v12<0):=gQ;clear g;replace h:=if_r g13 h;refine Qd ?_;refine bn ?_;refine tn ?_;refine runQ hN fun K hK=>?_;replace h:=Q5 h;obtain ⟨a14,h⟩:=h;simp [-Q0,-Q6,-Q1,-Q7,-Q2,Qk a14];(repeat refine sdQ ?_);refine hK _ ?_;clear hK K;cases h;exact rn (s':=(v12,s9.2+1)) hk9 (wkQ8 [])
  have g10:¬ (s9.2<(a_.length:Int)):=gQ;clear g;replace h:=if_r g10 h;refine Qj ?_;refine tx ?_;refine lx ?_;refine bh ?_;cases h;exact jn (b:=s9.1) hk9 (wkQ8 [])
 intro b3 hb3;have h:=h3;try rw [← hb3] at h
 clear h3;try dsimp only at h
 refine Q4 ?_;refine runQ hN fun K hK=>?_;simp [-Q0,-Q6,-Q1,-Q7,-Q2];repeat refine sdQ ?_
 refine hK _ ?_;clear hK K;refine tn ?_;refine Q8 (st':=⟨[(4,iV b3)],[],0⟩) (wkQ8 []) ?_;refine Qg ?_;have hr:=Option.some.inj h;rw [← hr];refine ⟨_,(.tmp .nil),?_⟩;refine ⟨(.one rfl rfl .nil),[iV b3],[],by simp [Cat.cells,UA,U1,IA,I1,LA,L1,BA,B1,EA,E1,E2,eB,eI,eL,Qt _ (Cat.cells true) _ (fun _=>rfl)],by simp,(UpL.refl _)⟩
attribute [local simp] eL eI Qw QH Q2e Cat.cells Fn.cells
noncomputable def Q1Q (a_:Fn) (left_:Int):Option Int :=
 (QS a_.s left_).bind fun v1 =>
 if v1<0 then
  some (-1)
 else
  (QS a_.t v1).bind fun v3 =>
  if v3<0 then
   some (-1)
  else
   (Q29 a_.ob v3).bind fun v5 =>
   if v5<0 then
    some (-1)
   else
    (Q29 a_.ar v5).bind fun v7 =>
    if v7<0 then
     some (-1)
    else
     some v7
theorem Q6q (a_:Fn) (left_:Int) (r:Int) (h:Q1Q a_ left_=some r):Contract Try.prog 17 [.agg (a_.cells true),iV left_] (iV r):=by
 refine Qf (rvs:=[.tmp 4]) (rs:=[iV r]) Try.func17 rfl rfl rfl rfl (by simp [Try.f17]) fun F hN hP=>?_;unfold Q1Q at h;refine Q4 ?_;refine runQ hN fun K hK=>?_;simp [-Q0,-Q6,-Q1,-Q7,-Q2];repeat refine sdQ ?_
 refine hK _ ?_;clear hK K;refine tn ?_;refine Q8 (st':=⟨[(1,iV left_),(2,.adr 0 0 0)],[(0,.mix 12 [(Fn.cells true a_)])],1⟩) (wkQ8 [(0,0)]) ?_;refine Q4 ?_;refine runQ hN fun K hK=>?_;simp [-Q0,-Q6,-Q1,-Q7,-Q2];repeat with_reducible refine sdQ ?_
 replace h:=bind_some h;obtain ⟨v1,hv1,h⟩:=h;refine Q3 (Q22 _ _ v1 hv1) (.cons (.aggL (.cons .val (.cons .lst (.cons .lst (.cons .lst (.cons .lst .nil)))))) (.cons .val .nil)) ?_;simp [-Q0,-Q6,-Q1,-Q7,-Q2,unk,unA,unE,unT,unC,flat];repeat refine sdQ ?_
 refine hK _ ?_;clear hK K;refine tn ?_;refine Q8 (st':=⟨[(1,iV v1),(2,.adr 0 0 0)],[(0,.mix 12 [(Fn.cells true a_)])],1⟩) (wkQ8 [(0,0)]) ?_;refine Q4 ?_;refine Q4 ?_;refine runQ hN fun K hK=>?_;simp [-Q0,-Q6,-Q1,-Q7,-Q2];repeat refine sdQ ?_
 refine hK _ ?_;clear hK K;refine tn ?_;refine Q8 (st':=⟨[(1,iV v1),(2,.adr 0 0 0),(10,.val (.bool (decide (v1<0))))],[(0,.mix 12 [(Fn.cells true a_)])],1⟩) (wkQ8 [(0,0)]) ?_;refine Qc rfl (fun g=>?_) fun g=>?_
 ·have g2:v1<0:=gQ;clear g;replace h:=if_l g2 h;refine Q4 ?_;refine runQ hN fun K hK=>?_;simp [-Q0,-Q6,-Q1,-Q7,-Q2];repeat refine sdQ ?_
  refine hK _ ?_;clear hK K;refine tn ?_;refine Q8 (st':=⟨[(4,iV (-1))],[],0⟩) (wkQ8 []) ?_;refine Qg ?_;refine tr ?_;have hr:=Option.some.inj h;rw [← hr];refine ⟨_,(.tmp .nil),?_⟩;refine ⟨(.one rfl rfl .nil),[iV (-1)],[],by simp [Cat.cells,Fn.cells,UA,U1,IA,I1,LA,L1,BA,B1,EA,E1,E2,eB,eI,eL],by simp,(UpL.refl _)⟩
 have g2:¬ (v1<0):=gQ;clear g;replace h:=if_r g2 h;refine Qd ?_;refine tn ?_;refine Q4 ?_;refine runQ hN fun K hK=>?_;simp [-Q0,-Q6,-Q1,-Q7,-Q2];repeat with_reducible refine sdQ ?_
 replace h:=bind_some h;obtain ⟨v3,hv3,h⟩:=h;refine Q3 (Q22 _ _ v3 hv3) (.cons (.aggL (.cons .val (.cons .lst (.cons .lst (.cons .lst (.cons .lst .nil)))))) (.cons .val .nil)) ?_;simp [-Q0,-Q6,-Q1,-Q7,-Q2,unk,unA,unE,unT,unC,flat];repeat refine sdQ ?_
 refine hK _ ?_;clear hK K;refine tn ?_;refine Q8 (st':=⟨[(1,iV v3),(2,.adr 0 0 0)],[(0,.mix 12 [(Fn.cells true a_)])],1⟩) (wkQ8 [(0,0)]) ?_;refine Q4 ?_;refine Q4 ?_;refine runQ hN fun K hK=>?_;simp [-Q0,-Q6,-Q1,-Q7,-Q2];repeat refine sdQ ?_
 refine hK _ ?_;clear hK K;refine tn ?_;refine Q8 (st':=⟨[(1,iV v3),(2,.adr 0 0 0),(16,.val (.bool (decide (v3<0))))],[(0,.mix 12 [(Fn.cells true a_)])],1⟩) (wkQ8 [(0,0)]) ?_;refine Qc rfl (fun g=>?_) fun g=>?_
 ·have g4:v3<0:=gQ;clear g;replace h:=if_l g4 h;refine Q4 ?_;refine runQ hN fun K hK=>?_;simp [-Q0,-Q6,-Q1,-Q7,-Q2];repeat refine sdQ ?_
  refine hK _ ?_;clear hK K;refine tn ?_;refine Q8 (st':=⟨[(4,iV (-1))],[],0⟩) (wkQ8 []) ?_;refine Qg ?_;refine tr ?_;have hr:=Option.some.inj h;rw [← hr];refine ⟨_,(.tmp .nil),?_⟩;refine ⟨(.one rfl rfl .nil),[iV (-1)],[],by simp [Cat.cells,Fn.cells,UA,U1,IA,I1,LA,L1,BA,B1,EA,E1,E2,eB,eI,eL],by simp,(UpL.refl _)⟩
 have g4:¬ (v3<0):=gQ;clear g;replace h:=if_r g4 h;refine Qd ?_;refine tn ?_;refine Q4 ?_;refine runQ hN fun K hK=>?_;simp [-Q0,-Q6,-Q1,-Q7,-Q2];repeat with_reducible refine sdQ ?_
 replace h:=bind_some h;obtain ⟨v5,hv5,h⟩:=h;refine Q3 (Q4H _ _ v5 hv5) (.cons .lst (.cons .val .nil)) ?_;simp [-Q0,-Q6,-Q1,-Q7,-Q2,unk,unA,unE,unT,unC,flat];repeat refine sdQ ?_
 refine hK _ ?_;clear hK K;refine tn ?_;refine Q8 (st':=⟨[(1,iV v5),(2,.adr 0 0 0)],[(0,.mix 12 [(Fn.cells true a_)])],1⟩) (wkQ8 [(0,0)]) ?_;refine Q4 ?_;refine Q4 ?_;refine runQ hN fun K hK=>?_;simp [-Q0,-Q6,-Q1,-Q7,-Q2];repeat refine sdQ ?_
 refine hK _ ?_;clear hK K;refine tn ?_;refine Q8 (st':=⟨[(1,iV v5),(2,.adr 0 0 0),(22,.val (.bool (decide (v5<0))))],[(0,.mix 12 [(Fn.cells true a_)])],1⟩) (wkQ8 [(0,0)]) ?_;refine Qc rfl (fun g=>?_) fun g=>?_
 ·have g6:v5<0:=gQ;clear g;replace h:=if_l g6 h;refine Q4 ?_;refine runQ hN fun K hK=>?_;simp [-Q0,-Q6,-Q1,-Q7,-Q2];repeat refine sdQ ?_
  refine hK _ ?_;clear hK K;refine tn ?_;refine Q8 (st':=⟨[(4,iV (-1))],[],0⟩) (wkQ8 []) ?_;refine Qg ?_;refine tr ?_;have hr:=Option.some.inj h;rw [← hr];refine ⟨_,(.tmp .nil),?_⟩;refine ⟨(.one rfl rfl .nil),[iV (-1)],[],by simp [Cat.cells,Fn.cells,UA,U1,IA,I1,LA,L1,BA,B1,EA,E1,E2,eB,eI,eL],by simp,(UpL.refl _)⟩
 have g6:¬ (v5<0):=gQ;clear g;replace h:=if_r g6 h;refine Qd ?_;refine tn ?_;refine Q4 ?_;refine runQ hN fun K hK=>?_;simp [-Q0,-Q6,-Q1,-Q7,-Q2];repeat with_reducible refine sdQ ?_
 replace h:=bind_some h;obtain ⟨v7,hv7,h⟩:=h;refine Q3 (Q4H _ _ v7 hv7) (.cons .lst (.cons .val .nil)) ?_;simp [-Q0,-Q6,-Q1,-Q7,-Q2,unk,unA,unE,unT,unC,flat];repeat refine sdQ ?_
 refine hK _ ?_;clear hK K;refine tn ?_;refine Q8 (st':=⟨[(1,iV v7)],[],0⟩) (wkQ8 []) ?_;refine Q4 ?_;refine Q4 ?_;refine runQ hN fun K hK=>?_;simp [-Q0,-Q6,-Q1,-Q7,-Q2];repeat refine sdQ ?_
 refine hK _ ?_;clear hK K;refine tn ?_;refine Q8 (st':=⟨[(1,iV v7),(28,.val (.bool (decide (v7<0))))],[],0⟩) (wkQ8 []) ?_;refine Qc rfl (fun g=>?_) fun g=>?_
 ·have g8:v7<0:=gQ;clear g;replace h:=if_l g8 h;refine Q4 ?_;refine runQ hN fun K hK=>?_;simp [-Q0,-Q6,-Q1,-Q7,-Q2];repeat refine sdQ ?_
  refine hK _ ?_;clear hK K;refine tn ?_;refine Q8 (st':=⟨[(4,iV (-1))],[],0⟩) (wkQ8 []) ?_;refine Qg ?_;refine tr ?_;have hr:=Option.some.inj h;rw [← hr];refine ⟨_,(.tmp .nil),?_⟩;refine ⟨(.one rfl rfl .nil),[iV (-1)],[],by simp [Cat.cells,Fn.cells,UA,U1,IA,I1,LA,L1,BA,B1,EA,E1,E2,eB,eI,eL],by simp,(UpL.refl _)⟩
 have g8:¬ (v7<0):=gQ;clear g;replace h:=if_r g8 h;refine Qd ?_;refine tn ?_;refine Q4 ?_;refine runQ hN fun K hK=>?_;simp [-Q0,-Q6,-Q1,-Q7,-Q2];repeat refine sdQ ?_
 refine hK _ ?_;clear hK K;refine tn ?_;refine Q8 (st':=⟨[(4,iV v7)],[],0⟩) (wkQ8 []) ?_;refine Qg ?_;have hr:=Option.some.inj h;rw [← hr];refine ⟨_,(.tmp .nil),?_⟩;refine ⟨(.one rfl rfl .nil),[iV v7],[],by simp [Cat.cells,Fn.cells,UA,U1,IA,I1,LA,L1,BA,B1,EA,E1,E2,eB,eI,eL],by simp,(UpL.refl _)⟩
attribute [local simp] eL eI Qw Q2e Fn.cells
noncomputable def Q1s (a_:List Fn) (left_:Int):Option Int :=
 ass (B64 (left_ - (a_.length:Int))) <|
 if (left_ - (a_.length:Int))<0 then
  some (-1)
 else
  (QC (σ:=Int × Int) (ε:=Int ⊕ Int) (fun s9 =>
   if s9.2<(a_.length:Int) then
    ass (0≤s9.2∧s9.2<(a_.length:Int)) <|
    (Q1Q (gx a_ s9.2) s9.1).bind fun v12 =>
    if v12<0 then
     some (Ctl.ret (Sum.inr (-1)))
    else
     ass (B64 (s9.2+1)) <|
     some (Ctl.next (v12,s9.2+1))
   else
    some (Ctl.ret (Sum.inl s9.1))) fuel (left_ - (a_.length:Int),0)).bind fun e3 =>
  match e3 with
  | .inl b3 =>
   some b3
  | .inr p3 =>
   some p3
theorem Q5D (a_:List Fn) (left_:Int) (r:Int) (h:Q1s a_ left_=some r):Contract Try.prog 89 [.lst true 12 (Es (Fn.cells true) a_),iV left_] (iV r):=by
 refine Qf (rvs:=[.tmp 4]) (rs:=[iV r]) Try.func89 rfl rfl rfl rfl (by simp [Try.f89]) fun F hN hP=>?_;unfold Q1s at h;refine Q4 ?_;refine runQ hN fun K hK=>?_;simp [-Q0,-Q6,-Q1,-Q7,-Q2];repeat refine sdQ ?_
 refine hK _ ?_;clear hK K;refine tn ?_;refine Q8 (st':=⟨[(0,.lst true 12 (Es (Fn.cells true) a_)),(1,iV left_)],[],0⟩) (wkQ8 []) ?_;refine Q4 ?_;refine runQ hN fun K hK=>?_;replace h:=Q5 h;obtain ⟨a1,h⟩:=h;simp [-Q0,-Q6,-Q1,-Q7,-Q2,Qk a1];repeat refine sdQ ?_
 refine hK _ ?_;clear hK K;refine tn ?_;refine Q8 (st':=⟨[(0,.lst true 12 (Es (Fn.cells true) a_)),(1,iV (left_ - (a_.length:Int)))],[],0⟩) (wkQ8 []) ?_;refine Q4 ?_;refine Q4 ?_;refine runQ hN fun K hK=>?_;simp [-Q0,-Q6,-Q1,-Q7,-Q2];repeat refine sdQ ?_
 refine hK _ ?_;clear hK K;refine tn ?_;refine Q8 (st':=⟨[(0,.lst true 12 (Es (Fn.cells true) a_)),(1,iV (left_ - (a_.length:Int))),(11,.val (.bool (decide ((left_ - (a_.length:Int))<0))))],[],0⟩) (wkQ8 []) ?_;refine Qc rfl (fun g=>?_) fun g=>?_
 ·have g2:(left_ - (a_.length:Int))<0:=gQ;clear g;replace h:=if_l g2 h;refine Q4 ?_;refine runQ hN fun K hK=>?_;simp [-Q0,-Q6,-Q1,-Q7,-Q2];repeat refine sdQ ?_
  refine hK _ ?_;clear hK K;refine tn ?_;refine Q8 (st':=⟨[(4,iV (-1))],[],0⟩) (wkQ8 []) ?_;refine Qg ?_;refine tr ?_;have hr:=Option.some.inj h;rw [← hr];refine ⟨_,(.tmp .nil),?_⟩;refine ⟨(.one rfl rfl .nil),[iV (-1)],[],by simp [Fn.cells,UA,U1,IA,I1,LA,L1,BA,B1,EA,E1,E2,eB,eI,eL,Qt _ (Fn.cells true) _ (fun _=>rfl)],by simp,(UpL.refl _)⟩
 have g2:¬ ((left_ - (a_.length:Int))<0):=gQ;clear g;replace h:=if_r g2 h;refine Qd ?_;refine tn ?_;refine Q4 ?_;refine Q4 ?_;refine runQ hN fun K hK=>?_;simp [-Q0,-Q6,-Q1,-Q7,-Q2];repeat refine sdQ ?_
 refine hK _ ?_;clear hK K;refine tn ?_;refine Q8 (st':=⟨[(0,.lst true 12 (Es (Fn.cells true) a_)),(1,iV (left_ - (a_.length:Int))),(5,iV 0)],[],0⟩) (wkQ8 []) ?_;replace h:=bind_some h;obtain ⟨e3,h,h3⟩:=h;refine Qh (fun b3:Int=>⟨[(1,iV b3)],[],0⟩) (fun b3=>Sum.inl b3=e3) ?_ ?_
 ·refine Qa ?_;refine Qu h (fun s9:Int × Int=>⟨[(0,.lst true 12 (Es (Fn.cells true) a_)),(1,iV s9.1),(5,iV s9.2)],[],0⟩) (wkQ8 []) ?_;clear h;intro k9 s9 c9 h hk9;refine Q4 ?_;refine Q4 ?_;refine runQ hN fun K hK=>?_;simp [-Q0,-Q6,-Q1,-Q7,-Q2];repeat refine sdQ ?_
  refine hK _ ?_;clear hK K;refine tn ?_;refine Q8 (st':=⟨[(0,.lst true 12 (Es (Fn.cells true) a_)),(1,iV s9.1),(5,iV s9.2),(15,.val (.bool (decide (s9.2<(a_.length:Int)))))],[],0⟩) (wkQ8 []) ?_;refine Qc rfl (fun g=>?_) fun g=>?_
  ·have g10:s9.2<(a_.length:Int):=gQ;clear g;replace h:=if_l g10 h;refine Qd ?_;refine tn ?_;refine Q4 ?_;refine Qa ?_;refine Q4 ?_;refine runQ hN fun K hK=>?_;replace h:=Q5 h;obtain ⟨a11,h⟩:=h;simp [-Q0,-Q6,-Q1,-Q7,-Q2,at_E (c:=(Fn.cells true)) a11];(repeat with_reducible refine sdQ ?_);replace h:=bind_some h;obtain ⟨v12,hv12,h⟩:=h;refine Q3 (Q6q _ _ v12 hv12) (.cons (.aggL (.cons .val (.cons .lst (.cons .lst (.cons .lst (.cons .lst (.cons .val (.cons .lst (.cons .lst (.cons .lst (.cons .lst (.cons .lst (.cons .lst .nil))))))))))))) (.cons .val .nil)) ?_;simp [-Q0,-Q6,-Q1,-Q7,-Q2,unk,unA,unE,unT,unC,flat,at_E (c:=(Fn.cells true)) a11];(repeat refine sdQ ?_);refine hK _ ?_;clear hK K;refine tn ?_;refine Q8 (st':=⟨[(0,.lst true 12 (Es (Fn.cells true) a_)),(1,iV v12),(5,iV s9.2)],[],0⟩) (wkQ8 []) ?_;refine Q4 ?_;refine runQ hN fun K hK=>?_;simp [-Q0,-Q6,-Q1,-Q7,-Q2];(repeat refine sdQ ?_);refine hK _ ?_;clear hK K;refine tn ?_;refine Q8 (st':=⟨[(0,.lst true 12 (Es (Fn.cells true) a_)),(1,iV v12),(5,iV s9.2),(25,.val (.bool (decide (v12<0))))],[],0⟩) (wkQ8 []) ?_;refine Qc rfl (fun g=>?_) fun g=>?_
   ·have g13:v12<0:=gQ;clear g;replace h:=if_l g13 h;refine Q4 ?_;refine runQ hN fun K hK=>?_;simp [-Q0,-Q6,-Q1,-Q7,-Q2];(repeat refine sdQ ?_);refine hK _ ?_;clear hK K;refine tn ?_;refine Q8 (st':=⟨[(4,iV (-1))],[],0⟩) (wkQ8 []) ?_;refine Qg ?_;refine br ?_;refine tr ?_;refine lr ?_;refine br ?_;refine tr ?_;cases h;have q:_=e3:=hk9;have h:=h3;rw [← q] at h;clear q;(try dsimp only at h);have hr:=Option.some.inj h;rw [← hr];refine ⟨_,(.tmp .nil),?_⟩;refine ⟨(.one rfl rfl .nil),[iV (-1)],[],by simp [Fn.cells,UA,U1,IA,I1,LA,L1,BA,B1,EA,E1,E2,eB,eI,eL,Qt _ (Fn.cells true) _ (fun _=>rfl)],by simp,(UpL.refl _)⟩
   have g13:¬ (v12<0):=gQ;clear g;replace h:=if_r g13 h;refine Qd ?_;refine bn ?_;refine tn ?_;refine runQ hN fun K hK=>?_;replace h:=Q5 h;obtain ⟨a14,h⟩:=h;simp [-Q0,-Q6,-Q1,-Q7,-Q2,Qk a14];(repeat refine sdQ ?_);refine hK _ ?_;clear hK K;cases h;exact rn (s':=(v12,s9.2+1)) hk9 (wkQ8 [])
  have g10:¬ (s9.2<(a_.length:Int)):=gQ;clear g;replace h:=if_r g10 h;refine Qj ?_;refine tx ?_;refine lx ?_;refine bh ?_;cases h;exact jn (b:=s9.1) hk9 (wkQ8 [])
 intro b3 hb3;have h:=h3;try rw [← hb3] at h
 clear h3;try dsimp only at h
 refine Q4 ?_;refine runQ hN fun K hK=>?_;simp [-Q0,-Q6,-Q1,-Q7,-Q2];repeat refine sdQ ?_
 refine hK _ ?_;clear hK K;refine tn ?_;refine Q8 (st':=⟨[(4,iV b3)],[],0⟩) (wkQ8 []) ?_;refine Qg ?_;have hr:=Option.some.inj h;rw [← hr];refine ⟨_,(.tmp .nil),?_⟩;refine ⟨(.one rfl rfl .nil),[iV b3],[],by simp [Fn.cells,UA,U1,IA,I1,LA,L1,BA,B1,EA,E1,E2,eB,eI,eL,Qt _ (Fn.cells true) _ (fun _=>rfl)],by simp,(UpL.refl _)⟩
attribute [local simp] eL eI Qw QH Q3H Q2e Cat.cells Fam.cells Fn.cells
noncomputable def Q2E (a_:Fam) (left_:Int):Option Int :=
 (QS a_.b left_).bind fun v1 =>
 if v1<0 then
  some (-1)
 else
  (Q1k a_.fb v1).bind fun v3 =>
  if v3<0 then
   some (-1)
  else
   (Q1s a_.ch v3).bind fun v5 =>
   if v5<0 then
    some (-1)
   else
    some v5
theorem Q7l (a_:Fam) (left_:Int) (r:Int) (h:Q2E a_ left_=some r):Contract Try.prog 26 [.agg (a_.cells true),iV left_] (iV r):=by
 refine Qf (rvs:=[.tmp 4]) (rs:=[iV r]) Try.func26 rfl rfl rfl rfl (by simp [Try.f26]) fun F hN hP=>?_;unfold Q2E at h;refine Q4 ?_;refine runQ hN fun K hK=>?_;simp [-Q0,-Q6,-Q1,-Q7,-Q2];repeat refine sdQ ?_
 refine hK _ ?_;clear hK K;refine tn ?_;refine Q8 (st':=⟨[(1,iV left_),(2,.adr 0 0 0)],[(0,.mix 7 [(Fam.cells true a_)])],1⟩) (wkQ8 [(0,0)]) ?_;refine Q4 ?_;refine runQ hN fun K hK=>?_;simp [-Q0,-Q6,-Q1,-Q7,-Q2];repeat with_reducible refine sdQ ?_
 replace h:=bind_some h;obtain ⟨v1,hv1,h⟩:=h;refine Q3 (Q22 _ _ v1 hv1) (.cons (.aggL (.cons .val (.cons .lst (.cons .lst (.cons .lst (.cons .lst .nil)))))) (.cons .val .nil)) ?_;simp [-Q0,-Q6,-Q1,-Q7,-Q2,unk,unA,unE,unT,unC,flat];repeat refine sdQ ?_
 refine hK _ ?_;clear hK K;refine tn ?_;refine Q8 (st':=⟨[(1,iV v1),(2,.adr 0 0 0)],[(0,.mix 7 [(Fam.cells true a_)])],1⟩) (wkQ8 [(0,0)]) ?_;refine Q4 ?_;refine Q4 ?_;refine runQ hN fun K hK=>?_;simp [-Q0,-Q6,-Q1,-Q7,-Q2];repeat refine sdQ ?_
 refine hK _ ?_;clear hK K;refine tn ?_;refine Q8 (st':=⟨[(1,iV v1),(2,.adr 0 0 0),(10,.val (.bool (decide (v1<0))))],[(0,.mix 7 [(Fam.cells true a_)])],1⟩) (wkQ8 [(0,0)]) ?_;refine Qc rfl (fun g=>?_) fun g=>?_
 ·have g2:v1<0:=gQ;clear g;replace h:=if_l g2 h;refine Q4 ?_;refine runQ hN fun K hK=>?_;simp [-Q0,-Q6,-Q1,-Q7,-Q2];repeat refine sdQ ?_
  refine hK _ ?_;clear hK K;refine tn ?_;refine Q8 (st':=⟨[(4,iV (-1))],[],0⟩) (wkQ8 []) ?_;refine Qg ?_;refine tr ?_;have hr:=Option.some.inj h;rw [← hr];refine ⟨_,(.tmp .nil),?_⟩;refine ⟨(.one rfl rfl .nil),[iV (-1)],[],by simp [Cat.cells,Fam.cells,Fn.cells,UA,U1,IA,I1,LA,L1,BA,B1,EA,E1,E2,eB,eI,eL],by simp,(UpL.refl _)⟩
 have g2:¬ (v1<0):=gQ;clear g;replace h:=if_r g2 h;refine Qd ?_;refine tn ?_;refine Q4 ?_;refine runQ hN fun K hK=>?_;simp [-Q0,-Q6,-Q1,-Q7,-Q2];repeat with_reducible refine sdQ ?_
 replace h:=bind_some h;obtain ⟨v3,hv3,h⟩:=h;refine Q3 (Q5t _ _ v3 hv3) (.cons .lst (.cons .val .nil)) ?_;simp [-Q0,-Q6,-Q1,-Q7,-Q2,unk,unA,unE,unT,unC,flat];repeat refine sdQ ?_
 refine hK _ ?_;clear hK K;refine tn ?_;refine Q8 (st':=⟨[(1,iV v3),(2,.adr 0 0 0)],[(0,.mix 7 [(Fam.cells true a_)])],1⟩) (wkQ8 [(0,0)]) ?_;refine Q4 ?_;refine Q4 ?_;refine runQ hN fun K hK=>?_;simp [-Q0,-Q6,-Q1,-Q7,-Q2];repeat refine sdQ ?_
 refine hK _ ?_;clear hK K;refine tn ?_;refine Q8 (st':=⟨[(1,iV v3),(2,.adr 0 0 0),(16,.val (.bool (decide (v3<0))))],[(0,.mix 7 [(Fam.cells true a_)])],1⟩) (wkQ8 [(0,0)]) ?_;refine Qc rfl (fun g=>?_) fun g=>?_
 ·have g4:v3<0:=gQ;clear g;replace h:=if_l g4 h;refine Q4 ?_;refine runQ hN fun K hK=>?_;simp [-Q0,-Q6,-Q1,-Q7,-Q2];repeat refine sdQ ?_
  refine hK _ ?_;clear hK K;refine tn ?_;refine Q8 (st':=⟨[(4,iV (-1))],[],0⟩) (wkQ8 []) ?_;refine Qg ?_;refine tr ?_;have hr:=Option.some.inj h;rw [← hr];refine ⟨_,(.tmp .nil),?_⟩;refine ⟨(.one rfl rfl .nil),[iV (-1)],[],by simp [Cat.cells,Fam.cells,Fn.cells,UA,U1,IA,I1,LA,L1,BA,B1,EA,E1,E2,eB,eI,eL],by simp,(UpL.refl _)⟩
 have g4:¬ (v3<0):=gQ;clear g;replace h:=if_r g4 h;refine Qd ?_;refine tn ?_;refine Q4 ?_;refine runQ hN fun K hK=>?_;simp [-Q0,-Q6,-Q1,-Q7,-Q2];repeat with_reducible refine sdQ ?_
 replace h:=bind_some h;obtain ⟨v5,hv5,h⟩:=h;refine Q3 (Q5D _ _ v5 hv5) (.cons .lst (.cons .val .nil)) ?_;simp [-Q0,-Q6,-Q1,-Q7,-Q2,unk,unA,unE,unT,unC,flat];repeat refine sdQ ?_
 refine hK _ ?_;clear hK K;refine tn ?_;refine Q8 (st':=⟨[(1,iV v5)],[],0⟩) (wkQ8 []) ?_;refine Q4 ?_;refine Q4 ?_;refine runQ hN fun K hK=>?_;simp [-Q0,-Q6,-Q1,-Q7,-Q2];repeat refine sdQ ?_
 refine hK _ ?_;clear hK K;refine tn ?_;refine Q8 (st':=⟨[(1,iV v5),(22,.val (.bool (decide (v5<0))))],[],0⟩) (wkQ8 []) ?_;refine Qc rfl (fun g=>?_) fun g=>?_
 ·have g6:v5<0:=gQ;clear g;replace h:=if_l g6 h;refine Q4 ?_;refine runQ hN fun K hK=>?_;simp [-Q0,-Q6,-Q1,-Q7,-Q2];repeat refine sdQ ?_
  refine hK _ ?_;clear hK K;refine tn ?_;refine Q8 (st':=⟨[(4,iV (-1))],[],0⟩) (wkQ8 []) ?_;refine Qg ?_;refine tr ?_;have hr:=Option.some.inj h;rw [← hr];refine ⟨_,(.tmp .nil),?_⟩;refine ⟨(.one rfl rfl .nil),[iV (-1)],[],by simp [Cat.cells,Fam.cells,Fn.cells,UA,U1,IA,I1,LA,L1,BA,B1,EA,E1,E2,eB,eI,eL],by simp,(UpL.refl _)⟩
 have g6:¬ (v5<0):=gQ;clear g;replace h:=if_r g6 h;refine Qd ?_;refine tn ?_;refine Q4 ?_;refine runQ hN fun K hK=>?_;simp [-Q0,-Q6,-Q1,-Q7,-Q2];repeat refine sdQ ?_
 refine hK _ ?_;clear hK K;refine tn ?_;refine Q8 (st':=⟨[(4,iV v5)],[],0⟩) (wkQ8 []) ?_;refine Qg ?_;have hr:=Option.some.inj h;rw [← hr];refine ⟨_,(.tmp .nil),?_⟩;refine ⟨(.one rfl rfl .nil),[iV v5],[],by simp [Cat.cells,Fam.cells,Fn.cells,UA,U1,IA,I1,LA,L1,BA,B1,EA,E1,E2,eB,eI,eL],by simp,(UpL.refl _)⟩
attribute [local simp] eL eI Qw QH Cat.cells
noncomputable def QT (a_:Cat):Option Cat :=
 (Q10 a_.fr).bind fun v1 =>
 (Q10 a_.to).bind fun v2 =>
 (Q10 a_.id).bind fun v3 =>
 (Q2o a_.cs).bind fun v4 =>
 some (⟨a_.n,v1,v2,v3,v4⟩:Cat)
theorem Q23 (a_:Cat) (r:Cat) (h:QT a_=some r):Contract Try.prog 45 [.agg (a_.cells true)] (.agg (r.cells true)):=by
 refine Qf (rvs:=[.cell 2 30]) (rs:=[.agg (r.cells true)]) Try.func45 rfl rfl rfl rfl (by simp [Try.f45]) fun F hN hP=>?_;unfold QT at h;refine Q4 ?_;refine runQ hN fun K hK=>?_;simp [-Q0,-Q6,-Q1,-Q7,-Q2];repeat refine sdQ ?_
 refine hK _ ?_;clear hK K;refine tn ?_;refine Q8 (st':=⟨[(1,.adr 0 0 0),(2,.adr 1 0 0)],[(0,.mix 5 [(Cat.cells true a_)]),(1,.mix 5 [[iV 0,.val (.slice none 0 0),.val (.slice none 0 0),.val (.slice none 0 0),.val (.slice none 0 0)]])],2⟩) (wkQ8 [(0,0),(1,1)]) ?_;refine Q4 ?_;refine runQ hN fun K hK=>?_;simp [-Q0,-Q6,-Q1,-Q7,-Q2];repeat refine sdQ ?_
 refine hK _ ?_;clear hK K;refine tn ?_;refine Q8 (st':=⟨[(1,.adr 0 0 0),(2,.adr 1 0 0),(3,.adr 2 0 0)],[(0,.mix 5 [(Cat.cells true a_)]),(1,.mix 5 [[iV 0,.val (.slice none 0 0),.val (.slice none 0 0),.val (.slice none 0 0),.val (.slice none 0 0)]]),(2,.mix 5 [[iV 0,.val (.slice none 0 0),.val (.slice none 0 0),.val (.slice none 0 0),.val (.slice none 0 0)]])],3⟩) (wkQ8 [(0,0),(1,1),(2,2)]) ?_;refine Q4 ?_;refine runQ hN fun K hK=>?_;simp [-Q0,-Q6,-Q1,-Q7,-Q2];repeat refine sdQ ?_
 refine hK _ ?_;clear hK K;refine tn ?_;refine Q8 (st':=⟨[(1,.adr 0 0 0),(2,.adr 1 0 0),(3,.adr 2 0 0)],[(0,.mix 5 [(Cat.cells true a_)]),(1,.mix 5 [[iV 0,.val (.slice none 0 0),.val (.slice none 0 0),.val (.slice none 0 0),.val (.slice none 0 0)]]),(2,.mix 5 [[iV a_.n,.val (.slice none 0 0),.val (.slice none 0 0),.val (.slice none 0 0),.val (.slice none 0 0)]])],3⟩) (wkQ8 [(0,0),(1,1),(2,2)]) ?_;refine Q4 ?_;refine runQ hN fun K hK=>?_;simp [-Q0,-Q6,-Q1,-Q7,-Q2];repeat with_reducible refine sdQ ?_
 replace h:=bind_some h;obtain ⟨v1,hv1,h⟩:=h;refine Q3 (Q2c _ v1 hv1) (.cons .lst .nil) ?_;simp [-Q0,-Q6,-Q1,-Q7,-Q2,unk,unA,unE,unT,unC,flat];repeat refine sdQ ?_
 refine hK _ ?_;clear hK K;refine tn ?_;refine Q8 (st':=⟨[(1,.adr 0 0 0),(2,.adr 1 0 0),(3,.adr 2 0 0)],[(0,.mix 5 [(Cat.cells true a_)]),(1,.mix 5 [[iV 0,.val (.slice none 0 0),.val (.slice none 0 0),.val (.slice none 0 0),.val (.slice none 0 0)]]),(2,.mix 5 [[iV a_.n,.own 3 0 v1.length,.val (.slice none 0 0),.val (.slice none 0 0),.val (.slice none 0 0)]]),(3,rI v1)],4⟩) (wkQ8 [(0,0),(1,1),(2,2),(3,3)]) ?_;refine Q4 ?_;refine runQ hN fun K hK=>?_;simp [-Q0,-Q6,-Q1,-Q7,-Q2];repeat with_reducible refine sdQ ?_
 replace h:=bind_some h;obtain ⟨v2,hv2,h⟩:=h;refine Q3 (Q2c _ v2 hv2) (.cons .lst .nil) ?_;simp [-Q0,-Q6,-Q1,-Q7,-Q2,unk,unA,unE,unT,unC,flat];repeat refine sdQ ?_
 refine hK _ ?_;clear hK K;refine tn ?_;refine Q8 (st':=⟨[(1,.adr 0 0 0),(2,.adr 1 0 0),(3,.adr 2 0 0)],[(0,.mix 5 [(Cat.cells true a_)]),(1,.mix 5 [[iV 0,.val (.slice none 0 0),.val (.slice none 0 0),.val (.slice none 0 0),.val (.slice none 0 0)]]),(2,.mix 5 [[iV a_.n,.own 3 0 v1.length,.own 4 0 v2.length,.val (.slice none 0 0),.val (.slice none 0 0)]]),(3,rI v1),(4,rI v2)],5⟩) (wkQ8 [(0,0),(1,1),(2,2),(3,3),(4,4)]) ?_;refine Q4 ?_;refine runQ hN fun K hK=>?_;simp [-Q0,-Q6,-Q1,-Q7,-Q2];repeat with_reducible refine sdQ ?_
 replace h:=bind_some h;obtain ⟨v3,hv3,h⟩:=h;refine Q3 (Q2c _ v3 hv3) (.cons .lst .nil) ?_;simp [-Q0,-Q6,-Q1,-Q7,-Q2,unk,unA,unE,unT,unC,flat];repeat refine sdQ ?_
 refine hK _ ?_;clear hK K;refine tn ?_;refine Q8 (st':=⟨[(1,.adr 0 0 0),(2,.adr 1 0 0),(3,.adr 2 0 0)],[(0,.mix 5 [(Cat.cells true a_)]),(1,.mix 5 [[iV 0,.val (.slice none 0 0),.val (.slice none 0 0),.val (.slice none 0 0),.val (.slice none 0 0)]]),(2,.mix 5 [[iV a_.n,.own 3 0 v1.length,.own 4 0 v2.length,.own 5 0 v3.length,.val (.slice none 0 0)]]),(3,rI v1),(4,rI v2),(5,rI v3)],6⟩) (wkQ8 [(0,0),(1,1),(2,2),(3,3),(4,4),(5,5)]) ?_;refine Q4 ?_;refine runQ hN fun K hK=>?_;simp [-Q0,-Q6,-Q1,-Q7,-Q2];repeat with_reducible refine sdQ ?_
 replace h:=bind_some h;obtain ⟨v4,hv4,h⟩:=h;refine Q3 (Q6s _ v4 hv4) (.cons .lst .nil) ?_;simp [-Q0,-Q6,-Q1,-Q7,-Q2,unk,unA,unE,unT,unC,flat];repeat refine sdQ ?_
 refine hK _ ?_;clear hK K;refine tn ?_;refine Q8 (st':=⟨[(2,.adr 0 0 0),(3,.adr 1 0 0)],[(0,.mix 5 [[iV 0,.val (.slice none 0 0),.val (.slice none 0 0),.val (.slice none 0 0),.val (.slice none 0 0)]]),(1,.mix 5 [[iV a_.n,.own 2 0 v1.length,.own 3 0 v2.length,.own 4 0 v3.length,.own 5 0 v4.length]]),(2,rI v1),(3,rI v2),(4,rI v3),(5,.row 1 (Ls v4))],6⟩) (wkQ8 [(1,0),(2,1),(3,2),(4,3),(5,4),(6,5)]) ?_;refine Q4 ?_;refine runQ hN fun K hK=>?_;simp [-Q0,-Q6,-Q1,-Q7,-Q2];repeat refine sdQ ?_
 refine hK _ ?_;clear hK K;refine tn ?_;refine Q8 (st':=⟨[(2,.adr 0 0 0)],[(0,.mix 5 [[iV a_.n,.own 1 0 v1.length,.own 2 0 v2.length,.own 3 0 v3.length,.own 4 0 v4.length]]),(1,rI v1),(2,rI v2),(3,rI v3),(4,.row 1 (Ls v4))],5⟩) (wkQ8 [(0,0),(2,1),(3,2),(4,3),(5,4)]) ?_;refine Qg ?_;have hr:=Option.some.inj h;rw [← hr];refine ⟨_,(.cell tf_30 rfl rfl rfl (by simp) (by simp) .nil),?_⟩;refine ⟨(.agg rfl .nil),[iV a_.n,lI v1,lI v2,lI v3,.lst true 1 (Ls v4)],[1,2,3,4],by simp [Cat.cells,UA,U1,IA,I1,LA,L1,BA,B1,EA,E1,E2,eB,eI,eL],by simp,(UpL.refl _)⟩
attribute [local simp] eL eI Qw QH Cat.cells
noncomputable def Q1l (a_:List Cat):Option (List Cat) :=
 ass (0≤(a_.length:Int)∧(a_.length:Int)≤1073741824) <|
 (QC (σ:=List Cat × Int) (ε:=List Cat) (fun s8 =>
  if s8.2<(a_.length:Int) then
   ass (0≤s8.2∧s8.2<(a_.length:Int)) <|
   (QT (gx a_ s8.2)).bind fun v11 =>
   ass (0≤s8.2∧s8.2<(s8.1.length:Int)) <|
   ass (B64 (s8.2+1)) <|
   some (Ctl.next (s8.1.set s8.2.toNat v11,s8.2+1))
  else
   some (Ctl.ret s8.1)) fuel (List.replicate ((a_.length:Int).toNat) (default:Cat),0)).bind fun b2 =>
 some b2
theorem Q5u (a_:List Cat) (r:List Cat) (h:Q1l a_=some r):Contract Try.prog 92 [.lst true 5 (Es (Cat.cells true) a_)] (.lst true 5 (Es (Cat.cells true) r)):=by
 refine Qf (rvs:=[.tmp 2]) (rs:=[.lst true 5 (Es (Cat.cells true) r)]) Try.func92 rfl rfl rfl rfl (by simp [Try.f92]) fun F hN hP=>?_;unfold Q1l at h;refine Q4 ?_;refine runQ hN fun K hK=>?_;simp [-Q0,-Q6,-Q1,-Q7,-Q2];repeat refine sdQ ?_
 refine hK _ ?_;clear hK K;refine tn ?_;refine Q8 (st':=⟨[(0,.lst true 5 (Es (Cat.cells true) a_))],[],0⟩) (wkQ8 []) ?_;refine Q4 ?_;refine Qv [7] mo (by rw [hN];decide) fun K hK=>?_;replace h:=Q5 h;obtain ⟨a1,h⟩:=h;simp [-Q0,-Q6,-Q1,-Q7,-Q2];repeat refine sdQ ?_
 refine hK _ ?_;clear hK K;refine tn ?_;refine Q8 (st':=⟨[(0,.lst true 5 (Es (Cat.cells true) a_)),(3,.own 0 0 ((List.replicate ((a_.length:Int).toNat) (default:Cat)).length))],[(0,.row 5 (Es (Cat.cells true) (List.replicate ((a_.length:Int).toNat) (default:Cat))))],1⟩) (wkQ8 [(0,0)]) ?_;refine Q4 ?_;refine Q4 ?_;refine runQ hN fun K hK=>?_;simp [-Q0,-Q6,-Q1,-Q7,-Q2];repeat refine sdQ ?_
 refine hK _ ?_;clear hK K;refine tn ?_;refine Q8 (st':=⟨[(0,.lst true 5 (Es (Cat.cells true) a_)),(3,.own 0 0 ((List.replicate ((a_.length:Int).toNat) (default:Cat)).length)),(4,iV 0)],[(0,.row 5 (Es (Cat.cells true) (List.replicate ((a_.length:Int).toNat) (default:Cat))))],1⟩) (wkQ8 [(0,0)]) ?_;replace h:=bind_some h;obtain ⟨e2,h,h2⟩:=h;refine Qh (fun b2:List Cat=>⟨[(3,.own 0 0 b2.length)],[(0,.row 5 (Es (Cat.cells true) b2))],1⟩) (fun b2=>b2=e2) ?_ ?_
 ·refine Qa ?_;refine Qu h (fun s8:List Cat × Int=>⟨[(0,.lst true 5 (Es (Cat.cells true) a_)),(3,.own 0 0 s8.1.length),(4,iV s8.2)],[(0,.row 5 (Es (Cat.cells true) s8.1))],1⟩) (wkQ8 [(0,0)]) ?_;clear h;intro k8 s8 c8 h hk8;refine Q4 ?_;refine Q4 ?_;refine runQ hN fun K hK=>?_;simp [-Q0,-Q6,-Q1,-Q7,-Q2];repeat refine sdQ ?_
  refine hK _ ?_;clear hK K;refine tn ?_;refine Q8 (st':=⟨[(0,.lst true 5 (Es (Cat.cells true) a_)),(3,.own 0 0 s8.1.length),(4,iV s8.2),(11,.val (.bool (decide (s8.2<(a_.length:Int)))))],[(0,.row 5 (Es (Cat.cells true) s8.1))],1⟩) (wkQ8 [(0,0)]) ?_;refine Qc rfl (fun g=>?_) fun g=>?_
  ·have g9:s8.2<(a_.length:Int):=gQ;clear g;replace h:=if_l g9 h;refine Qd ?_;refine tn ?_;refine Q4 ?_;refine Qa ?_;refine Qv [] mo (by rw [hN];decide) fun K hK=>?_;replace h:=Q5 h;obtain ⟨a10,h⟩:=h;simp [-Q0,-Q6,-Q1,-Q7,-Q2,at_E (c:=(Cat.cells true)) a10];(repeat with_reducible refine sdQ ?_);replace h:=bind_some h;obtain ⟨v11,hv11,h⟩:=h;refine QN (fz:=[]) (Q23 _ v11 hv11) (.cons (.aggL (.cons .val (.cons .lst (.cons .lst (.cons .lst (.cons .lst .nil)))))) .nil) ?_;replace h:=Q5 h;obtain ⟨a12,h⟩:=h;simp [-Q0,-Q6,-Q1,-Q7,-Q2,unk,unA,unE,unT,unC,flat,at_E (c:=(Cat.cells true)) a10,at_E (c:=(Cat.cells true)) a12];(repeat with_reducible refine sdQ ?_);refine Q8T (fz:=[]) [] tf_30 rfl (bs:=[iV v11.n,lI v11.fr,lI v11.to,lI v11.id,.lst true 1 (Ls v11.cs)]) (ds:=[2,3,4,5]) (es2:=Es (Cat.cells true) (s8.1.set s8.2.toNat v11)) rfl (by simp) (by first|(simp;done)|(simp;omega)|omega) (by simp) (by simp) (by simp) (by simp) (Es_stG (c:=Cat.cells true) rfl) ?_;simp [-Q0,-Q6,-Q1,-Q7,-Q2,at_E (c:=(Cat.cells true)) a10,at_E (c:=(Cat.cells true)) a12];(repeat refine sdQ ?_);refine hK _ ?_;clear hK K;refine bn ?_;refine tn ?_;refine Q8 (st':=⟨[(0,.lst true 5 (Es (Cat.cells true) a_)),(3,.own 0 0 ((s8.1.set s8.2.toNat v11).length)),(4,iV s8.2)],[(0,.row 5 (Es (Cat.cells true) (s8.1.set s8.2.toNat v11)))],1⟩) (wkQ8 [(0,0)]) ?_;refine runQ hN fun K hK=>?_;replace h:=Q5 h;obtain ⟨a13,h⟩:=h;simp [-Q0,-Q6,-Q1,-Q7,-Q2,Qk a13];(repeat refine sdQ ?_);refine hK _ ?_;clear hK K;cases h;exact rn (s':=(s8.1.set s8.2.toNat v11,s8.2+1)) hk8 (wkQ8 [(0,0)])
  have g9:¬ (s8.2<(a_.length:Int)):=gQ;clear g;replace h:=if_r g9 h;refine Qj ?_;refine tx ?_;refine lx ?_;refine bh ?_;cases h;exact jn (b:=s8.1) hk8 (wkQ8 [(0,0)])
 intro b2 hb2;have h:=h2;try rw [← hb2] at h
 clear h2;try dsimp only at h
 refine Q4 ?_;refine runQ hN fun K hK=>?_;simp [-Q0,-Q6,-Q1,-Q7,-Q2];repeat refine sdQ ?_
 refine hK _ ?_;clear hK K;refine tn ?_;refine Q8 (st':=⟨[(2,.own 0 0 b2.length)],[(0,.row 5 (Es (Cat.cells true) b2))],1⟩) (wkQ8 [(0,0)]) ?_;refine Qg ?_;have hr:=Option.some.inj h;rw [← hr];refine ⟨_,(.tmp .nil),?_⟩;refine ⟨(.one rfl rfl .nil),[.lst true 5 (Es (Cat.cells true) b2)],[0],by simp [Cat.cells,UA,U1,IA,I1,LA,L1,BA,B1,EA,E1,E2,eB,eI,eL,Qt _ (Cat.cells true) _ (fun _=>rfl)],by simp,(UpL.refl _)⟩
attribute [local simp] eL eI Qw QH Q2e Cat.cells Fn.cells
noncomputable def Q1R (a_:Fn):Option Fn :=
 (QT a_.s).bind fun v1 =>
 (QT a_.t).bind fun v2 =>
 (Q10 a_.ob).bind fun v3 =>
 (Q10 a_.ar).bind fun v4 =>
 some (⟨v1,v2,v3,v4⟩:Fn)
theorem Q6r (a_:Fn) (r:Fn) (h:Q1R a_=some r):Contract Try.prog 19 [.agg (a_.cells true)] (.agg (r.cells true)):=by
 refine Qf (rvs:=[.cell 2 44]) (rs:=[.agg (r.cells true)]) Try.func19 rfl rfl rfl rfl (by simp [Try.f19]) fun F hN hP=>?_;unfold Q1R at h;refine Q4 ?_;refine runQ hN fun K hK=>?_;simp [-Q0,-Q6,-Q1,-Q7,-Q2];repeat refine sdQ ?_
 refine hK _ ?_;clear hK K;refine tn ?_;refine Q8 (st':=⟨[(1,.adr 0 0 0),(2,.adr 1 0 0)],[(0,.mix 12 [(Fn.cells true a_)]),(1,.mix 12 [[iV 0,.val (.slice none 0 0),.val (.slice none 0 0),.val (.slice none 0 0),.val (.slice none 0 0),iV 0,.val (.slice none 0 0),.val (.slice none 0 0),.val (.slice none 0 0),.val (.slice none 0 0),.val (.slice none 0 0),.val (.slice none 0 0)]])],2⟩) (wkQ8 [(0,0),(1,1)]) ?_;refine Q4 ?_;refine runQ hN fun K hK=>?_;simp [-Q0,-Q6,-Q1,-Q7,-Q2];repeat refine sdQ ?_
 refine hK _ ?_;clear hK K;refine tn ?_;refine Q8 (st':=⟨[(1,.adr 0 0 0),(2,.adr 1 0 0),(3,.adr 2 0 0)],[(0,.mix 12 [(Fn.cells true a_)]),(1,.mix 12 [[iV 0,.val (.slice none 0 0),.val (.slice none 0 0),.val (.slice none 0 0),.val (.slice none 0 0),iV 0,.val (.slice none 0 0),.val (.slice none 0 0),.val (.slice none 0 0),.val (.slice none 0 0),.val (.slice none 0 0),.val (.slice none 0 0)]]),(2,.mix 12 [[iV 0,.val (.slice none 0 0),.val (.slice none 0 0),.val (.slice none 0 0),.val (.slice none 0 0),iV 0,.val (.slice none 0 0),.val (.slice none 0 0),.val (.slice none 0 0),.val (.slice none 0 0),.val (.slice none 0 0),.val (.slice none 0 0)]])],3⟩) (wkQ8 [(0,0),(1,1),(2,2)]) ?_;refine Q4 ?_;refine runQ hN fun K hK=>?_;simp [-Q0,-Q6,-Q1,-Q7,-Q2];repeat with_reducible refine sdQ ?_
 replace h:=bind_some h;obtain ⟨v1,hv1,h⟩:=h;refine Q3 (Q23 _ v1 hv1) (.cons (.aggL (.cons .val (.cons .lst (.cons .lst (.cons .lst (.cons .lst .nil)))))) .nil) ?_;simp [-Q0,-Q6,-Q1,-Q7,-Q2,unk,unA,unE,unT,unC,flat];repeat refine sdQ ?_
 refine hK _ ?_;clear hK K;refine tn ?_;refine Q8 (st':=⟨[(1,.adr 0 0 0),(2,.adr 1 0 0),(3,.adr 2 0 0)],[(0,.mix 12 [(Fn.cells true a_)]),(1,.mix 12 [[iV 0,.val (.slice none 0 0),.val (.slice none 0 0),.val (.slice none 0 0),.val (.slice none 0 0),iV 0,.val (.slice none 0 0),.val (.slice none 0 0),.val (.slice none 0 0),.val (.slice none 0 0),.val (.slice none 0 0),.val (.slice none 0 0)]]),(2,.mix 12 [[iV v1.n,.own 3 0 v1.fr.length,.own 4 0 v1.to.length,.own 5 0 v1.id.length,.own 6 0 v1.cs.length,iV 0,.val (.slice none 0 0),.val (.slice none 0 0),.val (.slice none 0 0),.val (.slice none 0 0),.val (.slice none 0 0),.val (.slice none 0 0)]]),(3,rI v1.fr),(4,rI v1.to),(5,rI v1.id),(6,.row 1 (Ls v1.cs))],7⟩) (wkQ8 [(0,0),(1,1),(2,2),(4,3),(5,4),(6,5),(7,6)]) ?_;refine Q4 ?_;refine runQ hN fun K hK=>?_;simp [-Q0,-Q6,-Q1,-Q7,-Q2];repeat with_reducible refine sdQ ?_
 replace h:=bind_some h;obtain ⟨v2,hv2,h⟩:=h;refine Q3 (Q23 _ v2 hv2) (.cons (.aggL (.cons .val (.cons .lst (.cons .lst (.cons .lst (.cons .lst .nil)))))) .nil) ?_;simp [-Q0,-Q6,-Q1,-Q7,-Q2,unk,unA,unE,unT,unC,flat];repeat refine sdQ ?_
 refine hK _ ?_;clear hK K;refine tn ?_;refine Q8 (st':=⟨[(1,.adr 0 0 0),(2,.adr 1 0 0),(3,.adr 2 0 0)],[(0,.mix 12 [(Fn.cells true a_)]),(1,.mix 12 [[iV 0,.val (.slice none 0 0),.val (.slice none 0 0),.val (.slice none 0 0),.val (.slice none 0 0),iV 0,.val (.slice none 0 0),.val (.slice none 0 0),.val (.slice none 0 0),.val (.slice none 0 0),.val (.slice none 0 0),.val (.slice none 0 0)]]),(2,.mix 12 [[iV v1.n,.own 3 0 v1.fr.length,.own 4 0 v1.to.length,.own 5 0 v1.id.length,.own 6 0 v1.cs.length,iV v2.n,.own 7 0 v2.fr.length,.own 8 0 v2.to.length,.own 9 0 v2.id.length,.own 10 0 v2.cs.length,.val (.slice none 0 0),.val (.slice none 0 0)]]),(3,rI v1.fr),(4,rI v1.to),(5,rI v1.id),(6,.row 1 (Ls v1.cs)),(7,rI v2.fr),(8,rI v2.to),(9,rI v2.id),(10,.row 1 (Ls v2.cs))],11⟩) (wkQ8 [(0,0),(1,1),(2,2),(3,3),(4,4),(5,5),(6,6),(8,7),(9,8),(10,9),(11,10)]) ?_;refine Q4 ?_;refine runQ hN fun K hK=>?_;simp [-Q0,-Q6,-Q1,-Q7,-Q2];repeat with_reducible refine sdQ ?_
 replace h:=bind_some h;obtain ⟨v3,hv3,h⟩:=h;refine Q3 (Q2c _ v3 hv3) (.cons .lst .nil) ?_;simp [-Q0,-Q6,-Q1,-Q7,-Q2,unk,unA,unE,unT,unC,flat];repeat refine sdQ ?_
 refine hK _ ?_;clear hK K;refine tn ?_;refine Q8 (st':=⟨[(1,.adr 0 0 0),(2,.adr 1 0 0),(3,.adr 2 0 0)],[(0,.mix 12 [(Fn.cells true a_)]),(1,.mix 12 [[iV 0,.val (.slice none 0 0),.val (.slice none 0 0),.val (.slice none 0 0),.val (.slice none 0 0),iV 0,.val (.slice none 0 0),.val (.slice none 0 0),.val (.slice none 0 0),.val (.slice none 0 0),.val (.slice none 0 0),.val (.slice none 0 0)]]),(2,.mix 12 [[iV v1.n,.own 3 0 v1.fr.length,.own 4 0 v1.to.length,.own 5 0 v1.id.length,.own 6 0 v1.cs.length,iV v2.n,.own 7 0 v2.fr.length,.own 8 0 v2.to.length,.own 9 0 v2.id.length,.own 10 0 v2.cs.length,.own 11 0 v3.length,.val (.slice none 0 0)]]),(3,rI v1.fr),(4,rI v1.to),(5,rI v1.id),(6,.row 1 (Ls v1.cs)),(7,rI v2.fr),(8,rI v2.to),(9,rI v2.id),(10,.row 1 (Ls v2.cs)),(11,rI v3)],12⟩) (wkQ8 [(0,0),(1,1),(2,2),(3,3),(4,4),(5,5),(6,6),(7,7),(8,8),(9,9),(10,10),(11,11)]) ?_;refine Q4 ?_;refine runQ hN fun K hK=>?_;simp [-Q0,-Q6,-Q1,-Q7,-Q2];repeat with_reducible refine sdQ ?_
 replace h:=bind_some h;obtain ⟨v4,hv4,h⟩:=h;refine Q3 (Q2c _ v4 hv4) (.cons .lst .nil) ?_;simp [-Q0,-Q6,-Q1,-Q7,-Q2,unk,unA,unE,unT,unC,flat];repeat refine sdQ ?_
 refine hK _ ?_;clear hK K;refine tn ?_;refine Q8 (st':=⟨[(2,.adr 0 0 0),(3,.adr 1 0 0)],[(0,.mix 12 [[iV 0,.val (.slice none 0 0),.val (.slice none 0 0),.val (.slice none 0 0),.val (.slice none 0 0),iV 0,.val (.slice none 0 0),.val (.slice none 0 0),.val (.slice none 0 0),.val (.slice none 0 0),.val (.slice none 0 0),.val (.slice none 0 0)]]),(1,.mix 12 [[iV v1.n,.own 2 0 v1.fr.length,.own 3 0 v1.to.length,.own 4 0 v1.id.length,.own 5 0 v1.cs.length,iV v2.n,.own 6 0 v2.fr.length,.own 7 0 v2.to.length,.own 8 0 v2.id.length,.own 9 0 v2.cs.length,.own 10 0 v3.length,.own 11 0 v4.length]]),(2,rI v1.fr),(3,rI v1.to),(4,rI v1.id),(5,.row 1 (Ls v1.cs)),(6,rI v2.fr),(7,rI v2.to),(8,rI v2.id),(9,.row 1 (Ls v2.cs)),(10,rI v3),(11,rI v4)],12⟩) (wkQ8 [(1,0),(2,1),(3,2),(4,3),(5,4),(6,5),(7,6),(8,7),(9,8),(10,9),(11,10),(12,11)]) ?_;refine Q4 ?_;refine runQ hN fun K hK=>?_;simp [-Q0,-Q6,-Q1,-Q7,-Q2];repeat refine sdQ ?_
 refine hK _ ?_;clear hK K;refine tn ?_;refine Q8 (st':=⟨[(2,.adr 0 0 0)],[(0,.mix 12 [[iV v1.n,.own 1 0 v1.fr.length,.own 2 0 v1.to.length,.own 3 0 v1.id.length,.own 4 0 v1.cs.length,iV v2.n,.own 5 0 v2.fr.length,.own 6 0 v2.to.length,.own 7 0 v2.id.length,.own 8 0 v2.cs.length,.own 9 0 v3.length,.own 10 0 v4.length]]),(1,rI v1.fr),(2,rI v1.to),(3,rI v1.id),(4,.row 1 (Ls v1.cs)),(5,rI v2.fr),(6,rI v2.to),(7,rI v2.id),(8,.row 1 (Ls v2.cs)),(9,rI v3),(10,rI v4)],11⟩) (wkQ8 [(0,0),(2,1),(3,2),(4,3),(5,4),(6,5),(7,6),(8,7),(9,8),(10,9),(11,10)]) ?_;refine Qg ?_;have hr:=Option.some.inj h;rw [← hr];refine ⟨_,(.cell Q3U rfl rfl rfl (by simp) (by simp) .nil),?_⟩;refine ⟨(.agg rfl .nil),[iV v1.n,lI v1.fr,lI v1.to,lI v1.id,.lst true 1 (Ls v1.cs),iV v2.n,lI v2.fr,lI v2.to,lI v2.id,.lst true 1 (Ls v2.cs),lI v3,lI v4],[1,2,3,4,5,6,7,8,9,10],by simp [Cat.cells,Fn.cells,UA,U1,IA,I1,LA,L1,BA,B1,EA,E1,E2,eB,eI,eL],by simp,(UpL.refl _)⟩
attribute [local simp] eL eI Qw Q2e Fn.cells
noncomputable def Q1t (a_:List Fn):Option (List Fn) :=
 ass (0≤(a_.length:Int)∧(a_.length:Int)≤1073741824) <|
 (QC (σ:=List Fn × Int) (ε:=List Fn) (fun s8 =>
  if s8.2<(a_.length:Int) then
   ass (0≤s8.2∧s8.2<(a_.length:Int)) <|
   (Q1R (gx a_ s8.2)).bind fun v11 =>
   ass (0≤s8.2∧s8.2<(s8.1.length:Int)) <|
   ass (B64 (s8.2+1)) <|
   some (Ctl.next (s8.1.set s8.2.toNat v11,s8.2+1))
  else
   some (Ctl.ret s8.1)) fuel (List.replicate ((a_.length:Int).toNat) (default:Fn),0)).bind fun b2 =>
 some b2
theorem Q5E (a_:List Fn) (r:List Fn) (h:Q1t a_=some r):Contract Try.prog 93 [.lst true 12 (Es (Fn.cells true) a_)] (.lst true 12 (Es (Fn.cells true) r)):=by
 refine Qf (rvs:=[.tmp 2]) (rs:=[.lst true 12 (Es (Fn.cells true) r)]) Try.func93 rfl rfl rfl rfl (by simp [Try.f93]) fun F hN hP=>?_;unfold Q1t at h;refine Q4 ?_;refine runQ hN fun K hK=>?_;simp [-Q0,-Q6,-Q1,-Q7,-Q2];repeat refine sdQ ?_
 refine hK _ ?_;clear hK K;refine tn ?_;refine Q8 (st':=⟨[(0,.lst true 12 (Es (Fn.cells true) a_))],[],0⟩) (wkQ8 []) ?_;refine Q4 ?_;refine Qv [7] mo (by rw [hN];decide) fun K hK=>?_;replace h:=Q5 h;obtain ⟨a1,h⟩:=h;simp [-Q0,-Q6,-Q1,-Q7,-Q2];repeat refine sdQ ?_
 refine hK _ ?_;clear hK K;refine tn ?_;refine Q8 (st':=⟨[(0,.lst true 12 (Es (Fn.cells true) a_)),(3,.own 0 0 ((List.replicate ((a_.length:Int).toNat) (default:Fn)).length))],[(0,.row 12 (Es (Fn.cells true) (List.replicate ((a_.length:Int).toNat) (default:Fn))))],1⟩) (wkQ8 [(0,0)]) ?_;refine Q4 ?_;refine Q4 ?_;refine runQ hN fun K hK=>?_;simp [-Q0,-Q6,-Q1,-Q7,-Q2];repeat refine sdQ ?_
 refine hK _ ?_;clear hK K;refine tn ?_;refine Q8 (st':=⟨[(0,.lst true 12 (Es (Fn.cells true) a_)),(3,.own 0 0 ((List.replicate ((a_.length:Int).toNat) (default:Fn)).length)),(4,iV 0)],[(0,.row 12 (Es (Fn.cells true) (List.replicate ((a_.length:Int).toNat) (default:Fn))))],1⟩) (wkQ8 [(0,0)]) ?_;replace h:=bind_some h;obtain ⟨e2,h,h2⟩:=h;refine Qh (fun b2:List Fn=>⟨[(3,.own 0 0 b2.length)],[(0,.row 12 (Es (Fn.cells true) b2))],1⟩) (fun b2=>b2=e2) ?_ ?_
 ·refine Qa ?_;refine Qu h (fun s8:List Fn × Int=>⟨[(0,.lst true 12 (Es (Fn.cells true) a_)),(3,.own 0 0 s8.1.length),(4,iV s8.2)],[(0,.row 12 (Es (Fn.cells true) s8.1))],1⟩) (wkQ8 [(0,0)]) ?_;clear h;intro k8 s8 c8 h hk8;refine Q4 ?_;refine Q4 ?_;refine runQ hN fun K hK=>?_;simp [-Q0,-Q6,-Q1,-Q7,-Q2];repeat refine sdQ ?_
  refine hK _ ?_;clear hK K;refine tn ?_;refine Q8 (st':=⟨[(0,.lst true 12 (Es (Fn.cells true) a_)),(3,.own 0 0 s8.1.length),(4,iV s8.2),(11,.val (.bool (decide (s8.2<(a_.length:Int)))))],[(0,.row 12 (Es (Fn.cells true) s8.1))],1⟩) (wkQ8 [(0,0)]) ?_;refine Qc rfl (fun g=>?_) fun g=>?_
  ·have g9:s8.2<(a_.length:Int):=gQ;clear g;replace h:=if_l g9 h;refine Qd ?_;refine tn ?_;refine Q4 ?_;refine Qa ?_;refine Qv [] mo (by rw [hN];decide) fun K hK=>?_;replace h:=Q5 h;obtain ⟨a10,h⟩:=h;simp [-Q0,-Q6,-Q1,-Q7,-Q2,at_E (c:=(Fn.cells true)) a10];(repeat with_reducible refine sdQ ?_);replace h:=bind_some h;obtain ⟨v11,hv11,h⟩:=h;refine QN (fz:=[]) (Q6r _ v11 hv11) (.cons (.aggL (.cons .val (.cons .lst (.cons .lst (.cons .lst (.cons .lst (.cons .val (.cons .lst (.cons .lst (.cons .lst (.cons .lst (.cons .lst (.cons .lst .nil))))))))))))) .nil) ?_;replace h:=Q5 h;obtain ⟨a12,h⟩:=h;simp [-Q0,-Q6,-Q1,-Q7,-Q2,unk,unA,unE,unT,unC,flat,at_E (c:=(Fn.cells true)) a10,at_E (c:=(Fn.cells true)) a12];(repeat with_reducible refine sdQ ?_);refine Q8T (fz:=[]) [] Q3U rfl (bs:=[iV v11.s.n,lI v11.s.fr,lI v11.s.to,lI v11.s.id,.lst true 1 (Ls v11.s.cs),iV v11.t.n,lI v11.t.fr,lI v11.t.to,lI v11.t.id,.lst true 1 (Ls v11.t.cs),lI v11.ob,lI v11.ar]) (ds:=[2,3,4,5,7,8,9,10,11,12]) (es2:=Es (Fn.cells true) (s8.1.set s8.2.toNat v11)) rfl (by simp) (by first|(simp;done)|(simp;omega)|omega) (by simp) (by simp) (by simp) (by simp) (Es_stG (c:=Fn.cells true) rfl) ?_;simp [-Q0,-Q6,-Q1,-Q7,-Q2,at_E (c:=(Fn.cells true)) a10,at_E (c:=(Fn.cells true)) a12];(repeat refine sdQ ?_);refine hK _ ?_;clear hK K;refine bn ?_;refine tn ?_;refine Q8 (st':=⟨[(0,.lst true 12 (Es (Fn.cells true) a_)),(3,.own 0 0 ((s8.1.set s8.2.toNat v11).length)),(4,iV s8.2)],[(0,.row 12 (Es (Fn.cells true) (s8.1.set s8.2.toNat v11)))],1⟩) (wkQ8 [(0,0)]) ?_;refine runQ hN fun K hK=>?_;replace h:=Q5 h;obtain ⟨a13,h⟩:=h;simp [-Q0,-Q6,-Q1,-Q7,-Q2,Qk a13];(repeat refine sdQ ?_);refine hK _ ?_;clear hK K;cases h;exact rn (s':=(s8.1.set s8.2.toNat v11,s8.2+1)) hk8 (wkQ8 [(0,0)])
  have g9:¬ (s8.2<(a_.length:Int)):=gQ;clear g;replace h:=if_r g9 h;refine Qj ?_;refine tx ?_;refine lx ?_;refine bh ?_;cases h;exact jn (b:=s8.1) hk8 (wkQ8 [(0,0)])
 intro b2 hb2;have h:=h2;try rw [← hb2] at h
 clear h2;try dsimp only at h
 refine Q4 ?_;refine runQ hN fun K hK=>?_;simp [-Q0,-Q6,-Q1,-Q7,-Q2];repeat refine sdQ ?_
 refine hK _ ?_;clear hK K;refine tn ?_;refine Q8 (st':=⟨[(2,.own 0 0 b2.length)],[(0,.row 12 (Es (Fn.cells true) b2))],1⟩) (wkQ8 [(0,0)]) ?_;refine Qg ?_;have hr:=Option.some.inj h;rw [← hr];refine ⟨_,(.tmp .nil),?_⟩;refine ⟨(.one rfl rfl .nil),[.lst true 12 (Es (Fn.cells true) b2)],[0],by simp [Fn.cells,UA,U1,IA,I1,LA,L1,BA,B1,EA,E1,E2,eB,eI,eL,Qt _ (Fn.cells true) _ (fun _=>rfl)],by simp,(UpL.refl _)⟩
attribute [local simp] eL eI Qw QH Q3H Q2e Cat.cells Fam.cells Fn.cells
noncomputable def Q2F (a_:Fam):Option Fam :=
 (QT a_.b).bind fun v1 =>
 (Q1l a_.fb).bind fun v2 =>
 (Q1t a_.ch).bind fun v3 =>
 some (⟨v1,v2,v3⟩:Fam)
theorem Q7m (a_:Fam) (r:Fam) (h:Q2F a_=some r):Contract Try.prog 28 [.agg (a_.cells true)] (.agg (r.cells true)):=by
 refine Qf (rvs:=[.cell 2 61]) (rs:=[.agg (r.cells true)]) Try.func28 rfl rfl rfl rfl (by simp [Try.f28]) fun F hN hP=>?_;unfold Q2F at h;refine Q4 ?_;refine runQ hN fun K hK=>?_;simp [-Q0,-Q6,-Q1,-Q7,-Q2];repeat refine sdQ ?_
 refine hK _ ?_;clear hK K;refine tn ?_;refine Q8 (st':=⟨[(1,.adr 0 0 0),(2,.adr 1 0 0)],[(0,.mix 7 [(Fam.cells true a_)]),(1,.mix 7 [[iV 0,.val (.slice none 0 0),.val (.slice none 0 0),.val (.slice none 0 0),.val (.slice none 0 0),.val (.slice none 0 0),.val (.slice none 0 0)]])],2⟩) (wkQ8 [(0,0),(1,1)]) ?_;refine Q4 ?_;refine runQ hN fun K hK=>?_;simp [-Q0,-Q6,-Q1,-Q7,-Q2];repeat refine sdQ ?_
 refine hK _ ?_;clear hK K;refine tn ?_;refine Q8 (st':=⟨[(1,.adr 0 0 0),(2,.adr 1 0 0),(3,.adr 2 0 0)],[(0,.mix 7 [(Fam.cells true a_)]),(1,.mix 7 [[iV 0,.val (.slice none 0 0),.val (.slice none 0 0),.val (.slice none 0 0),.val (.slice none 0 0),.val (.slice none 0 0),.val (.slice none 0 0)]]),(2,.mix 7 [[iV 0,.val (.slice none 0 0),.val (.slice none 0 0),.val (.slice none 0 0),.val (.slice none 0 0),.val (.slice none 0 0),.val (.slice none 0 0)]])],3⟩) (wkQ8 [(0,0),(1,1),(2,2)]) ?_;refine Q4 ?_;refine runQ hN fun K hK=>?_;simp [-Q0,-Q6,-Q1,-Q7,-Q2];repeat with_reducible refine sdQ ?_
 replace h:=bind_some h;obtain ⟨v1,hv1,h⟩:=h;refine Q3 (Q23 _ v1 hv1) (.cons (.aggL (.cons .val (.cons .lst (.cons .lst (.cons .lst (.cons .lst .nil)))))) .nil) ?_;simp [-Q0,-Q6,-Q1,-Q7,-Q2,unk,unA,unE,unT,unC,flat];repeat refine sdQ ?_
 refine hK _ ?_;clear hK K;refine tn ?_;refine Q8 (st':=⟨[(1,.adr 0 0 0),(2,.adr 1 0 0),(3,.adr 2 0 0)],[(0,.mix 7 [(Fam.cells true a_)]),(1,.mix 7 [[iV 0,.val (.slice none 0 0),.val (.slice none 0 0),.val (.slice none 0 0),.val (.slice none 0 0),.val (.slice none 0 0),.val (.slice none 0 0)]]),(2,.mix 7 [[iV v1.n,.own 3 0 v1.fr.length,.own 4 0 v1.to.length,.own 5 0 v1.id.length,.own 6 0 v1.cs.length,.val (.slice none 0 0),.val (.slice none 0 0)]]),(3,rI v1.fr),(4,rI v1.to),(5,rI v1.id),(6,.row 1 (Ls v1.cs))],7⟩) (wkQ8 [(0,0),(1,1),(2,2),(4,3),(5,4),(6,5),(7,6)]) ?_;refine Q4 ?_;refine runQ hN fun K hK=>?_;simp [-Q0,-Q6,-Q1,-Q7,-Q2];repeat with_reducible refine sdQ ?_
 replace h:=bind_some h;obtain ⟨v2,hv2,h⟩:=h;refine Q3 (Q5u _ v2 hv2) (.cons .lst .nil) ?_;simp [-Q0,-Q6,-Q1,-Q7,-Q2,unk,unA,unE,unT,unC,flat];repeat refine sdQ ?_
 refine hK _ ?_;clear hK K;refine tn ?_;refine Q8 (st':=⟨[(1,.adr 0 0 0),(2,.adr 1 0 0),(3,.adr 2 0 0)],[(0,.mix 7 [(Fam.cells true a_)]),(1,.mix 7 [[iV 0,.val (.slice none 0 0),.val (.slice none 0 0),.val (.slice none 0 0),.val (.slice none 0 0),.val (.slice none 0 0),.val (.slice none 0 0)]]),(2,.mix 7 [[iV v1.n,.own 3 0 v1.fr.length,.own 4 0 v1.to.length,.own 5 0 v1.id.length,.own 6 0 v1.cs.length,.own 7 0 v2.length,.val (.slice none 0 0)]]),(3,rI v1.fr),(4,rI v1.to),(5,rI v1.id),(6,.row 1 (Ls v1.cs)),(7,.row 5 (Es (Cat.cells true) v2))],8⟩) (wkQ8 [(0,0),(1,1),(2,2),(3,3),(4,4),(5,5),(6,6),(7,7)]) ?_;refine Q4 ?_;refine runQ hN fun K hK=>?_;simp [-Q0,-Q6,-Q1,-Q7,-Q2];repeat with_reducible refine sdQ ?_
 replace h:=bind_some h;obtain ⟨v3,hv3,h⟩:=h;refine Q3 (Q5E _ v3 hv3) (.cons .lst .nil) ?_;simp [-Q0,-Q6,-Q1,-Q7,-Q2,unk,unA,unE,unT,unC,flat];repeat refine sdQ ?_
 refine hK _ ?_;clear hK K;refine tn ?_;refine Q8 (st':=⟨[(2,.adr 0 0 0),(3,.adr 1 0 0)],[(0,.mix 7 [[iV 0,.val (.slice none 0 0),.val (.slice none 0 0),.val (.slice none 0 0),.val (.slice none 0 0),.val (.slice none 0 0),.val (.slice none 0 0)]]),(1,.mix 7 [[iV v1.n,.own 2 0 v1.fr.length,.own 3 0 v1.to.length,.own 4 0 v1.id.length,.own 5 0 v1.cs.length,.own 6 0 v2.length,.own 7 0 v3.length]]),(2,rI v1.fr),(3,rI v1.to),(4,rI v1.id),(5,.row 1 (Ls v1.cs)),(6,.row 5 (Es (Cat.cells true) v2)),(7,.row 12 (Es (Fn.cells true) v3))],8⟩) (wkQ8 [(1,0),(2,1),(3,2),(4,3),(5,4),(6,5),(7,6),(8,7)]) ?_;refine Q4 ?_;refine runQ hN fun K hK=>?_;simp [-Q0,-Q6,-Q1,-Q7,-Q2];repeat refine sdQ ?_
 refine hK _ ?_;clear hK K;refine tn ?_;refine Q8 (st':=⟨[(2,.adr 0 0 0)],[(0,.mix 7 [[iV v1.n,.own 1 0 v1.fr.length,.own 2 0 v1.to.length,.own 3 0 v1.id.length,.own 4 0 v1.cs.length,.own 5 0 v2.length,.own 6 0 v3.length]]),(1,rI v1.fr),(2,rI v1.to),(3,rI v1.id),(4,.row 1 (Ls v1.cs)),(5,.row 5 (Es (Cat.cells true) v2)),(6,.row 12 (Es (Fn.cells true) v3))],7⟩) (wkQ8 [(0,0),(2,1),(3,2),(4,3),(5,4),(6,5),(7,6)]) ?_;refine Qg ?_;have hr:=Option.some.inj h;rw [← hr];refine ⟨_,(.cell tf_61 rfl rfl rfl (by simp) (by simp) .nil),?_⟩;refine ⟨(.agg rfl .nil),[iV v1.n,lI v1.fr,lI v1.to,lI v1.id,.lst true 1 (Ls v1.cs),.lst true 5 (Es (Cat.cells true) v2),.lst true 12 (Es (Fn.cells true) v3)],[1,2,3,4,5,6],by simp [Cat.cells,Fam.cells,Fn.cells,UA,U1,IA,I1,LA,L1,BA,B1,EA,E1,E2,eB,eI,eL,Qt _ (Cat.cells true) _ (fun _=>rfl),Qt _ (Fn.cells true) _ (fun _=>rfl)],by simp,(UpL.refl _)⟩
theorem Q7Q {l:Int} {xs:List (List Int)} (h:0≤Q2u l xs):Q2u l xs≤l - sumL xs:=by
 unfold Q2u at h ⊢;split at h
 ·omega
 rename_i h1;rw [if_neg h1];obtain ⟨b1,b2,b3⟩:=Q8D xs _ h;omega
def Q26 (l:Int):List Cat→Int
 | []=>l
 | c :: r=>if Q1n l c<0 then -1 else Q26 (Q1n l c) r
def Q3b (l:Int) (xs:List Cat):Int:=if l - xs.length<0 then -1 else Q26 (l - xs.length) xs
theorem Q3C {l:Int} {c:Cat} (h:0≤Q1n l c):Q1n l c=l - c.size∨Q1n l c≤l - c.size:=by
 unfold Q1n at h ⊢;obtain ⟨a1,a2,a3⟩:=Q2Z h;obtain ⟨b1,b2,b3⟩:=Q2Z a2;obtain ⟨c1,c2,c3⟩:=Q2Z b2;obtain ⟨d1,d2,d3⟩:=Q2Z c2;obtain ⟨e1,e2⟩:=Q2v a1;obtain ⟨f1,f2⟩:=Q2v b1;obtain ⟨g1,g2⟩:=Q2v c1;have h1:=Q7Q d1;right;rw [a3,b3,c3,d3];simp only [Cat.size]
 push_cast
 omega
theorem lessCS_le (xs:List Cat):∀ l:Int,l≤1048576→Q26 l xs≤1048576:=by
 induction xs with
 | nil=>intro l h;simpa [Q26] using h
 | cons c r ih=>intro l h;simp only [Q26];split<;>first|omega|(exact ih _ (Q19 h))
theorem Q7e {l:Int} {xs:List Cat} (h:l≤1048576):Q3b l xs≤1048576:=by
 unfold Q3b;split
 ·omega
 exact lessCS_le _ _ (by omega)
theorem Q7O (l:Int) (x:List Cat) (i:Nat) (h:i<x.length):Q26 l (x.drop i)=if Q1n l x[i]<0 then -1 else Q26 (Q1n l x[i]) (x.drop (i+1)):=by
 rw [List.drop_eq_getElem_cons h];rfl
theorem lessCS_ok (xs:List Cat):∀ l:Int,l≤1048576→0≤Q26 l xs→(∀ c∈xs,c.ok)∧Q26 l xs≤l - ((xs.map Cat.size).sum:Nat):=by
 induction xs with
 | nil=>intro l hl h;simp [Q26]
 | cons c r ih =>
  intro l hl h;simp only [Q26] at h ⊢;split at h
  ·omega
  rename_i h1;rw [if_neg h1];have a2:=Q3C (l:=l) (c:=c) (by omega);obtain ⟨b1,b2⟩:=ih _ (Q19 hl) h;refine ⟨fun y hy=>?_,?_⟩
  ·rcases List.mem_cons.1 hy with rfl|hy
   ·exact Q54 hl (by omega)
   exact b1 y hy
  simp only [List.map_cons,List.sum_cons];push_cast at b2 ⊢;omega
theorem sumB_size (xs:List Cat):sumB Cat.sizeE xs=(xs.map Cat.size).sum+xs.length:=by
 unfold sumB
 induction xs with
 | nil=>rfl
 | cons c r ih=>simp only [List.map_cons,List.sum_cons,List.length_cons,ih,Cat.sizeE];omega
theorem szCats_ok {l:Int} {xs:List Cat} (hl:l≤1048576) (h:0≤Q3b l xs):(xs.length:Int)≤l∧(∀ c∈xs,c.ok)∧Q3b l xs≤l - (sumB Cat.sizeE xs:Nat):=by
 unfold Q3b at h ⊢;split at h
 ·omega
 rename_i h1;rw [if_neg h1];obtain ⟨b1,b2⟩:=lessCS_ok xs _ (by omega) h;rw [sumB_size];exact ⟨by omega,b1,by push_cast at b2 ⊢;omega⟩
def Q2D (l:Int):List Fn→Int
 | []=>l
 | c :: r=>if szFn l c<0 then -1 else Q2D (szFn l c) r
def Q7g (l:Int) (xs:List Fn):Int:=if l - xs.length<0 then -1 else Q2D (l - xs.length) xs
theorem szFn_size {l:Int} {c:Fn} (h:0≤szFn l c):szFn l c≤l - c.size:=by
 unfold szFn at h ⊢;obtain ⟨a1,a2,a3⟩:=Q2Z h;obtain ⟨b1,b2,b3⟩:=Q2Z a2;obtain ⟨c1,c2,c3⟩:=Q2Z b2;obtain ⟨d1,d2,d3⟩:=Q2Z c2;have e1:=Q3C a1;have f1:=Q3C b1;obtain ⟨g1,g2⟩:=Q2v c1;obtain ⟨h1,h2⟩:=Q2v d1;rw [a3,b3,c3,d3];simp only [Fn.size]
 push_cast
 omega
theorem Q7P (l:Int) (x:List Fn) (i:Nat) (h:i<x.length):Q2D l (x.drop i)=if szFn l x[i]<0 then -1 else Q2D (szFn l x[i]) (x.drop (i+1)):=by
 rw [List.drop_eq_getElem_cons h];rfl
theorem lessFS_ok (xs:List Fn):∀ l:Int,l≤1048576→0≤Q2D l xs→(∀ c∈xs,c.ok)∧Q2D l xs≤l - ((xs.map Fn.size).sum:Nat):=by
 induction xs with
 | nil=>intro l hl h;simp [Q2D]
 | cons c r ih =>
  intro l hl h;simp only [Q2D] at h ⊢;split at h
  ·omega
  rename_i h1;rw [if_neg h1];have a2:=szFn_size (l:=l) (c:=c) (by omega);obtain ⟨b1,b2⟩:=ih _ (szFn_le hl) h;refine ⟨fun y hy=>?_,?_⟩
  ·rcases List.mem_cons.1 hy with rfl|hy
   ·exact szFn_ok hl (by omega)
   exact b1 y hy
  simp only [List.map_cons,List.sum_cons];push_cast at b2 ⊢;omega
theorem Q9A (xs:List Fn):sumB Fn.sizeE xs≤(xs.map Fn.size).sum+2 * xs.length:=by
 unfold sumB
 induction xs with
 | nil=>exact Nat.le_refl _
 | cons c r ih=>simp only [List.map_cons,List.sum_cons,List.length_cons,Fn.sizeE,Fn.size,Cat.sizeE] at ih ⊢;omega
theorem szFns_ok {l:Int} {xs:List Fn} (hl:l≤1048576) (h:0≤Q7g l xs):(xs.length:Int)≤l∧(∀ c∈xs,c.ok)∧(sumB Fn.sizeE xs:Int)≤2 * l:=by
 unfold Q7g at h;split at h
 ·omega
 obtain ⟨b1,b2⟩:=lessFS_ok xs _ (by omega) h;have b3:=Q9A xs;exact ⟨by omega,b1,by push_cast at b2 ⊢;omega⟩
def Q7f (l:Int) (f:Fam):Int:=nn (Q1n l f.b) fun a=>nn (Q3b a f.fb) fun b=>nn (Q7g b f.ch) fun c=>c
theorem Q5U {l:Int} {f:Fam} (hl:l≤1048576) (h:0≤Q7f l f):f.ok∧f.size≤4194304:=by
 unfold Q7f at h;obtain ⟨a1,a2,_⟩:=Q2Z h;obtain ⟨b1,b2,_⟩:=Q2Z a2;obtain ⟨c1,c2,_⟩:=Q2Z b2;have q1:=Q19 (f:=f.b) hl;have q2:=Q7e (xs:=f.fb) q1;have z:=Q3C a1;obtain ⟨d1,d2,d3⟩:=szCats_ok q1 b1;obtain ⟨e1,e2,e3⟩:=szFns_ok q2 c1;refine ⟨⟨Q54 hl a1,by omega,d2,by omega,e2⟩,?_⟩;unfold Fam.size;omega
theorem szFam_ok {l:Int} {f:Fam} (hl:l≤1048576) (h:0≤Q7f l f):f.ok:=(Q5U hl h).1
theorem Q9B {l:Int} {f:Fam} (hl:l≤1048576) (h:0≤Q7f l f):f.size≤4194304:=(Q5U hl h).2
theorem Q4V (c:Cat) (l:Int) (h1:0≤l) (h2:l≤1048576):QS c l=some (Q1n l c):=by
 unfold QS;rw [Q9 h1,Q9 h2]
theorem e_lszFn (f:Fn) (l:Int) (h1:0≤l) (h2:l≤1048576):Q1Q f l=some (szFn l f):=by
 unfold Q1Q szFn nn;rw [Q4V _ _ h1 h2];simp only [Option.bind_some]
 by_cases a:Q1n l f.s<0
 ·rw [if_pos a,if_pos a]
 rw [if_neg a,if_neg a,Q4V _ _ (by omega) (Q19 h2)];simp only [Option.bind_some];have q2:=Q19 (f:=f.t) (Q19 (f:=f.s) h2)
 by_cases b:Q1n (Q1n l f.s) f.t<0
 ·rw [if_pos b,if_pos b]
 rw [if_neg b,if_neg b];unfold Q29;rw [Q9 (by omega),Q9 q2];simp only [Option.bind_some];have q3:=Q2g (n:=f.ob.length) q2
 by_cases c:less (Q1n (Q1n l f.s) f.t) f.ob.length<0
 ·rw [if_pos c,if_pos c]
 rw [if_neg c,if_neg c,Q9 (by omega),Q9 q3];simp only [Option.bind_some]
 by_cases d:less (less (Q1n (Q1n l f.s) f.t) f.ob.length) f.ar.length<0
 ·rw [if_pos d,if_pos d]
 rw [if_neg d,if_neg d]
theorem e_szCats (x:List Cat) (l:Int) (h0:0≤l) (hl:l≤1048576) (hx:x.length≤9223372036854775807):Q1k x l=some (Q3b l x):=by
 unfold Q1k;rw [Q9 (by unfold B64;omega)]
 by_cases h:l - x.length<0
 ·rw [if_pos h];unfold Q3b;rw [if_pos h]
 rw [if_neg h];have e1:Q3b l x=Q26 (l - x.length) x:=by unfold Q3b;rw [if_neg h]
 rw [e1];refine Q2O (σ:=Int × Int) (Q:=fun z=>z=some (Q26 (l - x.length) x)) x.length (fun i s=>s.2=(i:Int)∧0≤s.1∧s.1≤1048576∧Q26 (l - x.length) x=Q26 s.1 (x.drop i))
  (fun e=>match e with|.inl b=>Q26 (l - x.length) x=b|.inr b=>Q26 (l - x.length) x=b) (by omega) ⟨rfl,by simp;omega,by simp;omega,by simp⟩ ?_ ?_ ?_
 ·rintro i ⟨v,j⟩ hi ⟨rfl,a1,a2,a3⟩
  simp only at a1 a2 a3 ⊢;have hg:gx x i=x[i]:=by simp [gx,List.getD_eq_getElem?_getD,hi]
  rw [if_pos (by omega),Q9 (by omega),hg,Q4V _ _ a1 a2];simp only [Option.bind_some];rw [Q7O _ _ i hi] at a3
  by_cases q:Q1n v x[i]<0
  ·rw [if_pos q] at a3;rw [if_pos q];exact .inr ⟨_,rfl,a3⟩
  rw [if_neg q] at a3;rw [if_neg q,Q9 (by unfold B64;omega)];exact .inl ⟨_,rfl,by push_cast;rfl,by omega,Q19 a2,a3⟩
 ·rintro ⟨v,j⟩ ⟨rfl,a1,a2,a3⟩
  simp only at a1 a2 a3 ⊢;rw [if_neg (by omega)];refine ⟨_,rfl,?_⟩;rw [a3,List.drop_of_length_le (Nat.le_refl _)];rfl
 rintro (b|b) hb<;>simp only at hb ⊢<;>rw [hb]
theorem e_szFns (x:List Fn) (l:Int) (h0:0≤l) (hl:l≤1048576) (hx:x.length≤9223372036854775807):Q1s x l=some (Q7g l x):=by
 unfold Q1s;rw [Q9 (by unfold B64;omega)]
 by_cases h:l - x.length<0
 ·rw [if_pos h];unfold Q7g;rw [if_pos h]
 rw [if_neg h];have e1:Q7g l x=Q2D (l - x.length) x:=by unfold Q7g;rw [if_neg h]
 rw [e1];refine Q2O (σ:=Int × Int) (Q:=fun z=>z=some (Q2D (l - x.length) x)) x.length (fun i s=>s.2=(i:Int)∧0≤s.1∧s.1≤1048576∧Q2D (l - x.length) x=Q2D s.1 (x.drop i))
  (fun e=>match e with|.inl b=>Q2D (l - x.length) x=b|.inr b=>Q2D (l - x.length) x=b) (by omega) ⟨rfl,by simp;omega,by simp;omega,by simp⟩ ?_ ?_ ?_
 ·rintro i ⟨v,j⟩ hi ⟨rfl,a1,a2,a3⟩
  simp only at a1 a2 a3 ⊢;have hg:gx x i=x[i]:=by simp [gx,List.getD_eq_getElem?_getD,hi]
  rw [if_pos (by omega),Q9 (by omega),hg,e_lszFn _ _ a1 a2];simp only [Option.bind_some];rw [Q7P _ _ i hi] at a3
  by_cases q:szFn v x[i]<0
  ·rw [if_pos q] at a3;rw [if_pos q];exact .inr ⟨_,rfl,a3⟩
  rw [if_neg q] at a3;rw [if_neg q,Q9 (by unfold B64;omega)];exact .inl ⟨_,rfl,by push_cast;rfl,by omega,szFn_le a2,a3⟩
 ·rintro ⟨v,j⟩ ⟨rfl,a1,a2,a3⟩
  simp only at a1 a2 a3 ⊢;rw [if_neg (by omega)];refine ⟨_,rfl,?_⟩;rw [a3,List.drop_of_length_le (Nat.le_refl _)];rfl
 rintro (b|b) hb<;>simp only at hb ⊢<;>rw [hb]
theorem e_szFam (f:Fam) (l:Int) (h1:0≤l) (h2:l≤1048576) (ha:f.fb.length≤9223372036854775807) (hb:f.ch.length≤9223372036854775807):Q2E f l=some (Q7f l f):=by
 unfold Q2E Q7f nn;rw [Q4V _ _ h1 h2];simp only [Option.bind_some]
 by_cases a:Q1n l f.b<0
 ·rw [if_pos a,if_pos a]
 rw [if_neg a,if_neg a,e_szCats _ _ (by omega) (Q19 h2) ha];simp only [Option.bind_some];have q2:=Q7e (xs:=f.fb) (Q19 (f:=f.b) h2)
 by_cases b:Q3b (Q1n l f.b) f.fb<0
 ·rw [if_pos b,if_pos b]
 rw [if_neg b,if_neg b,e_szFns _ _ (by omega) q2 hb];simp only [Option.bind_some]
 by_cases c:Q7g (Q3b (Q1n l f.b) f.fb) f.ch<0
 ·rw [if_pos c,if_pos c]
 rw [if_neg c,if_neg c]
theorem Q8y {u:Bool} {sz:Nat} {es:List (List AV)} (h:Good (.lst u sz es)):es.length≤9223372036854775807:=by
 cases h with
 | lst h1=>simp [maxLen] at h1;omega
 | other h=>exact h.elim
theorem Fam.pur {h:HP} {u v:Bool} {c:Fam}:PurL h (c.cells u) (c.cells v):=.cons .val (.cons .lst (.cons .lst (.cons .lst (.cons .lst (.cons .lst (.cons .lst .nil))))))
theorem Q4W (c:Cat) (h:c.ok):QT c=some c:=by
 obtain ⟨a1,a2,a3,a4,a5,_⟩:=h;unfold QT Q10 Q2o;rw [Q9 a1,Q9 a2,Q9 a3,Q9 a4,Q9 a5];rfl
theorem e_ltoFn (f:Fn) (h:f.ok):Q1R f=some f:=by
 obtain ⟨a1,a2,a3,a4⟩:=h;unfold Q1R Q10;rw [Q4W _ a1,Q4W _ a2,Q9 a3,Q9 a4];rfl
theorem e_ltoCats (x:List Cat) (h1:x.length≤1048576) (h2:∀ c∈x,c.ok):Q1l x=some x:=by
 unfold Q1l;rw [Q9 (by omega)];refine Q2O (σ:=List Cat × Int) (Q:=fun z=>z=some x) x.length (fun i s=>s=(x.take i++List.replicate (x.length - i) default,(i:Int))) (fun e=>e=x) (by omega) (by simp) ?_ ?_ (fun e he=>by rw [he])
 ·rintro i s hi rfl
  have hg:gx x i=x[i]:=by simp [gx,List.getD_eq_getElem?_getD,hi]
  have hm:=h2 _ (List.getElem_mem hi);simp only;rw [if_pos (by omega),Q9 (by omega),hg,Q4W _ hm];simp only [Option.bind_some];rw [Q9 (by simp;omega),Q9 (by unfold B64;omega)];refine .inl ⟨_,rfl,?_⟩;have e1:x.length - i=(x.length - (i+1))+1:=by omega
  refine Prod.ext ?_ (by push_cast;rfl);simp only [Int.toNat_natCast];rw [e1,Q71 _ _ _ _ (by rw [List.length_take];omega),List.take_succ_eq_append_getElem hi]
 rintro s rfl
 simp only;rw [if_neg (by omega)];exact ⟨_,rfl,by simp⟩
theorem e_ltoFns (x:List Fn) (h1:x.length≤1048576) (h2:∀ c∈x,c.ok):Q1t x=some x:=by
 unfold Q1t;rw [Q9 (by omega)];refine Q2O (σ:=List Fn × Int) (Q:=fun z=>z=some x) x.length (fun i s=>s=(x.take i++List.replicate (x.length - i) default,(i:Int))) (fun e=>e=x) (by omega) (by simp) ?_ ?_ (fun e he=>by rw [he])
 ·rintro i s hi rfl
  have hg:gx x i=x[i]:=by simp [gx,List.getD_eq_getElem?_getD,hi]
  have hm:=h2 _ (List.getElem_mem hi);simp only;rw [if_pos (by omega),Q9 (by omega),hg,e_ltoFn _ hm];simp only [Option.bind_some];rw [Q9 (by simp;omega),Q9 (by unfold B64;omega)];refine .inl ⟨_,rfl,?_⟩;have e1:x.length - i=(x.length - (i+1))+1:=by omega
  refine Prod.ext ?_ (by push_cast;rfl);simp only [Int.toNat_natCast];rw [e1,Q71 _ _ _ _ (by rw [List.length_take];omega),List.take_succ_eq_append_getElem hi]
 rintro s rfl
 simp only;rw [if_neg (by omega)];exact ⟨_,rfl,by simp⟩
theorem e_ltoFam (f:Fam) (h:f.ok):Q2F f=some f:=by
 obtain ⟨a1,a2,a3,a4,a5⟩:=h;unfold Q2F;rw [Q4W _ a1,e_ltoCats _ a2 a3,e_ltoFns _ a4 a5];rfl
theorem toFam (u:Bool) (f:Fam) (hf:f.ok):Contract Try.prog 28 [.agg (f.cells true)] (.agg (f.cells true)):=Q7m f f (e_ltoFam f hf)
theorem Fam.good {f:Fam} (h:Good (.agg (f.cells true))):f.fb.length≤9223372036854775807∧f.ch.length≤9223372036854775807:=by
 cases h with
 | agg h =>
  have a:=Q8y (show Good (.lst true 5 (Cs f.fb)) from h 5 (by simp [Fam.cells]));have b:=Q8y (show Good (.lst true 12 (Fs f.ch)) from h 6 (by simp [Fam.cells]));exact ⟨by simpa [Es] using a,by simpa [Es] using b⟩
 | other h=>exact h.elim
theorem cszFam (u:Bool) (f:Fam) (l:Int) (h1:0≤l) (h2:l≤1048576):Contract Try.prog 26 [.agg (f.cells true),iV l] (iV (Q7f l f)) :=
 Contract.good 0 (by simp) ⟨_,Try.func26,rfl,rfl⟩ fun g=>Q7l f l _ (e_szFam f l h1 h2 (Fam.good g).1 (Fam.good g).2)
theorem eqCats (u v:Bool) (xs:List Cat):Contract Try.prog 96 [.lst u 5 (Cs xs),.lst v 5 (Cs xs)] (.val (.bool true)):=by
 refine Qe (rs:=[.val (.bool true)]) Try.func96 rfl rfl rfl rfl (by simp [-Cs_E,-Fs_E,Try.f96]) fun F hN hP=>?_;refine Q3s 0 fun h0=>?_;have hl0:xs.length≤9223372036854775807:=by simpa using Q4a h0
 refine srQ hN fun K hK=>?_;simp [-Cs_E,-Fs_E];refine hK _ ?_;clear hK K;refine Q4 ?_;refine srQ hN fun K hK=>?_;simp [-Cs_E,-Fs_E];refine hK _ ?_;clear hK K;refine Qc rfl (fun h=>by simp [-Cs_E,-Fs_E] at h) fun _=>?_;refine Qd ?_;refine Q4 ?_;refine srQ hN fun K hK=>?_;simp [-Cs_E,-Fs_E];refine hK _ ?_;clear hK K;refine Qa ?_;refine QJ (fun i:Nat=>⟨[(0,.lst u 5 (Cs xs)),(1,.lst v 5 (Cs xs)),(5,iV i)],[],0⟩) (fun i=>i≤xs.length) (fun i=>xs.length - i) 0 (by simp [-Cs_E,-Fs_E]) (Wk.cut (by simp [-Cs_E,-Fs_E]) (by simp [-Cs_E,-Fs_E]) rfl) ?_;intro i hi;refine Q4 ?_;refine srQ hN fun K hK=>?_;simp [-Cs_E,-Fs_E];refine hK _ ?_;clear hK K;refine Qc rfl (fun h=>?_) fun h=>?_
 ·simp [-Cs_E,-Fs_E] at h;refine Qd ?_;refine Q4 ?_;refine Qa ?_;refine srQ hN fun K hK=>?_;simp [-Cs_E,-Fs_E,h,Cat.cells];refine Q3 (c26 true true xs[i]) (.cons (.aggL Cat.pur) (.cons (.aggL Cat.pur) .nil)) ?_;simp [-Cs_E,-Fs_E,unk,unA,unE,flat];refine hK _ ?_;clear hK K;refine Qc rfl (fun h=>by simp [-Cs_E,-Fs_E] at h) fun _=>?_;refine Qd ?_;refine runQ hN fun K hK=>?_;simp [-Cs_E,-Fs_E];refine hK _ ?_;clear hK K;rw [Qn (n:=xs.length) (by omega) (by omega)];refine ⟨i+1,by omega,by dsimp only;omega,Wk.relabel [] (by simp [-Cs_E,-Fs_E]) (by simp [-Cs_E,-Fs_E]) (by rw [hP];simp [-Cs_E,-Fs_E]) (by simp [-Cs_E,-Fs_E]) (by simp [-Cs_E,-Fs_E]) (by simp [-Cs_E,-Fs_E]) (by simp [-Cs_E,-Fs_E])⟩
 simp [-Cs_E,-Fs_E] at h;refine Qj ?_;simp [-Cs_E,-Fs_E];refine srQ hN fun K hK=>?_;simp [-Cs_E,-Fs_E];refine hK _ ?_;clear hK K;refine Qg (Qi rfl rfl)
theorem eqFns (u v:Bool) (xs:List Fn):Contract Try.prog 97 [.lst u 12 (Fs xs),.lst v 12 (Fs xs)] (.val (.bool true)):=by
 refine Qe (rs:=[.val (.bool true)]) Try.func97 rfl rfl rfl rfl (by simp [-Cs_E,-Fs_E,Try.f97]) fun F hN hP=>?_;refine Q3s 0 fun h0=>?_;have hl0:xs.length≤9223372036854775807:=by simpa using Q4a h0
 refine srQ hN fun K hK=>?_;simp [-Cs_E,-Fs_E];refine hK _ ?_;clear hK K;refine Q4 ?_;refine srQ hN fun K hK=>?_;simp [-Cs_E,-Fs_E];refine hK _ ?_;clear hK K;refine Qc rfl (fun h=>by simp [-Cs_E,-Fs_E] at h) fun _=>?_;refine Qd ?_;refine Q4 ?_;refine srQ hN fun K hK=>?_;simp [-Cs_E,-Fs_E];refine hK _ ?_;clear hK K;refine Qa ?_;refine QJ (fun i:Nat=>⟨[(0,.lst u 12 (Fs xs)),(1,.lst v 12 (Fs xs)),(5,iV i)],[],0⟩) (fun i=>i≤xs.length) (fun i=>xs.length - i) 0 (by simp [-Cs_E,-Fs_E]) (Wk.cut (by simp [-Cs_E,-Fs_E]) (by simp [-Cs_E,-Fs_E]) rfl) ?_;intro i hi;refine Q4 ?_;refine srQ hN fun K hK=>?_;simp [-Cs_E,-Fs_E];refine hK _ ?_;clear hK K;refine Qc rfl (fun h=>?_) fun h=>?_
 ·simp [-Cs_E,-Fs_E] at h;refine Qd ?_;refine Q4 ?_;refine Qa ?_;refine srQ hN fun K hK=>?_;simp [-Cs_E,-Fs_E,h,Fn.cells];refine Q3 (eqFn true true xs[i]) (.cons (.aggL Fn.pur) (.cons (.aggL Fn.pur) .nil)) ?_;simp [-Cs_E,-Fs_E,unk,unA,unE,flat];refine hK _ ?_;clear hK K;refine Qc rfl (fun h=>by simp [-Cs_E,-Fs_E] at h) fun _=>?_;refine Qd ?_;refine runQ hN fun K hK=>?_;simp [-Cs_E,-Fs_E];refine hK _ ?_;clear hK K;rw [Qn (n:=xs.length) (by omega) (by omega)];refine ⟨i+1,by omega,by dsimp only;omega,Wk.relabel [] (by simp [-Cs_E,-Fs_E]) (by simp [-Cs_E,-Fs_E]) (by rw [hP];simp [-Cs_E,-Fs_E]) (by simp [-Cs_E,-Fs_E]) (by simp [-Cs_E,-Fs_E]) (by simp [-Cs_E,-Fs_E]) (by simp [-Cs_E,-Fs_E])⟩
 simp [-Cs_E,-Fs_E] at h;refine Qj ?_;simp [-Cs_E,-Fs_E];refine srQ hN fun K hK=>?_;simp [-Cs_E,-Fs_E];refine hK _ ?_;clear hK K;refine Qg (Qi rfl rfl)
theorem eqFam (u v:Bool) (f:Fam):Contract Try.prog 32 [.agg (f.cells u),.agg (f.cells v)] (.val (.bool true)):=by
 refine Qe (rs:=[.val (.bool true)]) Try.func32 rfl rfl rfl rfl (by simp [-Cs_E,-Fs_E,Try.f32]) fun F hN hP=>?_;refine srQ hN fun K hK=>?_;simp [-Cs_E,-Fs_E,Fam.cells];refine hK _ ?_;clear hK K;refine Q4 ?_;refine srQ hN fun K hK=>?_;simp [-Cs_E,-Fs_E];refine Q3 (c26 u v f.b) (.cons (.aggL Cat.pur) (.cons (.aggL Cat.pur) .nil)) ?_;simp [-Cs_E,-Fs_E,unk,unA,unE,flat];refine hK _ ?_;clear hK K;refine Qc rfl (fun h=>by simp [-Cs_E,-Fs_E] at h) fun _=>?_;refine Qd ?_;refine Q4 ?_;refine srQ hN fun K hK=>?_;simp [-Cs_E,-Fs_E];refine Q3 (eqCats u v f.fb) (.cons .lst (.cons .lst .nil)) ?_;simp [-Cs_E,-Fs_E,unk,unA,unE,flat];refine hK _ ?_;clear hK K;refine Qc rfl (fun h=>by simp [-Cs_E,-Fs_E] at h) fun _=>?_;refine Qd ?_;refine Q4 ?_;refine srQ hN fun K hK=>?_;simp [-Cs_E,-Fs_E];refine Q3 (eqFns u v f.ch) (.cons .lst (.cons .lst .nil)) ?_;simp [-Cs_E,-Fs_E,unk,unA,unE,flat];refine hK _ ?_;clear hK K;refine Qc rfl (fun h=>by simp [-Cs_E,-Fs_E] at h) fun _=>?_;refine Qd ?_;refine srQ hN fun K hK=>?_;simp [-Cs_E,-Fs_E];refine hK _ ?_;clear hK K;refine Qg (Qi rfl rfl)
theorem markCats (xs:List Cat) (k:Int) (h1:xs.length≤1048576) (h1':∀ x∈xs,x.ok) (h2:0≤k) (h3:k+sumB Cat.sizeE xs≤1152921504606846976) :
  MContract Try.prog 98 [.own 0 0 xs.length,iV k] [⟨5,Cs xs,Cs (Q4c Cat.markE Cat.sizeE k xs)⟩] (iV (k+sumB Cat.sizeE xs)):=by
 refine QU (ts:=[4]) (rv:=.int .i64 (k+sumB Cat.sizeE xs)) Try.func98 rfl rfl ?_ rfl (by simp [-Cs_E,-Fs_E,Try.f98]) ?_ fun F hN hP=>?_
 ·have:(-9223372036854775808≤k+sumB Cat.sizeE xs)∧k+sumB Cat.sizeE xs≤9223372036854775807:=by omega
  simp [-Cs_E,-Fs_E,resV,this]
 ·intro j hj;simp [-Cs_E,-Fs_E] at hj;subst hj;simp [-Cs_E,-Fs_E]
 refine srQ hN fun K hK=>?_;simp [-Cs_E,-Fs_E];refine hK _ ?_;clear hK K;refine Q4 ?_;refine srQ hN fun K hK=>?_;simp [-Cs_E,-Fs_E];refine hK _ ?_;clear hK K;refine Qa ?_;refine QJ (fun p:Nat × Int × List Cat=>⟨[(0,.own 0 0 xs.length),(1,iV p.2.1),(5,iV p.1)],[(0,.row 5 (Cs p.2.2))],1⟩) (fun p=>p.1≤xs.length∧p.2.1=k+sumB Cat.sizeE (xs.take p.1)∧p.2.2.length=xs.length∧p.2.2.take p.1=(Q4c Cat.markE Cat.sizeE k xs).take p.1∧p.2.2.drop p.1=xs.drop p.1) (fun p=>xs.length - p.1) (0,k,xs) (by simp [-Cs_E,-Fs_E,sumB]) (Wk.cut (by simp [-Cs_E,-Fs_E]) (by simp [-Cs_E,-Fs_E,Q3P]) rfl) ?_
 rintro ⟨i,k0,ys⟩ ⟨hi,hk0,hy,ht,hd⟩
 simp only at hi hk0 hy ht hd;refine Q4 ?_;refine srQ hN fun K hK=>?_;simp [-Cs_E,-Fs_E];refine hK _ ?_;clear hK K;refine Qc rfl (fun h=>?_) fun h=>?_
 ·simp [-Cs_E,-Fs_E] at h;refine Qd ?_;refine Q4 ?_;refine Qa ?_;have hiy:i<ys.length:=by omega
  have he:ys[i]=xs[i]:=drop_at h hiy hd;have hq1:=Q7c Cat.sizeE xs i h;have hq2:=sumB_le Cat.sizeE xs (i+1);obtain ⟨hc1,hc2,hc3,hc4,hc5,hc6⟩:=h1' _ (List.getElem_mem h);have hz:Cat.sizeE xs[i]=1+xs[i].fr.length+xs[i].to.length+xs[i].id.length+sumL xs[i].cs:=by simp only [Cat.sizeE,Cat.size];omega
  refine srQ hN fun K hK=>?_;simp [-Cs_E,-Fs_E,h,hy,hiy,he,Cat.cells,Cat.markE];refine hK _ ?_;clear hK K;refine srQ hN fun K hK=>?_;simp [-Cs_E,-Fs_E];refine hK _ ?_;clear hK K;rw [Qk (x:=k0+1) ⟨by omega,by omega⟩];refine Q2h mo (by rw [hN];decide) fun K hK=>?_;simp [-Cs_E,-Fs_E,h,hy,hiy];refine QM [1] (m32 xs[i].fr (k0+1) (by omega) (by omega) (by omega)) rfl rfl (by simp [-Cs_E,-Fs_E,hiy]) (by simp [-Cs_E,-Fs_E]) (by simp [-Cs_E,-Fs_E,hiy]) (by simp [-Cs_E,-Fs_E,hiy]) (by simp [-Cs_E,-Fs_E]) (by simp [-Cs_E,-Fs_E]) ?_;simp [-Cs_E,-Fs_E,hiy];refine hK _ ?_;clear hK K;refine Q2h mo (by rw [hN];decide) fun K hK=>?_;simp [-Cs_E,-Fs_E,h,hy,hiy];refine QM [2] (m32 xs[i].to (k0+1+xs[i].fr.length) (by omega) (by omega) (by omega)) rfl rfl (by simp [-Cs_E,-Fs_E,hiy]) (by simp [-Cs_E,-Fs_E]) (by simp [-Cs_E,-Fs_E,hiy]) (by simp [-Cs_E,-Fs_E,hiy]) (by simp [-Cs_E,-Fs_E]) (by simp [-Cs_E,-Fs_E]) ?_;simp [-Cs_E,-Fs_E,hiy];refine hK _ ?_;clear hK K;refine Q2h mo (by rw [hN];decide) fun K hK=>?_;simp [-Cs_E,-Fs_E,h,hy,hiy];refine QM [3] (m32 xs[i].id (k0+1+xs[i].fr.length+xs[i].to.length) (by omega) (by omega) (by omega)) rfl rfl (by simp [-Cs_E,-Fs_E,hiy]) (by simp [-Cs_E,-Fs_E]) (by simp [-Cs_E,-Fs_E,hiy]) (by simp [-Cs_E,-Fs_E,hiy]) (by simp [-Cs_E,-Fs_E]) (by simp [-Cs_E,-Fs_E]) ?_;simp [-Cs_E,-Fs_E,hiy];refine hK _ ?_;clear hK K;refine Q8X mo (by rw [hN];decide) fun K hK=>?_;simp [-Cs_E,-Fs_E,h,hy,hiy];refine QM [4] (m33 xs[i].cs (k0+1+xs[i].fr.length+xs[i].to.length+xs[i].id.length) (by omega) hc5 (by omega) (by omega)) rfl rfl (by simp [-Cs_E,-Fs_E,hiy]) (by simp [-Cs_E,-Fs_E]) (by simp [-Cs_E,-Fs_E,hiy]) (by simp [-Cs_E,-Fs_E,hiy]) (by simp [-Cs_E,-Fs_E]) (by simp [-Cs_E,-Fs_E]) ?_;simp [-Cs_E,-Fs_E,hiy];refine hK _ ?_;clear hK K;refine runQ hN fun K hK=>?_;simp [-Cs_E,-Fs_E];refine hK _ ?_;clear hK K;rw [Qn (n:=xs.length) (by omega) (by omega)];refine ⟨(i+1,k0+Cat.sizeE xs[i],ys.set i (Cat.markE k0 xs[i])),⟨by dsimp only;omega,by dsimp only;omega,by simp [-Cs_E,-Fs_E,hy],?_,Q8n hd⟩,by dsimp only;omega,Wk.relabel [(0,0)] (by simp [-Cs_E,-Fs_E]) (by simp [-Cs_E,-Fs_E]) (by rw [hP];simp [-Cs_E,-Fs_E]) (by simp [-Cs_E,-Fs_E]) (by simp [-Cs_E,-Fs_E]) (by simp [-Cs_E,-Fs_E];rw [hz];simp [-Cs_E,-Fs_E,Int.add_assoc]) (by simp [-Cs_E,-Fs_E,Cs_set,Cat.cells,Cat.markE])⟩;have hg:=Q6U Cat.markE Cat.sizeE xs k i h;rw [← hk0] at hg;have:=Q78 (xs:=Q4c Cat.markE Cat.sizeE k xs) (ys:=ys) (i:=i) (by simpa using h) hiy ht;rw [hg] at this;exact this
 simp [-Cs_E,-Fs_E] at h;refine Qj ?_;simp [-Cs_E,-Fs_E];refine srQ hN fun K hK=>?_;simp [-Cs_E,-Fs_E];refine hK _ ?_;clear hK K;have hi':i=xs.length:=by omega
 subst hi';rw [List.take_of_length_le (by omega),List.take_of_length_le (by simp [-Cs_E,-Fs_E])] at ht;rw [List.take_length] at hk0;subst ht hk0;refine Qg ⟨?_,?_⟩
 ·simp [-Cs_E,-Fs_E,Q74]
 intro j hj;simp [-Cs_E,-Fs_E] at hj;subst hj;simp [-Cs_E,-Fs_E]
theorem markFns (xs:List Fn) (k:Int) (h1:xs.length≤1048576) (h1':∀ x∈xs,x.ok) (h2:0≤k) (h3:k+sumB Fn.sizeE xs≤1152921504606846976) :
  MContract Try.prog 99 [.own 0 0 xs.length,iV k] [⟨12,Fs xs,Fs (Q4c Fn.markE Fn.sizeE k xs)⟩] (iV (k+sumB Fn.sizeE xs)):=by
 refine QU (ts:=[4]) (rv:=.int .i64 (k+sumB Fn.sizeE xs)) Try.func99 rfl rfl ?_ rfl (by simp [-Cs_E,-Fs_E,Try.f99]) ?_ fun F hN hP=>?_
 ·have:(-9223372036854775808≤k+sumB Fn.sizeE xs)∧k+sumB Fn.sizeE xs≤9223372036854775807:=by omega
  simp [-Cs_E,-Fs_E,resV,this]
 ·intro j hj;simp [-Cs_E,-Fs_E] at hj;subst hj;simp [-Cs_E,-Fs_E]
 refine srQ hN fun K hK=>?_;simp [-Cs_E,-Fs_E];refine hK _ ?_;clear hK K;refine Q4 ?_;refine srQ hN fun K hK=>?_;simp [-Cs_E,-Fs_E];refine hK _ ?_;clear hK K;refine Qa ?_;refine QJ (fun p:Nat × Int × List Fn=>⟨[(0,.own 0 0 xs.length),(1,iV p.2.1),(5,iV p.1)],[(0,.row 12 (Fs p.2.2))],1⟩) (fun p=>p.1≤xs.length∧p.2.1=k+sumB Fn.sizeE (xs.take p.1)∧p.2.2.length=xs.length∧p.2.2.take p.1=(Q4c Fn.markE Fn.sizeE k xs).take p.1∧p.2.2.drop p.1=xs.drop p.1) (fun p=>xs.length - p.1) (0,k,xs) (by simp [-Cs_E,-Fs_E,sumB]) (Wk.cut (by simp [-Cs_E,-Fs_E]) (by simp [-Cs_E,-Fs_E,Q3P]) rfl) ?_
 rintro ⟨i,k0,ys⟩ ⟨hi,hk0,hy,ht,hd⟩
 simp only at hi hk0 hy ht hd;refine Q4 ?_;refine srQ hN fun K hK=>?_;simp [-Cs_E,-Fs_E];refine hK _ ?_;clear hK K;refine Qc rfl (fun h=>?_) fun h=>?_
 ·simp [-Cs_E,-Fs_E] at h;refine Qd ?_;refine Q4 ?_;refine Qa ?_;have hiy:i<ys.length:=by omega
  have he:ys[i]=xs[i]:=drop_at h hiy hd;have hq1:=Q7c Fn.sizeE xs i h;have hq2:=sumB_le Fn.sizeE xs (i+1);obtain ⟨⟨hs1,hs2,hs3,hs4,hs5,hs6⟩,⟨ht1,ht2,ht3,ht4,ht5,ht6⟩,ho,ha⟩:=h1' _ (List.getElem_mem h);have hz:Fn.sizeE xs[i]=1+xs[i].s.fr.length+xs[i].s.to.length+xs[i].s.id.length+sumL xs[i].s.cs+1+xs[i].t.fr.length+xs[i].t.to.length+xs[i].t.id.length+sumL xs[i].t.cs+xs[i].ob.length+xs[i].ar.length:=by simp only [Fn.sizeE,Cat.sizeE,Cat.size];omega
  refine srQ hN fun K hK=>?_;simp [-Cs_E,-Fs_E,h,hy,hiy,he,Fn.cells,Fn.markE,Cat.markE];refine hK _ ?_;clear hK K;refine srQ hN fun K hK=>?_;simp [-Cs_E,-Fs_E];refine hK _ ?_;clear hK K;rw [Qk (x:=k0+1) ⟨by omega,by omega⟩];refine Q2h mo (by rw [hN];decide) fun K hK=>?_;simp [-Cs_E,-Fs_E,h,hy,hiy];refine QM [1] (m32 xs[i].s.fr (k0+1) (by omega) (by omega) (by omega)) rfl rfl (by simp [-Cs_E,-Fs_E,hiy]) (by simp [-Cs_E,-Fs_E]) (by simp [-Cs_E,-Fs_E,hiy]) (by simp [-Cs_E,-Fs_E,hiy]) (by simp [-Cs_E,-Fs_E]) (by simp [-Cs_E,-Fs_E]) ?_;simp [-Cs_E,-Fs_E,hiy];refine hK _ ?_;clear hK K;refine Q2h mo (by rw [hN];decide) fun K hK=>?_;simp [-Cs_E,-Fs_E,h,hy,hiy];refine QM [2] (m32 xs[i].s.to (k0+1+xs[i].s.fr.length) (by omega) (by omega) (by omega)) rfl rfl (by simp [-Cs_E,-Fs_E,hiy]) (by simp [-Cs_E,-Fs_E]) (by simp [-Cs_E,-Fs_E,hiy]) (by simp [-Cs_E,-Fs_E,hiy]) (by simp [-Cs_E,-Fs_E]) (by simp [-Cs_E,-Fs_E]) ?_;simp [-Cs_E,-Fs_E,hiy];refine hK _ ?_;clear hK K;refine Q2h mo (by rw [hN];decide) fun K hK=>?_;simp [-Cs_E,-Fs_E,h,hy,hiy];refine QM [3] (m32 xs[i].s.id (k0+1+xs[i].s.fr.length+xs[i].s.to.length) (by omega) (by omega) (by omega)) rfl rfl (by simp [-Cs_E,-Fs_E,hiy]) (by simp [-Cs_E,-Fs_E]) (by simp [-Cs_E,-Fs_E,hiy]) (by simp [-Cs_E,-Fs_E,hiy]) (by simp [-Cs_E,-Fs_E]) (by simp [-Cs_E,-Fs_E]) ?_;simp [-Cs_E,-Fs_E,hiy];refine hK _ ?_;clear hK K;refine Q2h mo (by rw [hN];decide) fun K hK=>?_;simp [-Cs_E,-Fs_E,h,hy,hiy];refine QM [4] (m33 xs[i].s.cs (k0+1+xs[i].s.fr.length+xs[i].s.to.length+xs[i].s.id.length) (by omega) hs5 (by omega) (by omega)) rfl rfl (by simp [-Cs_E,-Fs_E,hiy]) (by simp [-Cs_E,-Fs_E]) (by simp [-Cs_E,-Fs_E,hiy]) (by simp [-Cs_E,-Fs_E,hiy]) (by simp [-Cs_E,-Fs_E]) (by simp [-Cs_E,-Fs_E]) ?_;simp [-Cs_E,-Fs_E,hiy];refine hK _ ?_;clear hK K;refine Q8 (st':=⟨[(0,.own 0 0 xs.length),(1,iV (k0+1+xs[i].s.fr.length+xs[i].s.to.length+xs[i].s.id.length+sumL xs[i].s.cs)),(5,iV i)],[(0,.row 12 ((Fs ys).set i [iV (k0),lI (run (k0+1) xs[i].s.fr.length),lI (run (k0+1+xs[i].s.fr.length) xs[i].s.to.length),lI (run (k0+1+xs[i].s.fr.length+xs[i].s.to.length) xs[i].s.id.length),.lst true 1 (Ls (runs (k0+1+xs[i].s.fr.length+xs[i].s.to.length+xs[i].s.id.length) xs[i].s.cs)),iV xs[i].t.n,lI xs[i].t.fr,lI xs[i].t.to,lI xs[i].t.id,.lst true 1 (Ls xs[i].t.cs),lI xs[i].ob,lI xs[i].ar]))],1⟩) (Wk.relabel [(0,0)] (by simp [-Cs_E,-Fs_E]) (by simp [-Cs_E,-Fs_E]) (by rw [hP];simp [-Cs_E,-Fs_E]) (by simp [-Cs_E,-Fs_E]) (by simp [-Cs_E,-Fs_E]) (by simp [-Cs_E,-Fs_E]) (by simp [-Cs_E,-Fs_E])) ?_;refine srQ hN fun K hK=>?_;simp [-Cs_E,-Fs_E,h,hy,hiy,he,Fn.cells,Fn.markE,Cat.markE];refine hK _ ?_;clear hK K;refine srQ hN fun K hK=>?_;simp [-Cs_E,-Fs_E];refine hK _ ?_;clear hK K;rw [Qk (x:=k0+1+xs[i].s.fr.length+xs[i].s.to.length+xs[i].s.id.length+sumL xs[i].s.cs+1) ⟨by omega,by omega⟩];refine Q2h mo (by rw [hN];decide) fun K hK=>?_;simp [-Cs_E,-Fs_E,h,hy,hiy]
  refine QM [1] (m32 xs[i].t.fr (k0+1+xs[i].s.fr.length+xs[i].s.to.length+xs[i].s.id.length+sumL xs[i].s.cs+1) (by omega) (by omega) (by omega)) rfl rfl (by simp [-Cs_E,-Fs_E,hiy]) (by simp [-Cs_E,-Fs_E]) (by simp [-Cs_E,-Fs_E,hiy]) (by simp [-Cs_E,-Fs_E,hiy]) (by simp [-Cs_E,-Fs_E]) (by simp [-Cs_E,-Fs_E]) ?_;simp [-Cs_E,-Fs_E,hiy];refine hK _ ?_;clear hK K;refine Q2h mo (by rw [hN];decide) fun K hK=>?_;simp [-Cs_E,-Fs_E,h,hy,hiy];refine QM [2] (m32 xs[i].t.to (k0+1+xs[i].s.fr.length+xs[i].s.to.length+xs[i].s.id.length+sumL xs[i].s.cs+1+xs[i].t.fr.length) (by omega) (by omega) (by omega)) rfl rfl (by simp [-Cs_E,-Fs_E,hiy]) (by simp [-Cs_E,-Fs_E]) (by simp [-Cs_E,-Fs_E,hiy]) (by simp [-Cs_E,-Fs_E,hiy]) (by simp [-Cs_E,-Fs_E]) (by simp [-Cs_E,-Fs_E]) ?_;simp [-Cs_E,-Fs_E,hiy];refine hK _ ?_;clear hK K;refine Q2h mo (by rw [hN];decide) fun K hK=>?_;simp [-Cs_E,-Fs_E,h,hy,hiy];refine QM [3] (m32 xs[i].t.id (k0+1+xs[i].s.fr.length+xs[i].s.to.length+xs[i].s.id.length+sumL xs[i].s.cs+1+xs[i].t.fr.length+xs[i].t.to.length) (by omega) (by omega) (by omega)) rfl rfl (by simp [-Cs_E,-Fs_E,hiy]) (by simp [-Cs_E,-Fs_E]) (by simp [-Cs_E,-Fs_E,hiy]) (by simp [-Cs_E,-Fs_E,hiy]) (by simp [-Cs_E,-Fs_E]) (by simp [-Cs_E,-Fs_E]) ?_;simp [-Cs_E,-Fs_E,hiy];refine hK _ ?_;clear hK K;refine Q2h mo (by rw [hN];decide) fun K hK=>?_;simp [-Cs_E,-Fs_E,h,hy,hiy];refine QM [4] (m33 xs[i].t.cs (k0+1+xs[i].s.fr.length+xs[i].s.to.length+xs[i].s.id.length+sumL xs[i].s.cs+1+xs[i].t.fr.length+xs[i].t.to.length+xs[i].t.id.length) (by omega) ht5 (by omega) (by omega)) rfl rfl (by simp [-Cs_E,-Fs_E,hiy]) (by simp [-Cs_E,-Fs_E]) (by simp [-Cs_E,-Fs_E,hiy]) (by simp [-Cs_E,-Fs_E,hiy]) (by simp [-Cs_E,-Fs_E]) (by simp [-Cs_E,-Fs_E]) ?_;simp [-Cs_E,-Fs_E,hiy];refine hK _ ?_;clear hK K;refine Q2h mo (by rw [hN];decide) fun K hK=>?_;simp [-Cs_E,-Fs_E,h,hy,hiy];refine QM [5] (m32 xs[i].ob (k0+1+xs[i].s.fr.length+xs[i].s.to.length+xs[i].s.id.length+sumL xs[i].s.cs+1+xs[i].t.fr.length+xs[i].t.to.length+xs[i].t.id.length+sumL xs[i].t.cs) (by omega) (by omega) (by omega)) rfl rfl (by simp [-Cs_E,-Fs_E,hiy]) (by simp [-Cs_E,-Fs_E]) (by simp [-Cs_E,-Fs_E,hiy]) (by simp [-Cs_E,-Fs_E,hiy]) (by simp [-Cs_E,-Fs_E]) (by simp [-Cs_E,-Fs_E]) ?_;simp [-Cs_E,-Fs_E,hiy];refine hK _ ?_;clear hK K;refine Q8X mo (by rw [hN];decide) fun K hK=>?_;simp [-Cs_E,-Fs_E,h,hy,hiy];refine QM [6] (m32 xs[i].ar (k0+1+xs[i].s.fr.length+xs[i].s.to.length+xs[i].s.id.length+sumL xs[i].s.cs+1+xs[i].t.fr.length+xs[i].t.to.length+xs[i].t.id.length+sumL xs[i].t.cs+xs[i].ob.length) (by omega) (by omega) (by omega)) rfl rfl (by simp [-Cs_E,-Fs_E,hiy]) (by simp [-Cs_E,-Fs_E]) (by simp [-Cs_E,-Fs_E,hiy]) (by simp [-Cs_E,-Fs_E,hiy]) (by simp [-Cs_E,-Fs_E]) (by simp [-Cs_E,-Fs_E]) ?_;simp [-Cs_E,-Fs_E,hiy];refine hK _ ?_;clear hK K;refine runQ hN fun K hK=>?_;simp [-Cs_E,-Fs_E];refine hK _ ?_;clear hK K;rw [Qn (n:=xs.length) (by omega) (by omega)]
  refine ⟨(i+1,k0+Fn.sizeE xs[i],ys.set i (Fn.markE k0 xs[i])),⟨by dsimp only;omega,by dsimp only;omega,by simp [-Cs_E,-Fs_E,hy],?_,Q8n hd⟩,by dsimp only;omega,Wk.relabel [(0,0)] (by simp [-Cs_E,-Fs_E]) (by simp [-Cs_E,-Fs_E]) (by rw [hP];simp [-Cs_E,-Fs_E]) (by simp [-Cs_E,-Fs_E]) (by simp [-Cs_E,-Fs_E]) (by simp [-Cs_E,-Fs_E];rw [hz];simp [-Cs_E,-Fs_E,Int.add_assoc]) (by simp [-Cs_E,-Fs_E,Fs_set,Fn.cells,Fn.markE,Cat.markE])⟩;have hg:=Q6U Fn.markE Fn.sizeE xs k i h;rw [← hk0] at hg;have:=Q78 (xs:=Q4c Fn.markE Fn.sizeE k xs) (ys:=ys) (i:=i) (by simpa using h) hiy ht;rw [hg] at this;exact this
 simp [-Cs_E,-Fs_E] at h;refine Qj ?_;simp [-Cs_E,-Fs_E];refine srQ hN fun K hK=>?_;simp [-Cs_E,-Fs_E];refine hK _ ?_;clear hK K;have hi':i=xs.length:=by omega
 subst hi';rw [List.take_of_length_le (by omega),List.take_of_length_le (by simp [-Cs_E,-Fs_E])] at ht;rw [List.take_length] at hk0;subst ht hk0;refine Qg ⟨?_,?_⟩
 ·simp [-Cs_E,-Fs_E,Q74]
 intro j hj;simp [-Cs_E,-Fs_E] at hj;subst hj;simp [-Cs_E,-Fs_E]
theorem markFam (f:Fam) (k:Int) (hf:f.ok) (h2:0≤k) (h3:k+f.size≤576460752303423488) :
  MContract Try.prog 33 [.agg [iV f.b.n,.own 0 0 f.b.fr.length,.own 1 0 f.b.to.length,.own 2 0 f.b.id.length,.own 3 0 f.b.cs.length,.own 4 0 f.fb.length,.own 5 0 f.ch.length],iV k] (f.mu k) (iV (k+f.size)):=by
 obtain ⟨hf1,hf2,hf3,hf4,hf5⟩:=hf;have hz:f.size=f.b.size+sumB Cat.sizeE f.fb+sumB Fn.sizeE f.ch:=rfl;refine QU (ts:=[4]) (rv:=.int .i64 (k+f.size)) Try.func33 rfl rfl ?_ rfl (by simp [-Cs_E,-Fs_E,Try.f33]) ?_ fun F hN hP=>?_
 ·have:(-9223372036854775808≤k+f.size)∧k+f.size≤9223372036854775807:=by omega
  simp [-Cs_E,-Fs_E,resV,this]
 ·intro j hj;simp only [Fam.mu,List.length_cons,List.length_nil] at hj
  match j,hj with
  | 0,_=>simp [-Cs_E,-Fs_E,Fam.mu]
  | 1,_=>simp [-Cs_E,-Fs_E,Fam.mu]
  | 2,_=>simp [-Cs_E,-Fs_E,Fam.mu]
  | 3,_=>simp [-Cs_E,-Fs_E,Fam.mu]
  | 4,_=>simp [-Cs_E,-Fs_E,Fam.mu]
  | 5,_=>simp [-Cs_E,-Fs_E,Fam.mu]
 refine srQ hN fun K hK=>?_;simp [-Cs_E,-Fs_E,Q3P,Fam.mu];refine hK _ ?_;clear hK K;refine Q2h mo (by rw [hN];decide) fun K hK=>?_;simp [-Cs_E,-Fs_E];refine Q2r (m:=[0,1,2,3]) (m31 f.b k hf1 (by omega) (by omega)) (by decide) (.cons rfl (.cons rfl (.cons rfl (.cons rfl .nil)))) (.cons (.aggL (.cons .val (.cons (.own (j:=0) (by decide)) (.cons (.own (j:=1) (by decide)) (.cons (.own (j:=2) (by decide)) (.cons (.own (j:=3) (by decide)) .nil)))))) (.cons .val .nil)) rfl (by simp [-Cs_E,-Fs_E]) ?_;simp [-Cs_E,-Fs_E,Q4g,Cat.mu];refine hK _ ?_;clear hK K;rw [show k+f.b.fr.length+f.b.to.length+f.b.id.length+sumL f.b.cs=k+f.b.size by simp [-Cs_E,-Fs_E,Cat.size,Int.add_assoc]];refine Q2h mo (by rw [hN];decide) fun K hK=>?_;simp [-Cs_E,-Fs_E];refine Q1F (markCats f.fb (k+f.b.size) hf2 hf3 (by omega) (by omega)) rfl (by simp [-Cs_E,-Fs_E]) ?_;simp [-Cs_E,-Fs_E];refine hK _ ?_;clear hK K;refine Q2h mo (by rw [hN];decide) fun K hK=>?_;simp [-Cs_E,-Fs_E];refine Q1F (markFns f.ch (k+f.b.size+sumB Cat.sizeE f.fb) hf4 hf5 (by omega) (by omega)) rfl (by simp [-Cs_E,-Fs_E]) ?_;simp [-Cs_E,-Fs_E];refine hK _ ?_;clear hK K;refine srQ hN fun K hK=>?_;simp [-Cs_E,-Fs_E];refine hK _ ?_;clear hK K;refine Qg (mret ?_ ?_)
 ·simp [-Cs_E,-Fs_E,hz,Int.add_assoc]
 exact .cons rfl (.cons rfl (.cons rfl (.cons rfl (.cons rfl (.cons rfl (.nil))))))
attribute [local simp] eL eI Qw QH Q2e Cat.cells Fn.cells
noncomputable def Q3p (f_:Fn):Option Bool :=
 (
  (Q11 f_.s).bind fun v2 =>
  if ¬ (v2=true) then
   some true
  else
   (Q11 f_.t).bind fun v4 =>
   if ¬ (v4=true) then
    some true
   else
    if ¬ ((f_.ob.length:Int)=f_.s.n) then
     some true
    else
     some ((f_.ar.length:Int) != (f_.s.fr.length:Int)):Option (Bool)).bind fun b1 =>
 if b1=true then
  some false
 else
  (
   (Q1X f_.t.n f_.ob).bind fun v9 =>
   if ¬ (v9=true) then
    some true
   else
    (Q1X (f_.t.fr.length:Int) f_.ar).bind fun v11 =>
    some (!v11):Option (Bool)).bind fun b8 =>
  if b8=true then
   some false
  else
   (QC (σ:=Int) (ε:=Unit ⊕ Bool) (fun s27 =>
    if s27<(f_.s.fr.length:Int) then
     (
      ass (0≤s27∧s27<(f_.ar.length:Int)) <|
      ass (0≤ix f_.ar s27∧ix f_.ar s27<(f_.t.fr.length:Int)) <|
      ass (0≤s27∧s27<(f_.s.fr.length:Int)) <|
      ass (0≤ix f_.s.fr s27∧ix f_.s.fr s27<(f_.ob.length:Int)) <|
      if ¬ ((ix f_.t.fr (ix f_.ar s27))=(ix f_.ob (ix f_.s.fr s27))) then
       some true
      else
       ass (0≤s27∧s27<(f_.ar.length:Int)) <|
       ass (0≤ix f_.ar s27∧ix f_.ar s27<(f_.t.to.length:Int)) <|
       ass (0≤s27∧s27<(f_.s.to.length:Int)) <|
       ass (0≤ix f_.s.to s27∧ix f_.s.to s27<(f_.ob.length:Int)) <|
       some ((ix f_.t.to (ix f_.ar s27)) != (ix f_.ob (ix f_.s.to s27))):Option (Bool)).bind fun b29 =>
     if b29=true then
      some (Ctl.ret (Sum.inr false))
     else
      ass (B64 (s27+1)) <|
      some (Ctl.next (s27+1))
    else
     some (Ctl.ret (Sum.inl ()))) fuel 0).bind fun e13 =>
   match e13 with
   | .inl b13 =>
    (QC (σ:=Int) (ε:=Unit ⊕ Bool) (fun s49 =>
     if s49<f_.s.n then
      ass (0≤s49∧s49<(f_.s.id.length:Int)) <|
      ass (0≤ix f_.s.id s49∧ix f_.s.id s49<(f_.ar.length:Int)) <|
      ass (0≤s49∧s49<(f_.ob.length:Int)) <|
      ass (0≤ix f_.ob s49∧ix f_.ob s49<(f_.t.id.length:Int)) <|
      if ¬ ((ix f_.ar (ix f_.s.id s49))=(ix f_.t.id (ix f_.ob s49))) then
       some (Ctl.ret (Sum.inr false))
      else
       ass (B64 (s49+1)) <|
       some (Ctl.next (s49+1))
     else
      some (Ctl.ret (Sum.inl ()))) fuel 0).bind fun e41 =>
    match e41 with
    | .inl b41 =>
     (QC (σ:=Int) (ε:=Unit ⊕ Bool) (fun s90 =>
      if s90<(f_.s.fr.length:Int) then
       (
        (QC (σ:=Int) (ε:=Bool ⊕ Unit) (fun s107 =>
         if s107<(f_.s.fr.length:Int) then
          (
           ass (0≤s90∧s90<(f_.s.to.length:Int)) <|
           ass (0≤s107∧s107<(f_.s.fr.length:Int)) <|
           if (ix f_.s.to s90)=(ix f_.s.fr s107) then
            ass (0≤s90∧s90<(f_.s.cs.length:Int)) <|
            ass (0≤s107∧s107<((rx f_.s.cs s90).length:Int)) <|
            ass (0≤ix (rx f_.s.cs s90) s107∧ix (rx f_.s.cs s90) s107<(f_.ar.length:Int)) <|
            ass (0≤s90∧s90<(f_.ar.length:Int)) <|
            ass (0≤ix f_.ar s90∧ix f_.ar s90<(f_.t.cs.length:Int)) <|
            ass (0≤s107∧s107<(f_.ar.length:Int)) <|
            ass (0≤ix f_.ar s107∧ix f_.ar s107<((rx f_.t.cs (ix f_.ar s90)).length:Int)) <|
            some ((ix f_.ar (ix (rx f_.s.cs s90) s107)) != (ix (rx f_.t.cs (ix f_.ar s90)) (ix f_.ar s107)))
           else
            some false:Option (Bool)).bind fun b109 =>
          if b109=true then
           some (Ctl.ret (Sum.inl false))
          else
           ass (B64 (s107+1)) <|
           some (Ctl.next (s107+1))
         else
          some (Ctl.ret (Sum.inr ()))) fuel 0).bind fun e107 =>
        match e107 with
        | .inl p107 =>
         some (Sum.inr p107)
        | .inr p107 =>
         some (Sum.inl p107):Option (Unit ⊕ Bool)).bind fun e92 =>
       match e92 with
       | .inl b92 =>
        ass (B64 (s90+1)) <|
        some (Ctl.next (s90+1))
       | .inr p92 =>
        some (Ctl.ret (Sum.inr p92))
      else
       some (Ctl.ret (Sum.inl ()))) fuel 0).bind fun e57 =>
     match e57 with
     | .inl b57 =>
      some true
     | .inr p57 =>
      some p57
    | .inr p41 =>
     some p41
   | .inr p13 =>
    some p13
theorem w_s_l06Is (f_:Fn) (r:Bool) (h:Q3p f_=some r):Contract Try.prog 73 [.agg (f_.cells true)] (.val (.bool r)):=by
 refine Qf (rvs:=[.tmp 2]) (rs:=[.val (.bool r)]) Try.func73 rfl rfl rfl rfl (by simp [Try.f73]) fun F hN hP=>?_;unfold Q3p at h;refine Q4 ?_;refine runQ hN fun K hK=>?_;simp [-Q0,-Q6,-Q1,-Q7,-Q2];repeat refine sdQ ?_
 refine hK _ ?_;clear hK K;refine tn ?_;refine Q8 (st':=⟨[(1,.adr 0 0 0)],[(0,.mix 12 [(Fn.cells true f_)])],1⟩) (wkQ8 [(0,0)]) ?_;refine Q4 ?_;refine w_runS mo (by rw [hN];decide) fun K hK=>?_;simp [-Q0,-Q6,-Q1,-Q7,-Q2];repeat refine sdQ ?_
 refine hK _ ?_;clear hK K;refine tn ?_;refine Q8 (st':=⟨[(1,.adr 0 0 0),(3,.adr 1 0 0),(4,.adr 2 0 0)],[(0,.mix 12 [(Fn.cells true f_)]),(1,.mix 5 [(Cat.cells true f_.s)]),(2,.mix 5 [(Cat.cells true f_.t)])],3⟩) (wkQ8 [(0,0),(1,1),(2,2)]) ?_;refine Q4 ?_;refine Q4 ?_;replace h:=bind_some h;obtain ⟨e1,h,h1⟩:=h;refine Qh (fun b1:Bool=>⟨[(1,.adr 0 0 0),(3,.adr 1 0 0),(4,.adr 2 0 0),(37,.val (.bool b1))],[(0,.mix 12 [(Fn.cells true f_)]),(1,.mix 5 [(Cat.cells true f_.s)]),(2,.mix 5 [(Cat.cells true f_.t)])],3⟩) (fun b1=>b1=e1) ?_ ?_
 ·refine runQ hN fun K hK=>?_;simp [-Q0,-Q6,-Q1,-Q7,-Q2];repeat with_reducible refine sdQ ?_
  replace h:=bind_some h;obtain ⟨v2,hv2,h⟩:=h;refine Q3 (Q4m _ v2 hv2) (.cons (.aggL (.cons .val (.cons .lst (.cons .lst (.cons .lst (.cons .lst .nil)))))) .nil) ?_;simp [-Q0,-Q6,-Q1,-Q7,-Q2,unk,unA,unE,unT,unC,flat];repeat with_reducible refine sdQ ?_
  refine Qq (fun g=>?_) (fun g=>?_)
  ·have g3:¬ (¬ (v2=true)):=gQ;clear g;replace h:=if_r g3 h;simp [-Q0,-Q6,-Q1,-Q7,-Q2];(repeat with_reducible refine sdQ ?_);replace h:=bind_some h;obtain ⟨v4,hv4,h⟩:=h;refine Q3 (Q4m _ v4 hv4) (.cons (.aggL (.cons .val (.cons .lst (.cons .lst (.cons .lst (.cons .lst .nil)))))) .nil) ?_;simp [-Q0,-Q6,-Q1,-Q7,-Q2,unk,unA,unE,unT,unC,flat];(repeat with_reducible refine sdQ ?_);refine Qq (fun g=>?_) (fun g=>?_)
   ·have g5:¬ (¬ (v4=true)):=gQ;clear g;replace h:=if_r g5 h;simp [-Q0,-Q6,-Q1,-Q7,-Q2];(repeat with_reducible refine sdQ ?_);refine Qq (fun g=>?_) (fun g=>?_)
    ·have g6:¬ (¬ ((f_.ob.length:Int)=f_.s.n)):=gQ;clear g;replace h:=if_r g6 h;simp [-Q0,-Q6,-Q1,-Q7,-Q2];(repeat refine sdQ ?_);refine hK _ ?_;exact jn (b:=(f_.ar.length:Int) != (f_.s.fr.length:Int)) (Option.some.inj h) (wkQ8 [(0,0),(1,1),(2,2)])
    have g6:¬ ((f_.ob.length:Int)=f_.s.n):=gQ;clear g;replace h:=if_l g6 h;simp [-Q0,-Q6,-Q1,-Q7,-Q2];(repeat refine sdQ ?_);refine hK _ ?_;exact jn (b:=true) (Option.some.inj h) (wkQ8 [(0,0),(1,1),(2,2)])
   have g5:¬ (v4=true):=gQ;clear g;replace h:=if_l g5 h;simp [-Q0,-Q6,-Q1,-Q7,-Q2];(repeat refine sdQ ?_);refine hK _ ?_;exact jn (b:=true) (Option.some.inj h) (wkQ8 [(0,0),(1,1),(2,2)])
  have g3:¬ (v2=true):=gQ;clear g;replace h:=if_l g3 h;simp [-Q0,-Q6,-Q1,-Q7,-Q2];repeat refine sdQ ?_
  refine hK _ ?_;exact jn (b:=true) (Option.some.inj h) (wkQ8 [(0,0),(1,1),(2,2)])
 intro b1 hb1;have h:=h1;try rw [← hb1] at h
 clear h1;try dsimp only at h
 refine Qc rfl (fun g=>?_) fun g=>?_
 ·have g7:b1=true:=gQ;clear g;replace h:=if_l g7 h;refine Q4 ?_;refine runQ hN fun K hK=>?_;simp [-Q0,-Q6,-Q1,-Q7,-Q2];repeat refine sdQ ?_
  refine hK _ ?_;clear hK K;refine tn ?_;refine Q8 (st':=⟨[(2,.val (.bool false))],[],0⟩) (wkQ8 []) ?_;refine Qg ?_;refine tr ?_;have hr:=Option.some.inj h;rw [← hr];refine ⟨_,(.tmp .nil),?_⟩;refine ⟨(.one rfl rfl .nil),[.val (.bool false)],[],by simp [Cat.cells,Fn.cells,UA,U1,IA,I1,LA,L1,BA,B1,EA,E1,E2,eB,eI,eL],by simp,(UpL.refl _)⟩
 have g7:¬ (b1=true):=gQ;clear g;replace h:=if_r g7 h;refine Qd ?_;refine tn ?_;refine Q4 ?_;refine Q4 ?_;replace h:=bind_some h;obtain ⟨e8,h,h8⟩:=h;refine Qh (fun b8:Bool=>⟨[(1,.adr 0 0 0),(3,.adr 1 0 0),(4,.adr 2 0 0),(52,.val (.bool b8))],[(0,.mix 12 [(Fn.cells true f_)]),(1,.mix 5 [(Cat.cells true f_.s)]),(2,.mix 5 [(Cat.cells true f_.t)])],3⟩) (fun b8=>b8=e8) ?_ ?_
 ·refine runQ hN fun K hK=>?_;simp [-Q0,-Q6,-Q1,-Q7,-Q2];repeat with_reducible refine sdQ ?_
  replace h:=bind_some h;obtain ⟨v9,hv9,h⟩:=h;refine Q3 (Q5Z _ _ v9 hv9) (.cons .val (.cons .lst .nil)) ?_;simp [-Q0,-Q6,-Q1,-Q7,-Q2,unk,unA,unE,unT,unC,flat];repeat with_reducible refine sdQ ?_
  refine Qq (fun g=>?_) (fun g=>?_)
  ·have g10:¬ (¬ (v9=true)):=gQ;clear g;replace h:=if_r g10 h;simp [-Q0,-Q6,-Q1,-Q7,-Q2];(repeat with_reducible refine sdQ ?_);replace h:=bind_some h;obtain ⟨v11,hv11,h⟩:=h;refine Q3 (Q5Z _ _ v11 hv11) (.cons .val (.cons .lst .nil)) ?_;simp [-Q0,-Q6,-Q1,-Q7,-Q2,unk,unA,unE,unT,unC,flat];(repeat refine sdQ ?_);refine hK _ ?_;exact jn (b:=!v11) (Option.some.inj h) (wkQ8 [(0,0),(1,1),(2,2)])
  have g10:¬ (v9=true):=gQ;clear g;replace h:=if_l g10 h;simp [-Q0,-Q6,-Q1,-Q7,-Q2];repeat refine sdQ ?_
  refine hK _ ?_;exact jn (b:=true) (Option.some.inj h) (wkQ8 [(0,0),(1,1),(2,2)])
 intro b8 hb8;have h:=h8;try rw [← hb8] at h
 clear h8;try dsimp only at h
 refine Qc rfl (fun g=>?_) fun g=>?_
 ·have g12:b8=true:=gQ;clear g;replace h:=if_l g12 h;refine Q4 ?_;refine runQ hN fun K hK=>?_;simp [-Q0,-Q6,-Q1,-Q7,-Q2];repeat refine sdQ ?_
  refine hK _ ?_;clear hK K;refine tn ?_;refine Q8 (st':=⟨[(2,.val (.bool false))],[],0⟩) (wkQ8 []) ?_;refine Qg ?_;refine tr ?_;have hr:=Option.some.inj h;rw [← hr];refine ⟨_,(.tmp .nil),?_⟩;refine ⟨(.one rfl rfl .nil),[.val (.bool false)],[],by simp [Cat.cells,Fn.cells,UA,U1,IA,I1,LA,L1,BA,B1,EA,E1,E2,eB,eI,eL],by simp,(UpL.refl _)⟩
 have g12:¬ (b8=true):=gQ;clear g;replace h:=if_r g12 h;refine Qd ?_;refine tn ?_;refine Q4 ?_;refine Q4 ?_;refine runQ hN fun K hK=>?_;simp [-Q0,-Q6,-Q1,-Q7,-Q2];repeat refine sdQ ?_
 refine hK _ ?_;clear hK K;refine tn ?_;refine Q8 (st':=⟨[(1,.adr 0 0 0),(3,.adr 1 0 0),(4,.adr 2 0 0),(5,iV 0)],[(0,.mix 12 [(Fn.cells true f_)]),(1,.mix 5 [(Cat.cells true f_.s)]),(2,.mix 5 [(Cat.cells true f_.t)])],3⟩) (wkQ8 [(0,0),(1,1),(2,2)]) ?_;replace h:=bind_some h;obtain ⟨e13,h,h13⟩:=h;refine Qh (fun b13:Unit=>⟨[(1,.adr 0 0 0),(3,.adr 1 0 0),(4,.adr 2 0 0)],[(0,.mix 12 [(Fn.cells true f_)]),(1,.mix 5 [(Cat.cells true f_.s)]),(2,.mix 5 [(Cat.cells true f_.t)])],3⟩) (fun b13=>Sum.inl b13=e13) ?_ ?_
 ·refine Qa ?_;refine Qu h (fun s27:Int=>⟨[(1,.adr 0 0 0),(3,.adr 1 0 0),(4,.adr 2 0 0),(5,iV s27)],[(0,.mix 12 [(Fn.cells true f_)]),(1,.mix 5 [(Cat.cells true f_.s)]),(2,.mix 5 [(Cat.cells true f_.t)])],3⟩) (wkQ8 [(0,0),(1,1),(2,2)]) ?_;clear h;intro k27 s27 c27 h hk27;refine Q4 ?_;refine Q4 ?_;refine runQ hN fun K hK=>?_;simp [-Q0,-Q6,-Q1,-Q7,-Q2];repeat refine sdQ ?_
  refine hK _ ?_;clear hK K;refine tn ?_;refine Q8 (st':=⟨[(1,.adr 0 0 0),(3,.adr 1 0 0),(4,.adr 2 0 0),(5,iV s27),(57,.val (.bool (decide (s27<(f_.s.fr.length:Int)))))],[(0,.mix 12 [(Fn.cells true f_)]),(1,.mix 5 [(Cat.cells true f_.s)]),(2,.mix 5 [(Cat.cells true f_.t)])],3⟩) (wkQ8 [(0,0),(1,1),(2,2)]) ?_;refine Qc rfl (fun g=>?_) fun g=>?_
  ·have g28:s27<(f_.s.fr.length:Int):=gQ;clear g;replace h:=if_l g28 h;refine Qd ?_;refine tn ?_;refine Q4 ?_;refine Qa ?_;refine Q4 ?_;replace h:=bind_some h;obtain ⟨e29,h,h29⟩:=h;refine Qh (fun b29:Bool=>⟨[(1,.adr 0 0 0),(3,.adr 1 0 0),(4,.adr 2 0 0),(5,iV s27),(99,.val (.bool b29))],[(0,.mix 12 [(Fn.cells true f_)]),(1,.mix 5 [(Cat.cells true f_.s)]),(2,.mix 5 [(Cat.cells true f_.t)])],3⟩) (fun b29=>b29=e29) ?_ ?_
   ·refine runQ hN fun K hK=>?_;replace h:=Q5 h;obtain ⟨a30,h⟩:=h;replace h:=Q5 h;obtain ⟨a31,h⟩:=h;replace h:=Q5 h;obtain ⟨a32,h⟩:=h;replace h:=Q5 h;obtain ⟨a33,h⟩:=h;simp [-Q0,-Q6,-Q1,-Q7,-Q2,at_I a30,at_I a31,at_I a32,at_I a33];(repeat with_reducible refine sdQ ?_);refine Qq (fun g=>?_) (fun g=>?_)
    ·have g34:¬ (¬ ((ix f_.t.fr (ix f_.ar s27))=(ix f_.ob (ix f_.s.fr s27)))):=gQ;clear g;replace h:=if_r g34 h;replace h:=Q5 h;obtain ⟨a35,h⟩:=h;replace h:=Q5 h;obtain ⟨a36,h⟩:=h;replace h:=Q5 h;obtain ⟨a37,h⟩:=h;replace h:=Q5 h;obtain ⟨a38,h⟩:=h;simp [-Q0,-Q6,-Q1,-Q7,-Q2,at_I a30,at_I a31,at_I a32,at_I a33,at_I a35,at_I a36,at_I a37,at_I a38];(repeat refine sdQ ?_);refine hK _ ?_;exact jn (b:=(ix f_.t.to (ix f_.ar s27)) != (ix f_.ob (ix f_.s.to s27))) (Option.some.inj h) (wkQ8 [(0,0),(1,1),(2,2)])
    have g34:¬ ((ix f_.t.fr (ix f_.ar s27))=(ix f_.ob (ix f_.s.fr s27))):=gQ;clear g;replace h:=if_l g34 h;simp [-Q0,-Q6,-Q1,-Q7,-Q2,at_I a30,at_I a31,at_I a32,at_I a33];(repeat refine sdQ ?_);refine hK _ ?_;exact jn (b:=true) (Option.some.inj h) (wkQ8 [(0,0),(1,1),(2,2)])
   intro b29 hb29;have h:=h29;(try rw [← hb29] at h);clear h29;(try dsimp only at h);refine Qc rfl (fun g=>?_) fun g=>?_
   ·have g39:b29=true:=gQ;clear g;replace h:=if_l g39 h;refine Q4 ?_;refine runQ hN fun K hK=>?_;simp [-Q0,-Q6,-Q1,-Q7,-Q2];(repeat refine sdQ ?_);refine hK _ ?_;clear hK K;refine tn ?_;refine Q8 (st':=⟨[(2,.val (.bool false))],[],0⟩) (wkQ8 []) ?_;refine Qg ?_;refine br ?_;refine tr ?_;refine lr ?_;refine br ?_;refine tr ?_;cases h;have q:_=e13:=hk27;have h:=h13;rw [← q] at h;clear q;(try dsimp only at h);have hr:=Option.some.inj h;rw [← hr];refine ⟨_,(.tmp .nil),?_⟩;refine ⟨(.one rfl rfl .nil),[.val (.bool false)],[],by simp [Cat.cells,Fn.cells,UA,U1,IA,I1,LA,L1,BA,B1,EA,E1,E2,eB,eI,eL],by simp,(UpL.refl _)⟩
   have g39:¬ (b29=true):=gQ;clear g;replace h:=if_r g39 h;refine Qd ?_;refine bn ?_;refine tn ?_;refine runQ hN fun K hK=>?_;replace h:=Q5 h;obtain ⟨a40,h⟩:=h;simp [-Q0,-Q6,-Q1,-Q7,-Q2,Qk a40];(repeat refine sdQ ?_);refine hK _ ?_;clear hK K;cases h;exact rn (s':=s27+1) hk27 (wkQ8 [(0,0),(1,1),(2,2)])
  have g28:¬ (s27<(f_.s.fr.length:Int)):=gQ;clear g;replace h:=if_r g28 h;refine Qj ?_;refine tx ?_;refine lx ?_;refine bh ?_;cases h;exact jn (b:=()) hk27 (wkQ8 [(0,0),(1,1),(2,2)])
 intro b13 hb13;have h:=h13;try rw [← hb13] at h
 clear h13;try dsimp only at h
 refine Q4 ?_;refine Q4 ?_;refine runQ hN fun K hK=>?_;simp [-Q0,-Q6,-Q1,-Q7,-Q2];repeat refine sdQ ?_
 refine hK _ ?_;clear hK K;refine tn ?_;refine Q8 (st':=⟨[(1,.adr 0 0 0),(3,.adr 1 0 0),(4,.adr 2 0 0),(6,iV 0)],[(0,.mix 12 [(Fn.cells true f_)]),(1,.mix 5 [(Cat.cells true f_.s)]),(2,.mix 5 [(Cat.cells true f_.t)])],3⟩) (wkQ8 [(0,0),(1,1),(2,2)]) ?_;replace h:=bind_some h;obtain ⟨e41,h,h41⟩:=h;refine Qh (fun b41:Unit=>⟨[(1,.adr 0 0 0),(3,.adr 1 0 0),(4,.adr 2 0 0)],[(0,.mix 12 [(Fn.cells true f_)]),(1,.mix 5 [(Cat.cells true f_.s)]),(2,.mix 5 [(Cat.cells true f_.t)])],3⟩) (fun b41=>Sum.inl b41=e41) ?_ ?_
 ·refine Qa ?_;refine Qu h (fun s49:Int=>⟨[(1,.adr 0 0 0),(3,.adr 1 0 0),(4,.adr 2 0 0),(6,iV s49)],[(0,.mix 12 [(Fn.cells true f_)]),(1,.mix 5 [(Cat.cells true f_.s)]),(2,.mix 5 [(Cat.cells true f_.t)])],3⟩) (wkQ8 [(0,0),(1,1),(2,2)]) ?_;clear h;intro k49 s49 c49 h hk49;refine Q4 ?_;refine Q4 ?_;refine runQ hN fun K hK=>?_;simp [-Q0,-Q6,-Q1,-Q7,-Q2];repeat refine sdQ ?_
  refine hK _ ?_;clear hK K;refine tn ?_;refine Q8 (st':=⟨[(1,.adr 0 0 0),(3,.adr 1 0 0),(4,.adr 2 0 0),(6,iV s49),(103,.val (.bool (decide (s49<f_.s.n))))],[(0,.mix 12 [(Fn.cells true f_)]),(1,.mix 5 [(Cat.cells true f_.s)]),(2,.mix 5 [(Cat.cells true f_.t)])],3⟩) (wkQ8 [(0,0),(1,1),(2,2)]) ?_;refine Qc rfl (fun g=>?_) fun g=>?_
  ·have g50:s49<f_.s.n:=gQ;clear g;replace h:=if_l g50 h;refine Qd ?_;refine tn ?_;refine Q4 ?_;refine Qa ?_;refine Q4 ?_;refine runQ hN fun K hK=>?_;replace h:=Q5 h;obtain ⟨a51,h⟩:=h;replace h:=Q5 h;obtain ⟨a52,h⟩:=h;replace h:=Q5 h;obtain ⟨a53,h⟩:=h;replace h:=Q5 h;obtain ⟨a54,h⟩:=h;simp [-Q0,-Q6,-Q1,-Q7,-Q2,at_I a51,at_I a52,at_I a53,at_I a54];(repeat refine sdQ ?_);refine hK _ ?_;clear hK K;refine tn ?_;refine Q8 (st':=⟨[(1,.adr 0 0 0),(3,.adr 1 0 0),(4,.adr 2 0 0),(6,iV s49),(124,.val (.bool ((ix f_.ar (ix f_.s.id s49)) != (ix f_.t.id (ix f_.ob s49)))))],[(0,.mix 12 [(Fn.cells true f_)]),(1,.mix 5 [(Cat.cells true f_.s)]),(2,.mix 5 [(Cat.cells true f_.t)])],3⟩) (wkQ8 [(0,0),(1,1),(2,2)]) ?_;refine Qc rfl (fun g=>?_) fun g=>?_
   ·have g55:¬ ((ix f_.ar (ix f_.s.id s49))=(ix f_.t.id (ix f_.ob s49))):=gQ;clear g;replace h:=if_l g55 h;refine Q4 ?_;refine runQ hN fun K hK=>?_;simp [-Q0,-Q6,-Q1,-Q7,-Q2];(repeat refine sdQ ?_);refine hK _ ?_;clear hK K;refine tn ?_;refine Q8 (st':=⟨[(2,.val (.bool false))],[],0⟩) (wkQ8 []) ?_;refine Qg ?_;refine br ?_;refine tr ?_;refine lr ?_;refine br ?_;refine tr ?_;cases h;have q:_=e41:=hk49;have h:=h41;rw [← q] at h;clear q;(try dsimp only at h);have hr:=Option.some.inj h;rw [← hr];refine ⟨_,(.tmp .nil),?_⟩;refine ⟨(.one rfl rfl .nil),[.val (.bool false)],[],by simp [Cat.cells,Fn.cells,UA,U1,IA,I1,LA,L1,BA,B1,EA,E1,E2,eB,eI,eL],by simp,(UpL.refl _)⟩
   have g55:¬ (¬ ((ix f_.ar (ix f_.s.id s49))=(ix f_.t.id (ix f_.ob s49)))):=gQ;clear g;replace h:=if_r g55 h;refine Qd ?_;refine bn ?_;refine tn ?_;refine runQ hN fun K hK=>?_;replace h:=Q5 h;obtain ⟨a56,h⟩:=h;simp [-Q0,-Q6,-Q1,-Q7,-Q2,Qk a56];(repeat refine sdQ ?_);refine hK _ ?_;clear hK K;cases h;exact rn (s':=s49+1) hk49 (wkQ8 [(0,0),(1,1),(2,2)])
  have g50:¬ (s49<f_.s.n):=gQ;clear g;replace h:=if_r g50 h;refine Qj ?_;refine tx ?_;refine lx ?_;refine bh ?_;cases h;exact jn (b:=()) hk49 (wkQ8 [(0,0),(1,1),(2,2)])
 intro b41 hb41;have h:=h41;try rw [← hb41] at h
 clear h41;try dsimp only at h
 refine Q4 ?_;refine Q4 ?_;refine runQ hN fun K hK=>?_;simp [-Q0,-Q6,-Q1,-Q7,-Q2];repeat refine sdQ ?_
 refine hK _ ?_;clear hK K;refine tn ?_;refine Q8 (st':=⟨[(1,.adr 0 0 0),(3,.adr 1 0 0),(4,.adr 2 0 0),(7,iV 0)],[(0,.mix 12 [(Fn.cells true f_)]),(1,.mix 5 [(Cat.cells true f_.s)]),(2,.mix 5 [(Cat.cells true f_.t)])],3⟩) (wkQ8 [(0,0),(1,1),(2,2)]) ?_;replace h:=bind_some h;obtain ⟨e57,h,h57⟩:=h;refine Qh (fun b57:Unit=>⟨[],[],0⟩) (fun b57=>Sum.inl b57=e57) ?_ ?_
 ·refine Qa ?_;refine Qu h (fun s90:Int=>⟨[(1,.adr 0 0 0),(3,.adr 1 0 0),(4,.adr 2 0 0),(7,iV s90)],[(0,.mix 12 [(Fn.cells true f_)]),(1,.mix 5 [(Cat.cells true f_.s)]),(2,.mix 5 [(Cat.cells true f_.t)])],3⟩) (wkQ8 [(0,0),(1,1),(2,2)]) ?_;clear h;intro k90 s90 c90 h hk90;refine Q4 ?_;refine Q4 ?_;refine runQ hN fun K hK=>?_;simp [-Q0,-Q6,-Q1,-Q7,-Q2];repeat refine sdQ ?_
  refine hK _ ?_;clear hK K;refine tn ?_;refine Q8 (st':=⟨[(1,.adr 0 0 0),(3,.adr 1 0 0),(4,.adr 2 0 0),(7,iV s90),(129,.val (.bool (decide (s90<(f_.s.fr.length:Int)))))],[(0,.mix 12 [(Fn.cells true f_)]),(1,.mix 5 [(Cat.cells true f_.s)]),(2,.mix 5 [(Cat.cells true f_.t)])],3⟩) (wkQ8 [(0,0),(1,1),(2,2)]) ?_;refine Qc rfl (fun g=>?_) fun g=>?_
  ·have g91:s90<(f_.s.fr.length:Int):=gQ;clear g;replace h:=if_l g91 h;refine Qd ?_;refine tn ?_;refine Q4 ?_;replace h:=bind_some h;obtain ⟨e92,h,h92⟩:=h;refine Qh (fun b92:Unit=>⟨[(1,.adr 0 0 0),(3,.adr 1 0 0),(4,.adr 2 0 0),(7,iV s90)],[(0,.mix 12 [(Fn.cells true f_)]),(1,.mix 5 [(Cat.cells true f_.s)]),(2,.mix 5 [(Cat.cells true f_.t)])],3⟩) (fun b92=>Sum.inl b92=e92) ?_ ?_
   ·refine Qa ?_;refine Q4 ?_;refine runQ hN fun K hK=>?_;simp [-Q0,-Q6,-Q1,-Q7,-Q2];(repeat refine sdQ ?_);refine hK _ ?_;clear hK K;refine tn ?_;refine Q8 (st':=⟨[(1,.adr 0 0 0),(3,.adr 1 0 0),(4,.adr 2 0 0),(7,iV s90),(8,iV 0)],[(0,.mix 12 [(Fn.cells true f_)]),(1,.mix 5 [(Cat.cells true f_.s)]),(2,.mix 5 [(Cat.cells true f_.t)])],3⟩) (wkQ8 [(0,0),(1,1),(2,2)]) ?_;refine Qa ?_;replace h:=bind_some h;obtain ⟨e107,he107,h107⟩:=h;refine Qu he107 (fun s107:Int=>⟨[(1,.adr 0 0 0),(3,.adr 1 0 0),(4,.adr 2 0 0),(7,iV s90),(8,iV s107)],[(0,.mix 12 [(Fn.cells true f_)]),(1,.mix 5 [(Cat.cells true f_.s)]),(2,.mix 5 [(Cat.cells true f_.t)])],3⟩) (wkQ8 [(0,0),(1,1),(2,2)]) ?_;intro k107 s107 c107 h hk107;refine Q4 ?_;refine Q4 ?_;refine runQ hN fun K hK=>?_;simp [-Q0,-Q6,-Q1,-Q7,-Q2];(repeat refine sdQ ?_);refine hK _ ?_;clear hK K;refine tn ?_;refine Q8 (st':=⟨[(1,.adr 0 0 0),(3,.adr 1 0 0),(4,.adr 2 0 0),(7,iV s90),(8,iV s107),(136,.val (.bool (decide (s107<(f_.s.fr.length:Int)))))],[(0,.mix 12 [(Fn.cells true f_)]),(1,.mix 5 [(Cat.cells true f_.s)]),(2,.mix 5 [(Cat.cells true f_.t)])],3⟩) (wkQ8 [(0,0),(1,1),(2,2)]) ?_;refine Qc rfl (fun g=>?_) fun g=>?_
    ·have g108:s107<(f_.s.fr.length:Int):=gQ;clear g;replace h:=if_l g108 h;refine Qd ?_;refine tn ?_;refine Q4 ?_;refine Qa ?_;refine Q4 ?_;replace h:=bind_some h;obtain ⟨e109,h,h109⟩:=h;refine Qh (fun b109:Bool=>⟨[(1,.adr 0 0 0),(3,.adr 1 0 0),(4,.adr 2 0 0),(7,iV s90),(8,iV s107),(180,.val (.bool b109))],[(0,.mix 12 [(Fn.cells true f_)]),(1,.mix 5 [(Cat.cells true f_.s)]),(2,.mix 5 [(Cat.cells true f_.t)])],3⟩) (fun b109=>b109=e109) ?_ ?_
     ·refine runQ hN fun K hK=>?_;replace h:=Q5 h;obtain ⟨a110,h⟩:=h;replace h:=Q5 h;obtain ⟨a111,h⟩:=h;simp [-Q0,-Q6,-Q1,-Q7,-Q2,at_I a110,at_I a111];(repeat with_reducible refine sdQ ?_);refine Qq (fun g=>?_) (fun g=>?_)
      ·have g112:(ix f_.s.to s90)=(ix f_.s.fr s107):=gQ;clear g;replace h:=if_l g112 h;replace h:=Q5 h;obtain ⟨a113,h⟩:=h;replace h:=Q5 h;obtain ⟨a114,h⟩:=h;replace h:=Q5 h;obtain ⟨a115,h⟩:=h;replace h:=Q5 h;obtain ⟨a116,h⟩:=h;replace h:=Q5 h;obtain ⟨a117,h⟩:=h;replace h:=Q5 h;obtain ⟨a118,h⟩:=h;replace h:=Q5 h;obtain ⟨a119,h⟩:=h;simp [-Q0,-Q6,-Q1,-Q7,-Q2,at_I a110,at_I a111,at_L a113,at_I a114,at_I a115,at_I a116,at_L a117,at_I a118,at_I a119];(repeat refine sdQ ?_);refine hK _ ?_;exact jn (b:=(ix f_.ar (ix (rx f_.s.cs s90) s107)) != (ix (rx f_.t.cs (ix f_.ar s90)) (ix f_.ar s107))) (Option.some.inj h) (wkQ8 [(0,0),(1,1),(2,2)])
      have g112:¬ ((ix f_.s.to s90)=(ix f_.s.fr s107)):=gQ;clear g;replace h:=if_r g112 h;simp [-Q0,-Q6,-Q1,-Q7,-Q2,at_I a110,at_I a111];(repeat refine sdQ ?_);refine hK _ ?_;exact jn (b:=false) (Option.some.inj h) (wkQ8 [(0,0),(1,1),(2,2)])
     intro b109 hb109;have h:=h109;(try rw [← hb109] at h);clear h109;(try dsimp only at h);refine Qc rfl (fun g=>?_) fun g=>?_
     ·have g120:b109=true:=gQ;clear g;replace h:=if_l g120 h;refine Q4 ?_;refine runQ hN fun K hK=>?_;simp [-Q0,-Q6,-Q1,-Q7,-Q2];(repeat refine sdQ ?_);refine hK _ ?_;clear hK K;refine tn ?_;refine Q8 (st':=⟨[(2,.val (.bool false))],[],0⟩) (wkQ8 []) ?_;refine Qg ?_;refine br ?_;refine tr ?_;refine lr ?_;refine br ?_;refine br ?_;refine tr ?_;refine lr ?_;refine br ?_;refine tr ?_;cases h;have q:_=e107:=hk107;have h:=h107;rw [← q] at h;clear q;(try dsimp only at h);cases h;have h:=h92;(try dsimp only at h);cases h;have q:_=e57:=hk90;have h:=h57;rw [← q] at h;clear q;(try dsimp only at h);have hr:=Option.some.inj h;rw [← hr];refine ⟨_,(.tmp .nil),?_⟩;refine ⟨(.one rfl rfl .nil),[.val (.bool false)],[],by simp [Cat.cells,Fn.cells,UA,U1,IA,I1,LA,L1,BA,B1,EA,E1,E2,eB,eI,eL],by simp,(UpL.refl _)⟩
     have g120:¬ (b109=true):=gQ;clear g;replace h:=if_r g120 h;refine Qd ?_;refine bn ?_;refine tn ?_;refine runQ hN fun K hK=>?_;replace h:=Q5 h;obtain ⟨a121,h⟩:=h;simp [-Q0,-Q6,-Q1,-Q7,-Q2,Qk a121];(repeat refine sdQ ?_);refine hK _ ?_;clear hK K;cases h;exact rn (s':=s107+1) hk107 (wkQ8 [(0,0),(1,1),(2,2)])
    have g108:¬ (s107<(f_.s.fr.length:Int)):=gQ;clear g;replace h:=if_r g108 h;refine Qj ?_;refine tx ?_;refine lx ?_;refine bh ?_;refine bn ?_;cases h;have q:_=e107:=hk107;have h:=h107;rw [← q] at h;clear q;(try dsimp only at h);exact jn (b:=()) (Option.some.inj h) (wkQ8 [(0,0),(1,1),(2,2)])
   intro b92 hb92;have h:=h92;(try rw [← hb92] at h);clear h92;(try dsimp only at h);refine runQ hN fun K hK=>?_;replace h:=Q5 h;obtain ⟨a122,h⟩:=h;simp [-Q0,-Q6,-Q1,-Q7,-Q2,Qk a122];(repeat refine sdQ ?_);refine hK _ ?_;clear hK K;cases h;exact rn (s':=s90+1) hk90 (wkQ8 [(0,0),(1,1),(2,2)])
  have g91:¬ (s90<(f_.s.fr.length:Int)):=gQ;clear g;replace h:=if_r g91 h;refine Qj ?_;refine tx ?_;refine lx ?_;refine bh ?_;cases h;exact jn (b:=()) hk90 (wkQ8 [])
 intro b57 hb57;have h:=h57;try rw [← hb57] at h
 clear h57;try dsimp only at h
 refine Q4 ?_;refine runQ hN fun K hK=>?_;simp [-Q0,-Q6,-Q1,-Q7,-Q2];repeat refine sdQ ?_
 refine hK _ ?_;clear hK K;refine tn ?_;refine Q8 (st':=⟨[(2,.val (.bool true))],[],0⟩) (wkQ8 []) ?_;refine Qg ?_;have hr:=Option.some.inj h;rw [← hr];refine ⟨_,(.tmp .nil),?_⟩;refine ⟨(.one rfl rfl .nil),[.val (.bool true)],[],by simp [Cat.cells,Fn.cells,UA,U1,IA,I1,LA,L1,BA,B1,EA,E1,E2,eB,eI,eL],by simp,(UpL.refl _)⟩
structure Fn.Is (f:Fn):Prop where
 s:f.s.Is
 t:f.t.Is
 lo:(f.ob.length:Int)=f.s.n
 la:f.ar.length=f.s.fr.length
 ob:∀ j:Nat,j<f.ob.length→0≤ix f.ob j∧ix f.ob j<f.t.n
 ar:∀ j:Nat,j<f.ar.length→0≤ix f.ar j∧ix f.ar j<f.t.fr.length
 ends:∀ a:Nat,a<f.s.fr.length→ix f.t.fr (ix f.ar a)=ix f.ob (ix f.s.fr a)∧ix f.t.to (ix f.ar a)=ix f.ob (ix f.s.to a)
 ids:∀ x:Nat,x<f.s.id.length→ix f.ar (ix f.s.id x)=ix f.t.id (ix f.ob x)
 comp:∀ a:Nat,a<f.s.fr.length→∀ b:Nat,b<f.s.fr.length→ix f.s.to a=ix f.s.fr b→ix f.ar (ix (rx f.s.cs a) b)=ix (rx f.t.cs (ix f.ar a)) (ix f.ar b)
theorem Cat.Sh.frn {c:Cat} (h:c.Sh) {a:Nat} (ha:a<c.fr.length):(0≤ix c.fr a∧ix c.fr a<c.id.length)∧(0≤ix c.to a∧ix c.to a<c.id.length):=⟨h.fr' (by omega) (by omega),h.to' (by omega) (by omega)⟩
theorem Cat.Sh.idn {c:Cat} (h:c.Sh) {a:Nat} (ha:a<c.id.length):0≤ix c.id a∧ix c.id a<c.fr.length:=h.id' (by omega) (by omega)
theorem Cat.Sh.cmp {c:Cat} (h:c.Sh) {f g:Int} (h0:0≤f) (h1:f<c.fr.length) (h2:0≤g) (h3:g<c.fr.length) (e:ix c.to f=ix c.fr g):0≤ix (rx c.cs f) g∧ix (rx c.cs f) g<c.fr.length:=by
 have:=(h.cell' h0 h1 h2 h3).2 e;omega
theorem e_l06Is (f:Fn):Q3p f=some (bo f.Is):=by
 unfold Q3p
 by_cases h1:f.s.Is
 case neg=>rw [Qm (show ¬ f.Is from fun q=>h1 q.s)];simp [Q11,bo,h1]
 by_cases h2:f.t.Is
 case neg=>rw [Qm (show ¬ f.Is from fun q=>h2 q.t)];simp [Q11,bo,h1,h2]
 by_cases h3:(f.ob.length:Int)=f.s.n
 case neg=>rw [Qm (show ¬ f.Is from fun q=>h3 q.lo)];simp [Q11,bo,h1,h2,h3]
 by_cases h4:(f.ar.length:Int)=f.s.fr.length
 case neg=>rw [Qm (show ¬ f.Is from fun q=>h4 (by rw [q.la]))];simp [Q11,bo,h1,h2,h3,h4]
 by_cases h5:f.ob.all (inR f.t.n)=true
 case neg=>rw [Qm (show ¬ f.Is from fun q=>h5 (all_inR.2 q.ob))];simp [Q11,Q1X,bo,h1,h2,h3,h4,h5]
 by_cases h6:f.ar.all (inR f.t.fr.length)=true
 case neg=>rw [Qm (show ¬ f.Is from fun q=>h6 (all_inR.2 q.ar))];simp [Q11,Q1X,bo,h1,h2,h3,h4,h5,h6]
 have ho:=all_inR.1 h5;have ha:=all_inR.1 h6;have hs:=h1.1;have ht:=h2.1;simp only [Q11,Q1X,QD h1,QD h2,h3,h4,h5,h6,Option.bind_some,if_true,if_false,not_true_eq_false,bne_self_eq_false,Bool.not_true,Bool.false_eq_true];refine Q2j f.s.fr.length (fun a:Nat=>ix f.t.fr (ix f.ar a)=ix f.ob (ix f.s.fr a)∧ix f.t.to (ix f.ar a)=ix f.ob (ix f.s.to a)) (eb:=Sum.inr false) (eg:=Sum.inl ()) (by have:=hs.m40;omega) (fun a hi hp=>?_) (fun a hi hp=>?_) ?_ (fun hx=>?_) fun q1=>?_
 ·have:=hs.frn hi;have:=ha a (by omega);have:=hs.lt;have:=ht.lt;have:=hs.li;have:=hs.m40;simp (disch:=omega) only [Q9,if_pos,B64,hp.1,hp.2,Option.bind_some,not_true_eq_false,if_false,bne_self_eq_false,Bool.false_eq_true]
 ·have:=hs.frn hi;have:=ha a (by omega);have:=hs.lt;have:=ht.lt;have:=hs.li;have:=hs.m40
  by_cases hp1:ix f.t.fr (ix f.ar a)=ix f.ob (ix f.s.fr a)
  ·have hp2:¬ ix f.t.to (ix f.ar a)=ix f.ob (ix f.s.to a):=fun h=>hp ⟨hp1,h⟩;simp (disch:=omega) [Q9,B64,hp1,hp2,hi]
  simp (disch:=omega) [Q9,B64,hp1,hi]
 ·simp
 ·rw [Qm (show ¬ f.Is from fun q=>hx q.ends)]
 simp only;refine Q2j f.s.id.length (fun x:Nat=>ix f.ar (ix f.s.id x)=ix f.t.id (ix f.ob x)) (eb:=Sum.inr false) (eg:=Sum.inl ()) (by have:=hs.n8;have:=hs.li;omega) (fun a hi hp=>?_) (fun a hi hp=>?_) ?_ (fun hx=>?_) fun q2=>?_
 ·have:=hs.idn hi;have:=ho a (by have:=hs.li;omega);have:=hs.li;have:=ht.li;have:=hs.n8;simp (disch:=omega) [Q9,B64,hp];omega
 ·have:=hs.idn hi;have:=ho a (by have:=hs.li;omega);have:=hs.li;have:=ht.li;have:=hs.n8;simp (disch:=omega) [Q9,B64,hp];omega
 ·simp [hs.li]
 ·rw [Qm (show ¬ f.Is from fun q=>hx q.ids)]
 simp only;refine Q2j f.s.fr.length (fun a:Nat=>∀ b:Nat,b<f.s.fr.length→ix f.s.to a=ix f.s.fr b→ix f.ar (ix (rx f.s.cs a) b)=ix (rx f.t.cs (ix f.ar a)) (ix f.ar b)) (eb:=Sum.inr false) (eg:=Sum.inl ()) (by have:=hs.m40;omega) (fun a hi hp=>?_) (fun a hi hp=>?_) ?_ (fun hx=>?_) fun q3=>?_;rotate_left 2
 ·simp
 ·rw [Qm (show ¬ f.Is from fun q=>hx q.comp)]
 ·rw [QD (show f.Is from ⟨h1,h2,h3,by omega,ho,ha,q1,q2,q3⟩)]
 all_goals
  have m40:=hs.m40;have h7:=hs.lt;have h8:=ha a (by omega);have h9:=hs.lc;have h10:=ht.lc;have h11:=hs.row' (j:=a) (by omega) (by omega);have h12:=ht.row' (j:=ix f.ar a) (by omega) (by omega);rw [if_pos (by omega)]
 all_goals
  rw [Option.bind_assoc];refine Q2j f.s.fr.length (fun b:Nat=>ix f.s.to a=ix f.s.fr b→ix f.ar (ix (rx f.s.cs a) b)=ix (rx f.t.cs (ix f.ar a)) (ix f.ar b)) (eb:=Sum.inl false) (eg:=Sum.inr ()) (by omega) (fun b hb hq=>?_) (fun b hb hq=>?_) ?_ (fun hn=>?_) fun hn=>?_
 all_goals first
  | exact absurd hp hn
  | exact absurd hn hp
  | (simp (disch:=omega) [Q9,B64];done)
  | skip
 all_goals
  have h13:=ha b (by omega)
  by_cases h14:ix f.s.to a=ix f.s.fr b
  ·have h15:=hs.cmp (f:=a) (g:=b) (by omega) (by omega) (by omega) (by omega) h14;first
    | (have hq1:=hq h14;simp (disch:=omega) [Q9,B64,h14,hq1,hb])
    | (have hq1:=fun e=>hq (fun _=>e);simp (disch:=omega) [Q9,B64,h14,hq1,hb];exact hq1)
  first
   | (simp (disch:=omega) [Q9,B64,h14,hb];done)
   | exact absurd (fun e=>absurd e h14) hq
attribute [local simp] eL eI Qw QH Q2e Cat.cells Fn.cells
noncomputable def Q1B (c_:Cat) (d_:Cat) (objects_:List Int) (arrows_:List Int):Option Fn :=
 (Q15 c_).bind fun v1 =>
 (Q15 d_).bind fun v2 =>
 (Q3o objects_).bind fun v3 =>
 (Q3o arrows_).bind fun v4 =>
 some (⟨v1,v2,v3,v4⟩:Fn)
theorem Q3Y (c_:Cat) (d_:Cat) (objects_:List Int) (arrows_:List Int) (r:Fn) (h:Q1B c_ d_ objects_ arrows_=some r):Contract Try.prog 87 [.rptr (c_.cells true),.rptr (d_.cells true),lI objects_,lI arrows_] (.agg (r.cells true)):=by
 refine Qf (rvs:=[.cell 8 44]) (rs:=[.agg (r.cells true)]) Try.func87 rfl rfl rfl rfl (by simp [Try.f87]) fun F hN hP=>?_;unfold Q1B at h;refine Q4 ?_;refine runQ hN fun K hK=>?_;simp [-Q0,-Q6,-Q1,-Q7,-Q2];repeat refine sdQ ?_
 refine hK _ ?_;clear hK K;refine tn ?_;refine Q8 (st':=⟨[(0,.rptr (Cat.cells true c_)),(1,.rptr (Cat.cells true d_)),(2,lI objects_),(3,lI arrows_),(8,.adr 0 0 0)],[(0,.mix 12 [[iV 0,.val (.slice none 0 0),.val (.slice none 0 0),.val (.slice none 0 0),.val (.slice none 0 0),iV 0,.val (.slice none 0 0),.val (.slice none 0 0),.val (.slice none 0 0),.val (.slice none 0 0),.val (.slice none 0 0),.val (.slice none 0 0)]])],1⟩) (wkQ8 [(0,0)]) ?_;refine Q4 ?_;refine runQ hN fun K hK=>?_;simp [-Q0,-Q6,-Q1,-Q7,-Q2];repeat with_reducible refine sdQ ?_
 replace h:=bind_some h;obtain ⟨v1,hv1,h⟩:=h;refine Q3 (Q2U _ v1 hv1) (.cons (.preT (by simp [Cat.cells])) .nil) ?_;simp [-Q0,-Q6,-Q1,-Q7,-Q2,unk,unA,unE,unT,unC,flat];repeat with_reducible refine sdQ ?_
 replace h:=bind_some h;obtain ⟨v2,hv2,h⟩:=h;refine Q3 (Q2U _ v2 hv2) (.cons (.preT (by simp [Cat.cells])) .nil) ?_;simp [-Q0,-Q6,-Q1,-Q7,-Q2,unk,unA,unE,unT,unC,flat];repeat with_reducible refine sdQ ?_
 replace h:=bind_some h;obtain ⟨v3,hv3,h⟩:=h;refine Q3 (Q7j _ v3 hv3) (.cons .lst .nil) ?_;simp [-Q0,-Q6,-Q1,-Q7,-Q2,unk,unA,unE,unT,unC,flat];repeat with_reducible refine sdQ ?_
 replace h:=bind_some h;obtain ⟨v4,hv4,h⟩:=h;refine Q3 (Q7j _ v4 hv4) (.cons .lst .nil) ?_;simp [-Q0,-Q6,-Q1,-Q7,-Q2,unk,unA,unE,unT,unC,flat];repeat refine sdQ ?_
 refine hK _ ?_;clear hK K;refine tn ?_;refine Q8 (st':=⟨[(8,.adr 0 0 0)],[(0,.mix 12 [[iV v1.n,.own 1 0 v1.fr.length,.own 2 0 v1.to.length,.own 3 0 v1.id.length,.own 4 0 v1.cs.length,iV v2.n,.own 5 0 v2.fr.length,.own 6 0 v2.to.length,.own 7 0 v2.id.length,.own 8 0 v2.cs.length,.own 9 0 v3.length,.own 10 0 v4.length]]),(1,rI v1.fr),(2,rI v1.to),(3,rI v1.id),(4,.row 1 (Ls v1.cs)),(5,rI v2.fr),(6,rI v2.to),(7,rI v2.id),(8,.row 1 (Ls v2.cs)),(9,rI v3),(10,rI v4)],11⟩) (wkQ8 [(0,0),(2,1),(3,2),(4,3),(5,4),(7,5),(8,6),(9,7),(10,8),(11,9),(12,10)]) ?_;refine Qg ?_;have hr:=Option.some.inj h;rw [← hr];refine ⟨_,(.cell Q3U rfl rfl rfl (by simp) (by simp) .nil),?_⟩;refine ⟨(.agg rfl .nil),[iV v1.n,lI v1.fr,lI v1.to,lI v1.id,.lst true 1 (Ls v1.cs),iV v2.n,lI v2.fr,lI v2.to,lI v2.id,.lst true 1 (Ls v2.cs),lI v3,lI v4],[1,2,3,4,5,6,7,8,9,10],by simp [Cat.cells,Fn.cells,UA,U1,IA,I1,LA,L1,BA,B1,EA,E1,E2,eB,eI,eL],by simp,(UpL.refl _)⟩
attribute [local simp] eL eI Qw QH Q2e Cat.cells Fn.cells
noncomputable def Q1g (f_:Fn) (g_:Fn):Option Fn :=
 (Q4i f_.ob g_.ob).bind fun v1 =>
 (Q4i f_.ar g_.ar).bind fun v2 =>
 (Q1B f_.s g_.t v1 v2).bind fun v3 =>
 some v3
theorem Q4T (f_:Fn) (g_:Fn) (r:Fn) (h:Q1g f_ g_=some r):Contract Try.prog 106 [.rptr (f_.cells true),.rptr (g_.cells true)] (.agg (r.cells true)):=by
 refine Qf (rvs:=[.cell 4 44]) (rs:=[.agg (r.cells true)]) Try.func106 rfl rfl rfl rfl (by simp [Try.f106]) fun F hN hP=>?_;unfold Q1g at h;refine Q4 ?_;refine runQ hN fun K hK=>?_;simp [-Q0,-Q6,-Q1,-Q7,-Q2];repeat refine sdQ ?_
 refine hK _ ?_;clear hK K;refine tn ?_;refine Q8 (st':=⟨[(0,.rptr (Fn.cells true f_)),(1,.rptr (Fn.cells true g_)),(4,.adr 0 0 0)],[(0,.mix 12 [[iV 0,.val (.slice none 0 0),.val (.slice none 0 0),.val (.slice none 0 0),.val (.slice none 0 0),iV 0,.val (.slice none 0 0),.val (.slice none 0 0),.val (.slice none 0 0),.val (.slice none 0 0),.val (.slice none 0 0),.val (.slice none 0 0)]])],1⟩) (wkQ8 [(0,0)]) ?_;refine Q4 ?_;refine runQ hN fun K hK=>?_;simp [-Q0,-Q6,-Q1,-Q7,-Q2];repeat with_reducible refine sdQ ?_
 replace h:=bind_some h;obtain ⟨v1,hv1,h⟩:=h;refine Q3 (Q8W _ _ v1 hv1) (.cons .lst (.cons .lst .nil)) ?_;simp [-Q0,-Q6,-Q1,-Q7,-Q2,unk,unA,unE,unT,unC,flat];repeat with_reducible refine sdQ ?_
 replace h:=bind_some h;obtain ⟨v2,hv2,h⟩:=h;refine Q3 (Q8W _ _ v2 hv2) (.cons .lst (.cons .lst .nil)) ?_;simp [-Q0,-Q6,-Q1,-Q7,-Q2,unk,unA,unE,unT,unC,flat];repeat with_reducible refine sdQ ?_
 replace h:=bind_some h;obtain ⟨v3,hv3,h⟩:=h;refine Q3 (Q3Y _ _ _ _ v3 hv3) (.cons (.preT (by simp [Cat.cells,Fn.cells])) (.cons (.preT (by simp [Cat.cells,Fn.cells])) (.cons (.whole (by simp) (by simp) (by simp)) (.cons (.whole (by simp) (by simp) (by simp)) .nil)))) ?_;simp [-Q0,-Q6,-Q1,-Q7,-Q2,unk,unA,unE,unT,unC,flat];repeat refine sdQ ?_
 refine hK _ ?_;clear hK K;refine tn ?_;refine Q8 (st':=⟨[(4,.adr 0 0 0)],[(0,.mix 12 [[iV v3.s.n,.own 1 0 v3.s.fr.length,.own 2 0 v3.s.to.length,.own 3 0 v3.s.id.length,.own 4 0 v3.s.cs.length,iV v3.t.n,.own 5 0 v3.t.fr.length,.own 6 0 v3.t.to.length,.own 7 0 v3.t.id.length,.own 8 0 v3.t.cs.length,.own 9 0 v3.ob.length,.own 10 0 v3.ar.length]]),(1,rI v3.s.fr),(2,rI v3.s.to),(3,rI v3.s.id),(4,.row 1 (Ls v3.s.cs)),(5,rI v3.t.fr),(6,rI v3.t.to),(7,rI v3.t.id),(8,.row 1 (Ls v3.t.cs)),(9,rI v3.ob),(10,rI v3.ar)],11⟩) (wkQ8 [(0,0),(4,1),(5,2),(6,3),(7,4),(9,5),(10,6),(11,7),(12,8),(13,9),(14,10)]) ?_;refine Qg ?_;have hr:=Option.some.inj h;rw [← hr];refine ⟨_,(.cell Q3U rfl rfl rfl (by simp) (by simp) .nil),?_⟩;refine ⟨(.agg rfl .nil),[iV v3.s.n,lI v3.s.fr,lI v3.s.to,lI v3.s.id,.lst true 1 (Ls v3.s.cs),iV v3.t.n,lI v3.t.fr,lI v3.t.to,lI v3.t.id,.lst true 1 (Ls v3.t.cs),lI v3.ob,lI v3.ar],[1,2,3,4,5,6,7,8,9,10],by simp [Cat.cells,Fn.cells,UA,U1,IA,I1,LA,L1,BA,B1,EA,E1,E2,eB,eI,eL],by simp,(UpL.refl _)⟩
attribute [local simp] eL eI Qw
noncomputable def Q1V (n_:Int):Option (List Int) :=
 ass (0≤n_∧n_≤1073741824) <|
 (QC (σ:=List Int × Int) (ε:=List Int) (fun s6 =>
  if s6.2<((List.replicate n_.toNat 0).length:Int) then
   ass (0≤s6.2∧s6.2<(s6.1.length:Int)) <|
   ass (B64 (s6.2+1)) <|
   some (Ctl.next (s6.1.set s6.2.toNat s6.2,s6.2+1))
  else
   some (Ctl.ret s6.1)) fuel (List.replicate n_.toNat 0,0)).bind fun b2 =>
 some b2
theorem Q5s (n_:Int) (r:List Int) (h:Q1V n_=some r):Contract Try.prog 188 [iV n_] (lI r):=by
 refine Qf (rvs:=[.tmp 2]) (rs:=[lI r]) Try.func188 rfl rfl rfl rfl (by simp [Try.f188]) fun F hN hP=>?_;unfold Q1V at h;refine Q4 ?_;refine runQ hN fun K hK=>?_;simp [-Q0,-Q6,-Q1,-Q7,-Q2];repeat refine sdQ ?_
 refine hK _ ?_;clear hK K;refine tn ?_;refine Q8 (st':=⟨[(0,iV n_)],[],0⟩) (wkQ8 []) ?_;refine Q4 ?_;refine runQ hN fun K hK=>?_;replace h:=Q5 h;obtain ⟨a1,h⟩:=h;simp [-Q0,-Q6,-Q1,-Q7,-Q2];repeat refine sdQ ?_
 refine hK _ ?_;clear hK K;refine tn ?_;refine Q8 (st':=⟨[(3,.own 0 0 ((List.replicate n_.toNat 0).length))],[(0,rI (List.replicate n_.toNat 0))],1⟩) (wkQ8 [(0,0)]) ?_;refine Q4 ?_;refine Q4 ?_;refine runQ hN fun K hK=>?_;simp [-Q0,-Q6,-Q1,-Q7,-Q2];repeat refine sdQ ?_
 refine hK _ ?_;clear hK K;refine tn ?_;refine Q8 (st':=⟨[(3,.own 0 0 ((List.replicate n_.toNat 0).length)),(8,iV ((List.replicate n_.toNat 0).length:Int)),(9,iV 0)],[(0,rI (List.replicate n_.toNat 0))],1⟩) (wkQ8 [(0,0)]) ?_;replace h:=bind_some h;obtain ⟨e2,h,h2⟩:=h;refine Qh (fun b2:List Int=>⟨[(3,.own 0 0 b2.length)],[(0,rI b2)],1⟩) (fun b2=>b2=e2) ?_ ?_
 ·refine Qa ?_;refine Qu h (fun s6:List Int × Int=>⟨[(3,.own 0 0 s6.1.length),(8,iV ((List.replicate n_.toNat 0).length:Int)),(9,iV s6.2)],[(0,rI s6.1)],1⟩) (wkQ8 [(0,0)]) ?_;clear h;intro k6 s6 c6 h hk6;refine Q4 ?_;refine runQ hN fun K hK=>?_;simp [-Q0,-Q6,-Q1,-Q7,-Q2];repeat refine sdQ ?_
  refine hK _ ?_;clear hK K;refine tn ?_;refine Q8 (st':=⟨[(3,.own 0 0 s6.1.length),(8,iV ((List.replicate n_.toNat 0).length:Int)),(9,iV s6.2),(10,.val (.bool (decide (s6.2<((List.replicate n_.toNat 0).length:Int)))))],[(0,rI s6.1)],1⟩) (wkQ8 [(0,0)]) ?_;refine Q4 ?_;refine Qc rfl (fun g=>?_) fun g=>?_
  ·have g7:s6.2<((List.replicate n_.toNat 0).length:Int):=gQ;clear g;replace h:=if_l g7 h;refine Qd ?_;refine tn ?_;refine Q4 ?_;refine Qa ?_;refine Q4 ?_;refine runQ hN fun K hK=>?_;simp [-Q0,-Q6,-Q1,-Q7,-Q2];(repeat refine sdQ ?_);refine hK _ ?_;clear hK K;refine tn ?_;refine Q8 (st':=⟨[(3,.own 0 0 s6.1.length),(4,iV s6.2),(8,iV ((List.replicate n_.toNat 0).length:Int)),(9,iV s6.2)],[(0,rI s6.1)],1⟩) (wkQ8 [(0,0)]) ?_;refine runQ hN fun K hK=>?_;replace h:=Q5 h;obtain ⟨a8,h⟩:=h;simp [-Q0,-Q6,-Q1,-Q7,-Q2,at_I a8];(repeat refine sdQ ?_);refine hK _ ?_;clear hK K;refine bn ?_;refine tn ?_;refine Q8 (st':=⟨[(3,.own 0 0 ((s6.1.set s6.2.toNat s6.2).length)),(8,iV ((List.replicate n_.toNat 0).length:Int)),(9,iV s6.2)],[(0,rI (s6.1.set s6.2.toNat s6.2))],1⟩) (wkQ8 [(0,0)]) ?_;refine runQ hN fun K hK=>?_;replace h:=Q5 h;obtain ⟨a9,h⟩:=h;simp [-Q0,-Q6,-Q1,-Q7,-Q2,Qk a9];(repeat refine sdQ ?_);refine hK _ ?_;clear hK K;cases h;exact rn (s':=(s6.1.set s6.2.toNat s6.2,s6.2+1)) hk6 (wkQ8 [(0,0)])
  have g7:¬ (s6.2<((List.replicate n_.toNat 0).length:Int)):=gQ;clear g;replace h:=if_r g7 h;refine Qj ?_;refine tx ?_;refine lx ?_;refine bh ?_;cases h;exact jn (b:=s6.1) hk6 (wkQ8 [(0,0)])
 intro b2 hb2;have h:=h2;try rw [← hb2] at h
 clear h2;try dsimp only at h
 refine Q4 ?_;refine runQ hN fun K hK=>?_;simp [-Q0,-Q6,-Q1,-Q7,-Q2];repeat refine sdQ ?_
 refine hK _ ?_;clear hK K;refine tn ?_;refine Q8 (st':=⟨[(2,.own 0 0 b2.length)],[(0,rI b2)],1⟩) (wkQ8 [(0,0)]) ?_;refine Qg ?_;have hr:=Option.some.inj h;rw [← hr];refine ⟨_,(.tmp .nil),?_⟩;refine ⟨(.one rfl rfl .nil),[lI b2],[0],by simp [UA,U1,IA,I1,LA,L1,BA,B1,EA,E1,E2,eB,eI,eL],by simp,(UpL.refl _)⟩
attribute [local simp] eL eI Qw QH Q2e Cat.cells Fn.cells
noncomputable def Q28 (c_:Cat):Option Fn :=
 (Q1V c_.n).bind fun v1 =>
 (Qr c_).bind fun v2 =>
 (Q1V v2).bind fun v3 =>
 (Q1B c_ c_ v1 v3).bind fun v4 =>
 some v4
theorem Q7k (c_:Cat) (r:Fn) (h:Q28 c_=some r):Contract Try.prog 144 [.rptr (c_.cells true)] (.agg (r.cells true)):=by
 refine Qf (rvs:=[.cell 2 44]) (rs:=[.agg (r.cells true)]) Try.func144 rfl rfl rfl rfl (by simp [Try.f144]) fun F hN hP=>?_;unfold Q28 at h;refine Q4 ?_;refine runQ hN fun K hK=>?_;simp [-Q0,-Q6,-Q1,-Q7,-Q2];repeat refine sdQ ?_
 refine hK _ ?_;clear hK K;refine tn ?_;refine Q8 (st':=⟨[(0,.rptr (Cat.cells true c_)),(2,.adr 0 0 0)],[(0,.mix 12 [[iV 0,.val (.slice none 0 0),.val (.slice none 0 0),.val (.slice none 0 0),.val (.slice none 0 0),iV 0,.val (.slice none 0 0),.val (.slice none 0 0),.val (.slice none 0 0),.val (.slice none 0 0),.val (.slice none 0 0),.val (.slice none 0 0)]])],1⟩) (wkQ8 [(0,0)]) ?_;refine Q4 ?_;refine runQ hN fun K hK=>?_;simp [-Q0,-Q6,-Q1,-Q7,-Q2];repeat with_reducible refine sdQ ?_
 replace h:=bind_some h;obtain ⟨v1,hv1,h⟩:=h;refine Q3 (Q5s _ v1 hv1) (.cons .val .nil) ?_;simp [-Q0,-Q6,-Q1,-Q7,-Q2,unk,unA,unE,unT,unC,flat];repeat with_reducible refine sdQ ?_
 replace h:=bind_some h;obtain ⟨v2,hv2,h⟩:=h;refine Q3 (QX _ v2 hv2) (.cons (.preT (by simp [Cat.cells])) .nil) ?_;simp [-Q0,-Q6,-Q1,-Q7,-Q2,unk,unA,unE,unT,unC,flat];repeat with_reducible refine sdQ ?_
 replace h:=bind_some h;obtain ⟨v3,hv3,h⟩:=h;refine Q3 (Q5s _ v3 hv3) (.cons .val .nil) ?_;simp [-Q0,-Q6,-Q1,-Q7,-Q2,unk,unA,unE,unT,unC,flat];repeat with_reducible refine sdQ ?_
 replace h:=bind_some h;obtain ⟨v4,hv4,h⟩:=h;refine Q3 (Q3Y _ _ _ _ v4 hv4) (.cons (.preT (by simp [Cat.cells])) (.cons (.preT (by simp [Cat.cells])) (.cons (.whole (by simp) (by simp) (by simp)) (.cons (.whole (by simp) (by simp) (by simp)) .nil)))) ?_;simp [-Q0,-Q6,-Q1,-Q7,-Q2,unk,unA,unE,unT,unC,flat];repeat refine sdQ ?_
 refine hK _ ?_;clear hK K;refine tn ?_;refine Q8 (st':=⟨[(2,.adr 0 0 0)],[(0,.mix 12 [[iV v4.s.n,.own 1 0 v4.s.fr.length,.own 2 0 v4.s.to.length,.own 3 0 v4.s.id.length,.own 4 0 v4.s.cs.length,iV v4.t.n,.own 5 0 v4.t.fr.length,.own 6 0 v4.t.to.length,.own 7 0 v4.t.id.length,.own 8 0 v4.t.cs.length,.own 9 0 v4.ob.length,.own 10 0 v4.ar.length]]),(1,rI v4.s.fr),(2,rI v4.s.to),(3,rI v4.s.id),(4,.row 1 (Ls v4.s.cs)),(5,rI v4.t.fr),(6,rI v4.t.to),(7,rI v4.t.id),(8,.row 1 (Ls v4.t.cs)),(9,rI v4.ob),(10,rI v4.ar)],11⟩) (wkQ8 [(0,0),(5,1),(6,2),(7,3),(8,4),(10,5),(11,6),(12,7),(13,8),(14,9),(15,10)]) ?_;refine Qg ?_;have hr:=Option.some.inj h;rw [← hr];refine ⟨_,(.cell Q3U rfl rfl rfl (by simp) (by simp) .nil),?_⟩;refine ⟨(.agg rfl .nil),[iV v4.s.n,lI v4.s.fr,lI v4.s.to,lI v4.s.id,.lst true 1 (Ls v4.s.cs),iV v4.t.n,lI v4.t.fr,lI v4.t.to,lI v4.t.id,.lst true 1 (Ls v4.t.cs),lI v4.ob,lI v4.ar],[1,2,3,4,5,6,7,8,9,10],by simp [Cat.cells,Fn.cells,UA,U1,IA,I1,LA,L1,BA,B1,EA,E1,E2,eB,eI,eL],by simp,(UpL.refl _)⟩
attribute [local simp] eL eI Qw QH Q2e Cat.cells Fn.cells
noncomputable def Q1D (c_:Cat) (d_:Cat) (objects_:List Int) (arrows_:List Int):Option Fn :=
 (Q2S c_).bind fun v1 =>
 (Q2S d_).bind fun v2 =>
 (Q2R objects_).bind fun v3 =>
 (Q2R arrows_).bind fun v4 =>
 some (⟨v1,v2,v3,v4⟩:Fn)
theorem Q41 (c_:Cat) (d_:Cat) (objects_:List Int) (arrows_:List Int) (r:Fn) (h:Q1D c_ d_ objects_ arrows_=some r):Contract Try.prog 84 [.agg (c_.cells true),.agg (d_.cells true),lI objects_,lI arrows_] (.agg (r.cells true)):=by
 refine Qf (rvs:=[.cell 8 44]) (rs:=[.agg (r.cells true)]) Try.func84 rfl rfl rfl rfl (by simp [Try.f84]) fun F hN hP=>?_;unfold Q1D at h;refine Q4 ?_;refine runQ hN fun K hK=>?_;simp [-Q0,-Q6,-Q1,-Q7,-Q2];repeat refine sdQ ?_
 refine hK _ ?_;clear hK K;refine tn ?_;refine Q8 (st':=⟨[(2,lI objects_),(3,lI arrows_),(4,.adr 0 0 0),(5,.adr 1 0 0),(8,.adr 2 0 0)],[(0,.mix 5 [(Cat.cells true c_)]),(1,.mix 5 [(Cat.cells true d_)]),(2,.mix 12 [[iV 0,.val (.slice none 0 0),.val (.slice none 0 0),.val (.slice none 0 0),.val (.slice none 0 0),iV 0,.val (.slice none 0 0),.val (.slice none 0 0),.val (.slice none 0 0),.val (.slice none 0 0),.val (.slice none 0 0),.val (.slice none 0 0)]])],3⟩) (wkQ8 [(0,0),(1,1),(2,2)]) ?_;refine Q4 ?_;refine runQ hN fun K hK=>?_;simp [-Q0,-Q6,-Q1,-Q7,-Q2];repeat with_reducible refine sdQ ?_
 replace h:=bind_some h;obtain ⟨v1,hv1,h⟩:=h;refine Q3 (Q62 _ v1 hv1) (.cons (.aggL (.cons .val (.cons .lst (.cons .lst (.cons .lst (.cons .lst .nil)))))) .nil) ?_;simp [-Q0,-Q6,-Q1,-Q7,-Q2,unk,unA,unE,unT,unC,flat];repeat with_reducible refine sdQ ?_
 replace h:=bind_some h;obtain ⟨v2,hv2,h⟩:=h;refine Q3 (Q62 _ v2 hv2) (.cons (.aggL (.cons .val (.cons .lst (.cons .lst (.cons .lst (.cons .lst .nil)))))) .nil) ?_;simp [-Q0,-Q6,-Q1,-Q7,-Q2,unk,unA,unE,unT,unC,flat];repeat with_reducible refine sdQ ?_
 replace h:=bind_some h;obtain ⟨v3,hv3,h⟩:=h;refine Q3 (Q60 _ v3 hv3) (.cons .lst .nil) ?_;simp [-Q0,-Q6,-Q1,-Q7,-Q2,unk,unA,unE,unT,unC,flat];repeat with_reducible refine sdQ ?_
 replace h:=bind_some h;obtain ⟨v4,hv4,h⟩:=h;refine Q3 (Q60 _ v4 hv4) (.cons .lst .nil) ?_;simp [-Q0,-Q6,-Q1,-Q7,-Q2,unk,unA,unE,unT,unC,flat];repeat refine sdQ ?_
 refine hK _ ?_;clear hK K;refine tn ?_;refine Q8 (st':=⟨[(8,.adr 0 0 0)],[(0,.mix 12 [[iV v1.n,.own 1 0 v1.fr.length,.own 2 0 v1.to.length,.own 3 0 v1.id.length,.own 4 0 v1.cs.length,iV v2.n,.own 5 0 v2.fr.length,.own 6 0 v2.to.length,.own 7 0 v2.id.length,.own 8 0 v2.cs.length,.own 9 0 v3.length,.own 10 0 v4.length]]),(1,rI v1.fr),(2,rI v1.to),(3,rI v1.id),(4,.row 1 (Ls v1.cs)),(5,rI v2.fr),(6,rI v2.to),(7,rI v2.id),(8,.row 1 (Ls v2.cs)),(9,rI v3),(10,rI v4)],11⟩) (wkQ8 [(2,0),(4,1),(5,2),(6,3),(7,4),(9,5),(10,6),(11,7),(12,8),(13,9),(14,10)]) ?_;refine Qg ?_;have hr:=Option.some.inj h;rw [← hr];refine ⟨_,(.cell Q3U rfl rfl rfl (by simp) (by simp) .nil),?_⟩;refine ⟨(.agg rfl .nil),[iV v1.n,lI v1.fr,lI v1.to,lI v1.id,.lst true 1 (Ls v1.cs),iV v2.n,lI v2.fr,lI v2.to,lI v2.id,.lst true 1 (Ls v2.cs),lI v3,lI v4],[1,2,3,4,5,6,7,8,9,10],by simp [Cat.cells,Fn.cells,UA,U1,IA,I1,LA,L1,BA,B1,EA,E1,E2,eB,eI,eL],by simp,(UpL.refl _)⟩
attribute [local simp] eL eI Qw QH Q2e Cat.cells Fn.cells
noncomputable def Q2z (c_:Cat):Option Fn :=
 (QC (σ:=List Int × Int) (ε:=List Int) (fun s5 =>
  if s5.2<c_.n then
   ass ((s5.1++[s5.2]).length≤1073741824) <|
   ass (B64 (s5.2+1)) <|
   some (Ctl.next (s5.1++[s5.2],s5.2+1))
  else
   some (Ctl.ret s5.1)) fuel ([],0)).bind fun b1 =>
 (QC (σ:=List Int × Int) (ε:=List Int) (fun s13 =>
  if s13.2<(c_.fr.length:Int) then
   ass ((s13.1++[s13.2]).length≤1073741824) <|
   ass (B64 (s13.2+1)) <|
   some (Ctl.next (s13.1++[s13.2],s13.2+1))
  else
   some (Ctl.ret s13.1)) fuel ([],0)).bind fun b9 =>
 (Q1D c_ c_ b1 b9).bind fun v17 =>
 some v17
theorem Q8d (c_:Cat) (r:Fn) (h:Q2z c_=some r):Contract Try.prog 138 [.agg (c_.cells true)] (.agg (r.cells true)):=by
 refine Qf (rvs:=[.cell 2 44]) (rs:=[.agg (r.cells true)]) Try.func138 rfl rfl rfl rfl (by simp [Try.f138]) fun F hN hP=>?_;unfold Q2z at h;refine Q4 ?_;refine runQ hN fun K hK=>?_;simp [-Q0,-Q6,-Q1,-Q7,-Q2];repeat refine sdQ ?_
 refine hK _ ?_;clear hK K;refine tn ?_;refine Q8 (st':=⟨[(1,.adr 0 0 0),(2,.adr 1 0 0)],[(0,.mix 5 [(Cat.cells true c_)]),(1,.mix 12 [[iV 0,.val (.slice none 0 0),.val (.slice none 0 0),.val (.slice none 0 0),.val (.slice none 0 0),iV 0,.val (.slice none 0 0),.val (.slice none 0 0),.val (.slice none 0 0),.val (.slice none 0 0),.val (.slice none 0 0),.val (.slice none 0 0)]])],2⟩) (wkQ8 [(0,0),(1,1)]) ?_;refine Q4 ?_;refine runQ hN fun K hK=>?_;simp [-Q0,-Q6,-Q1,-Q7,-Q2];repeat refine sdQ ?_
 refine hK _ ?_;clear hK K;refine tn ?_;refine Q8 (st':=⟨[(1,.adr 0 0 0),(2,.adr 1 0 0),(3,.own 2 0 0),(4,.own 3 0 0)],[(0,.mix 5 [(Cat.cells true c_)]),(1,.mix 12 [[iV 0,.val (.slice none 0 0),.val (.slice none 0 0),.val (.slice none 0 0),.val (.slice none 0 0),iV 0,.val (.slice none 0 0),.val (.slice none 0 0),.val (.slice none 0 0),.val (.slice none 0 0),.val (.slice none 0 0),.val (.slice none 0 0)]]),(2,.mix 1 []),(3,.mix 1 [])],4⟩) (wkQ8 [(0,0),(1,1),(2,2),(3,3)]) ?_;refine Q4 ?_;refine Q4 ?_;refine runQ hN fun K hK=>?_;simp [-Q0,-Q6,-Q1,-Q7,-Q2];repeat refine sdQ ?_
 refine hK _ ?_;clear hK K;refine tn ?_;refine Q8 (st':=⟨[(1,.adr 0 0 0),(2,.adr 1 0 0),(3,.own 2 0 0),(4,.own 3 0 0),(5,iV 0)],[(0,.mix 5 [(Cat.cells true c_)]),(1,.mix 12 [[iV 0,.val (.slice none 0 0),.val (.slice none 0 0),.val (.slice none 0 0),.val (.slice none 0 0),iV 0,.val (.slice none 0 0),.val (.slice none 0 0),.val (.slice none 0 0),.val (.slice none 0 0),.val (.slice none 0 0),.val (.slice none 0 0)]]),(2,.mix 1 []),(3,.mix 1 [])],4⟩) (wkQ8 [(0,0),(1,1),(2,2),(3,3)]) ?_;replace h:=bind_some h;obtain ⟨e1,h,h1⟩:=h;refine Qh (fun b1:List Int=>⟨[(1,.adr 0 0 0),(2,.adr 1 0 0),(3,.own 2 0 b1.length),(4,.own 3 0 0)],[(0,.mix 5 [(Cat.cells true c_)]),(1,.mix 12 [[iV 0,.val (.slice none 0 0),.val (.slice none 0 0),.val (.slice none 0 0),.val (.slice none 0 0),iV 0,.val (.slice none 0 0),.val (.slice none 0 0),.val (.slice none 0 0),.val (.slice none 0 0),.val (.slice none 0 0),.val (.slice none 0 0)]]),(2,rI b1),(3,.mix 1 [])],4⟩) (fun b1=>b1=e1) ?_ ?_
 ·refine Qa ?_;refine Qu h (fun s5:List Int × Int=>⟨[(1,.adr 0 0 0),(2,.adr 1 0 0),(3,.own 2 0 s5.1.length),(4,.own 3 0 0),(5,iV s5.2)],[(0,.mix 5 [(Cat.cells true c_)]),(1,.mix 12 [[iV 0,.val (.slice none 0 0),.val (.slice none 0 0),.val (.slice none 0 0),.val (.slice none 0 0),iV 0,.val (.slice none 0 0),.val (.slice none 0 0),.val (.slice none 0 0),.val (.slice none 0 0),.val (.slice none 0 0),.val (.slice none 0 0)]]),(2,rI s5.1),(3,.mix 1 [])],4⟩) (Q3F ⟨[(1,.adr 0 0 0),(2,.adr 1 0 0),(3,.own 2 0 0),(4,.own 3 0 0),(5,iV 0)],[(0,.mix 5 [(Cat.cells true c_)]),(1,.mix 12 [[iV 0,.val (.slice none 0 0),.val (.slice none 0 0),.val (.slice none 0 0),.val (.slice none 0 0),iV 0,.val (.slice none 0 0),.val (.slice none 0 0),.val (.slice none 0 0),.val (.slice none 0 0),.val (.slice none 0 0),.val (.slice none 0 0)]]),(2,rI []),(3,.mix 1 [])],4⟩ (Wk.nils [] (by simp) (by simp) (by simp [nlA]) (by simp [entN,nlL,nlA,Cat.cells,Fn.cells,UA,U1,IA,I1,LA,L1,BA,B1,EA,E1,E2,eB,eI,eL]) (by simp)) (wkQ8 [(0,0),(1,1),(2,2),(3,3)])) ?_;clear h;intro k5 s5 c5 h hk5;refine Q4 ?_;refine Q4 ?_;refine runQ hN fun K hK=>?_;simp [-Q0,-Q6,-Q1,-Q7,-Q2];repeat refine sdQ ?_
  refine hK _ ?_;clear hK K;refine tn ?_;refine Q8 (st':=⟨[(1,.adr 0 0 0),(2,.adr 1 0 0),(3,.own 2 0 s5.1.length),(4,.own 3 0 0),(5,iV s5.2),(12,.val (.bool (decide (s5.2<c_.n))))],[(0,.mix 5 [(Cat.cells true c_)]),(1,.mix 12 [[iV 0,.val (.slice none 0 0),.val (.slice none 0 0),.val (.slice none 0 0),.val (.slice none 0 0),iV 0,.val (.slice none 0 0),.val (.slice none 0 0),.val (.slice none 0 0),.val (.slice none 0 0),.val (.slice none 0 0),.val (.slice none 0 0)]]),(2,rI s5.1),(3,.mix 1 [])],4⟩) (wkQ8 [(0,0),(1,1),(2,2),(3,3)]) ?_;refine Qc rfl (fun g=>?_) fun g=>?_
  ·have g6:s5.2<c_.n:=gQ;clear g;replace h:=if_l g6 h;refine Qd ?_;refine tn ?_;refine Q4 ?_;refine Qa ?_;refine runQ hN fun K hK=>?_;replace h:=Q5 h;obtain ⟨a7,h⟩:=h;(try simp only [List.length_append,List.length_cons,List.length_nil] at a7);simp [-Q0,-Q6,-Q1,-Q7,-Q2,a7];(repeat refine sdQ ?_);refine hK _ ?_;clear hK K;refine bn ?_;refine tn ?_;refine Q8 (st':=⟨[(1,.adr 0 0 0),(2,.adr 1 0 0),(3,.own 2 0 ((s5.1++[s5.2]).length)),(4,.own 3 0 0),(5,iV s5.2)],[(0,.mix 5 [(Cat.cells true c_)]),(1,.mix 12 [[iV 0,.val (.slice none 0 0),.val (.slice none 0 0),.val (.slice none 0 0),.val (.slice none 0 0),iV 0,.val (.slice none 0 0),.val (.slice none 0 0),.val (.slice none 0 0),.val (.slice none 0 0),.val (.slice none 0 0),.val (.slice none 0 0)]]),(2,rI (s5.1++[s5.2])),(3,.mix 1 [])],4⟩) (wkQ8 [(0,0),(1,1),(5,2),(3,3)]) ?_;refine runQ hN fun K hK=>?_;replace h:=Q5 h;obtain ⟨a8,h⟩:=h;simp [-Q0,-Q6,-Q1,-Q7,-Q2,Qk a8];(repeat refine sdQ ?_);refine hK _ ?_;clear hK K;cases h;exact rn (s':=(s5.1++[s5.2],s5.2+1)) hk5 (wkQ8 [(0,0),(1,1),(2,2),(3,3)])
  have g6:¬ (s5.2<c_.n):=gQ;clear g;replace h:=if_r g6 h;refine Qj ?_;refine tx ?_;refine lx ?_;refine bh ?_;cases h;exact jn (b:=s5.1) hk5 (wkQ8 [(0,0),(1,1),(2,2),(3,3)])
 intro b1 hb1;have h:=h1;try rw [← hb1] at h
 clear h1;try dsimp only at h
 refine Q4 ?_;refine Q4 ?_;refine runQ hN fun K hK=>?_;simp [-Q0,-Q6,-Q1,-Q7,-Q2];repeat refine sdQ ?_
 refine hK _ ?_;clear hK K;refine tn ?_;refine Q8 (st':=⟨[(1,.adr 0 0 0),(2,.adr 1 0 0),(3,.own 2 0 b1.length),(4,.own 3 0 0),(6,iV 0)],[(0,.mix 5 [(Cat.cells true c_)]),(1,.mix 12 [[iV 0,.val (.slice none 0 0),.val (.slice none 0 0),.val (.slice none 0 0),.val (.slice none 0 0),iV 0,.val (.slice none 0 0),.val (.slice none 0 0),.val (.slice none 0 0),.val (.slice none 0 0),.val (.slice none 0 0),.val (.slice none 0 0)]]),(2,rI b1),(3,.mix 1 [])],4⟩) (wkQ8 [(0,0),(1,1),(2,2),(3,3)]) ?_;replace h:=bind_some h;obtain ⟨e9,h,h9⟩:=h;refine Qh (fun b9:List Int=>⟨[(1,.adr 0 0 0),(2,.adr 1 0 0),(3,.own 2 0 b1.length),(4,.own 3 0 b9.length)],[(0,.mix 5 [(Cat.cells true c_)]),(1,.mix 12 [[iV 0,.val (.slice none 0 0),.val (.slice none 0 0),.val (.slice none 0 0),.val (.slice none 0 0),iV 0,.val (.slice none 0 0),.val (.slice none 0 0),.val (.slice none 0 0),.val (.slice none 0 0),.val (.slice none 0 0),.val (.slice none 0 0)]]),(2,rI b1),(3,rI b9)],4⟩) (fun b9=>b9=e9) ?_ ?_
 ·refine Qa ?_;refine Qu h (fun s13:List Int × Int=>⟨[(1,.adr 0 0 0),(2,.adr 1 0 0),(3,.own 2 0 b1.length),(4,.own 3 0 s13.1.length),(6,iV s13.2)],[(0,.mix 5 [(Cat.cells true c_)]),(1,.mix 12 [[iV 0,.val (.slice none 0 0),.val (.slice none 0 0),.val (.slice none 0 0),.val (.slice none 0 0),iV 0,.val (.slice none 0 0),.val (.slice none 0 0),.val (.slice none 0 0),.val (.slice none 0 0),.val (.slice none 0 0),.val (.slice none 0 0)]]),(2,rI b1),(3,rI s13.1)],4⟩) (Q3F ⟨[(1,.adr 0 0 0),(2,.adr 1 0 0),(3,.own 2 0 b1.length),(4,.own 3 0 0),(6,iV 0)],[(0,.mix 5 [(Cat.cells true c_)]),(1,.mix 12 [[iV 0,.val (.slice none 0 0),.val (.slice none 0 0),.val (.slice none 0 0),.val (.slice none 0 0),iV 0,.val (.slice none 0 0),.val (.slice none 0 0),.val (.slice none 0 0),.val (.slice none 0 0),.val (.slice none 0 0),.val (.slice none 0 0)]]),(2,rI b1),(3,rI [])],4⟩ (Wk.nils [] (by simp) (by simp) (by simp [nlA]) (by simp [entN,nlL,nlA,Cat.cells,Fn.cells,UA,U1,IA,I1,LA,L1,BA,B1,EA,E1,E2,eB,eI,eL]) (by simp)) (wkQ8 [(0,0),(1,1),(2,2),(3,3)])) ?_;clear h;intro k13 s13 c13 h hk13;refine Q4 ?_;refine Q4 ?_;refine runQ hN fun K hK=>?_;simp [-Q0,-Q6,-Q1,-Q7,-Q2];repeat refine sdQ ?_
  refine hK _ ?_;clear hK K;refine tn ?_;refine Q8 (st':=⟨[(1,.adr 0 0 0),(2,.adr 1 0 0),(3,.own 2 0 b1.length),(4,.own 3 0 s13.1.length),(6,iV s13.2),(23,.val (.bool (decide (s13.2<(c_.fr.length:Int)))))],[(0,.mix 5 [(Cat.cells true c_)]),(1,.mix 12 [[iV 0,.val (.slice none 0 0),.val (.slice none 0 0),.val (.slice none 0 0),.val (.slice none 0 0),iV 0,.val (.slice none 0 0),.val (.slice none 0 0),.val (.slice none 0 0),.val (.slice none 0 0),.val (.slice none 0 0),.val (.slice none 0 0)]]),(2,rI b1),(3,rI s13.1)],4⟩) (wkQ8 [(0,0),(1,1),(2,2),(3,3)]) ?_;refine Qc rfl (fun g=>?_) fun g=>?_
  ·have g14:s13.2<(c_.fr.length:Int):=gQ;clear g;replace h:=if_l g14 h;refine Qd ?_;refine tn ?_;refine Q4 ?_;refine Qa ?_;refine runQ hN fun K hK=>?_;replace h:=Q5 h;obtain ⟨a15,h⟩:=h;(try simp only [List.length_append,List.length_cons,List.length_nil] at a15);simp [-Q0,-Q6,-Q1,-Q7,-Q2,a15];(repeat refine sdQ ?_);refine hK _ ?_;clear hK K;refine bn ?_;refine tn ?_;refine Q8 (st':=⟨[(1,.adr 0 0 0),(2,.adr 1 0 0),(3,.own 2 0 b1.length),(4,.own 3 0 ((s13.1++[s13.2]).length)),(6,iV s13.2)],[(0,.mix 5 [(Cat.cells true c_)]),(1,.mix 12 [[iV 0,.val (.slice none 0 0),.val (.slice none 0 0),.val (.slice none 0 0),.val (.slice none 0 0),iV 0,.val (.slice none 0 0),.val (.slice none 0 0),.val (.slice none 0 0),.val (.slice none 0 0),.val (.slice none 0 0),.val (.slice none 0 0)]]),(2,rI b1),(3,rI (s13.1++[s13.2]))],4⟩) (wkQ8 [(0,0),(1,1),(2,2),(5,3)]) ?_;refine runQ hN fun K hK=>?_;replace h:=Q5 h;obtain ⟨a16,h⟩:=h;simp [-Q0,-Q6,-Q1,-Q7,-Q2,Qk a16];(repeat refine sdQ ?_);refine hK _ ?_;clear hK K;cases h;exact rn (s':=(s13.1++[s13.2],s13.2+1)) hk13 (wkQ8 [(0,0),(1,1),(2,2),(3,3)])
  have g14:¬ (s13.2<(c_.fr.length:Int)):=gQ;clear g;replace h:=if_r g14 h;refine Qj ?_;refine tx ?_;refine lx ?_;refine bh ?_;cases h;exact jn (b:=s13.1) hk13 (wkQ8 [(0,0),(1,1),(2,2),(3,3)])
 intro b9 hb9;have h:=h9;try rw [← hb9] at h
 clear h9;try dsimp only at h
 refine Q4 ?_;refine runQ hN fun K hK=>?_;simp [-Q0,-Q6,-Q1,-Q7,-Q2];repeat with_reducible refine sdQ ?_
 replace h:=bind_some h;obtain ⟨v17,hv17,h⟩:=h;refine Q3 (Q41 _ _ _ _ v17 hv17) (.cons (.aggL (.cons .val (.cons .lst (.cons .lst (.cons .lst (.cons .lst .nil)))))) (.cons (.aggL (.cons .val (.cons .lst (.cons .lst (.cons .lst (.cons .lst .nil)))))) (.cons (.whole (by simp) (by simp) (by simp)) (.cons (.whole (by simp) (by simp) (by simp)) .nil)))) ?_;simp [-Q0,-Q6,-Q1,-Q7,-Q2,unk,unA,unE,unT,unC,flat];repeat refine sdQ ?_
 refine hK _ ?_;clear hK K;refine tn ?_;refine Q8 (st':=⟨[(2,.adr 0 0 0)],[(0,.mix 12 [[iV v17.s.n,.own 1 0 v17.s.fr.length,.own 2 0 v17.s.to.length,.own 3 0 v17.s.id.length,.own 4 0 v17.s.cs.length,iV v17.t.n,.own 5 0 v17.t.fr.length,.own 6 0 v17.t.to.length,.own 7 0 v17.t.id.length,.own 8 0 v17.t.cs.length,.own 9 0 v17.ob.length,.own 10 0 v17.ar.length]]),(1,rI v17.s.fr),(2,rI v17.s.to),(3,rI v17.s.id),(4,.row 1 (Ls v17.s.cs)),(5,rI v17.t.fr),(6,rI v17.t.to),(7,rI v17.t.id),(8,.row 1 (Ls v17.t.cs)),(9,rI v17.ob),(10,rI v17.ar)],11⟩) (wkQ8 [(1,0),(5,1),(6,2),(7,3),(8,4),(10,5),(11,6),(12,7),(13,8),(14,9),(15,10)]) ?_;refine Qg ?_;have hr:=Option.some.inj h;rw [← hr];refine ⟨_,(.cell Q3U rfl rfl rfl (by simp) (by simp) .nil),?_⟩;refine ⟨(.agg rfl .nil),[iV v17.s.n,lI v17.s.fr,lI v17.s.to,lI v17.s.id,.lst true 1 (Ls v17.s.cs),iV v17.t.n,lI v17.t.fr,lI v17.t.to,lI v17.t.id,.lst true 1 (Ls v17.t.cs),lI v17.ob,lI v17.ar],[1,2,3,4,5,6,7,8,9,10],by simp [Cat.cells,Fn.cells,UA,U1,IA,I1,LA,L1,BA,B1,EA,E1,E2,eB,eI,eL],by simp,(UpL.refl _)⟩
end Go.Vc.T
