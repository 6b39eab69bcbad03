/- A part of the proof: a verified generator of conditions, and what each function of the program does. -/
import Derived.Test.YtbpjpnccoeedoaaB7
set_option maxRecDepth 100000
set_option maxHeartbeats 4000000
set_option linter.unusedSimpArgs false
set_option linter.unusedVariables false

namespace Go.Vc.T
open Go Go.Vc Go.Proofs
def Es {α:Type} (c:α→List AV) (xs:List α):List (List AV):=xs.map c
def gx {α:Type} [Inhabited α] (xs:List α) (j:Int):α:=xs.getD j.toNat default
def eB (b:Bool):List AV:=[.val (.bool b)]
def eI (b:Int):List AV:=[iV b]
def eL (x:List (List Int)):List AV:=[.lst true 1 (Ls x)]
section
variable {α:Type} {c:α→List AV}
@[simp] theorem Es_length (xs:List α):(Es c xs).length=xs.length:=by simp [Es]
@[simp] theorem Es_nil:Es c []=[]:=rfl
theorem Es_append (xs ys:List α):Es c (xs++ys)=Es c xs++Es c ys:=by simp [Es]
theorem Es_set' (xs:List α) (i:Nat) (x:α):Es c (xs.set i x)=(Es c xs).set i (c x):=by simp [Es,List.map_set]
theorem at_E [Inhabited α] {xs:List α} {j:Int} (h:0≤j∧j<(xs.length:Int)):(Es c xs)[j.toNat]? = some (c (gx xs j)):=by
 have h2:j.toNat<xs.length:=by omega
 simp [Es,gx,List.getD_eq_getElem?_getD,h2]
end
@[simp] theorem Ls_nil':Ls []=[]:=rfl
theorem Ls_append (xs ys:List (List Int)):Ls (xs++ys)=Ls xs++Ls ys:=by simp [Ls]
theorem at_I {xs:List Int} {j:Int} (h:0≤j∧j<(xs.length:Int)):(Is xs)[j.toNat]? = some [iV (ix xs j)]:=by
 have h2:j.toNat<xs.length:=by omega
 simp [Is,ix,List.getD_eq_getElem?_getD,h2]
theorem at_L {xs:List (List Int)} {j:Int} (h:0≤j∧j<(xs.length:Int)):(Ls xs)[j.toNat]? = some [lI (rx xs j)]:=by
 have h2:j.toNat<xs.length:=by omega
 simp [Ls,rx,List.getD_eq_getElem?_getD,h2]
@[simp] theorem Is_takeE (xs:List Int) (k:Nat):List.take k (Is xs)=Is (xs.take k):=by simp [Is,List.map_take]
@[simp] theorem Ls_takeA (xs:List (List Int)):List.take xs.length (Ls xs)=Ls xs:=List.take_of_length_le (by simp)
@[simp] theorem u8_min:IntKind.u8.min=0:=rfl
@[simp] theorem u8_max:IntKind.u8.max=255:=rfl
@[simp] theorem Es_takeA {α:Type} {c:α→List AV} (xs:List α):List.take xs.length (Es c xs)=Es c xs:=List.take_of_length_le (by simp)
@[simp] theorem Bs_nil':Bs []=[]:=rfl
theorem Bs_append (xs ys:List Bool):Bs (xs++ys)=Bs xs++Bs ys:=by simp [Bs]
theorem IA (xs ys:List Int):Is (xs++ys)=Is xs++Is ys:=Is_append xs ys
theorem I1 (x:Int) (xs:List Int):Is (x :: xs)=[iV x] :: Is xs:=rfl
theorem LA (xs ys:List (List Int)):Ls (xs++ys)=Ls xs++Ls ys:=Ls_append xs ys
theorem L1 (x:List Int) (xs:List (List Int)):Ls (x :: xs)=[lI x] :: Ls xs:=rfl
theorem BA (xs ys:List Bool):Bs (xs++ys)=Bs xs++Bs ys:=Bs_append xs ys
theorem B1 (x:Bool) (xs:List Bool):Bs (x :: xs)=[.val (.bool x)] :: Bs xs:=rfl
theorem EA {α:Type} {c:α→List AV} (xs ys:List α):Es c (xs++ys)=Es c xs++Es c ys:=Es_append xs ys
theorem E1 {α:Type} {c:α→List AV} (x:α) (xs:List α):Es c (x :: xs)=c x :: Es c xs:=rfl
theorem E2 {α:Type} {c:α→List AV} (xs:List α) (i:Nat) (x:α):Es c (xs.set i x)=(Es c xs).set i (c x):=Es_set' xs i x
@[simp] theorem Es_rep0 (n:Nat):Es eL (List.replicate n [])=List.replicate n [AV.lst true 1 []]:=by simp [Es,eL]
theorem Es_st {α:Type} {c:α→List AV} {xs:List α} {i:Nat} {x:α} {b:AV} (h1:∀ y,(c y).length=1) (h2:c x=[b]):(Es c xs).set i (((Es c xs).getD i []).set 0 b)=Es c (xs.set i x):=by
 by_cases h:i<xs.length
 ·rw [Es_set',h2];congr 1;have h3:=h1 xs[i];simp only [Es,List.getD_eq_getElem?_getD,List.getElem?_map,List.getElem?_eq_getElem h,Option.map_some,Option.getD_some]
  match c xs[i],h3 with
  | [a],_=>rfl
 rw [List.set_eq_of_length_le (by simp;omega),List.set_eq_of_length_le (by omega)]
def Q1y (x:Cat):List AV:=[.rptr (x.cells true)]
def Q2v (x:Fn):List AV:=[.rptr (x.cells true)]
instance:Inhabited Cat:=⟨⟨0,[],[],[],[]⟩⟩
instance:Inhabited Fn:=⟨⟨default,default,[],[]⟩⟩
structure Ends where
 a:Int
 b:Int
def Ends.cells (u:Bool) (f:Ends):List AV:=[iV f.a,iV f.b]
structure Prf where
 s:Cat
 t:Cat
 sz:List (List Int)
 bf:List (List (List Int))
 bh:List (List (List Int))
def Prf.cells (u:Bool) (f:Prf):List AV:=[iV f.s.n,.lst u 1 (Is f.s.fr),.lst u 1 (Is f.s.to),.lst u 1 (Is f.s.id),.lst u 1 (Ls f.s.cs),iV f.t.n,.lst u 1 (Is f.t.fr),.lst u 1 (Is f.t.to),.lst u 1 (Is f.t.id),.lst u 1 (Ls f.t.cs),.lst u 1 (Ls f.sz),.lst u 1 (Es eL f.bf),.lst u 1 (Es eL f.bh)]
instance:Inhabited Prf:=⟨⟨default,default,default,default,default⟩⟩
def Q27 (x:Prf):List AV:=[.rptr (x.cells true)]
structure XTerm where
 variable_:Int
 arrow_:Int
def XTerm.cells (u:Bool) (f:XTerm):List AV:=[iV f.variable_,iV f.arrow_]
structure XQuery where
 variables_:List Int
 left_:List XTerm
 right_:List XTerm
 output_:List Int
def XQuery.cells (u:Bool) (f:XQuery):List AV:=[.lst u 1 (Is f.variables_),.lst u 2 (Es (XTerm.cells true) f.left_),.lst u 2 (Es (XTerm.cells true) f.right_),.lst u 1 (Is f.output_)]
structure XL20Space where
 c_:Cat
 objects_:List (List Int)
 arrows_:List (List Int)
def XL20Space.cells (u:Bool) (f:XL20Space):List AV:=[iV f.c_.n,.lst u 1 (Is f.c_.fr),.lst u 1 (Is f.c_.to),.lst u 1 (Is f.c_.id),.lst u 1 (Ls f.c_.cs),.lst u 1 (Ls f.objects_),.lst u 1 (Ls f.arrows_)]
structure XPairint64 where
 first_:Int
 second_:Int
def XPairint64.cells (u:Bool) (f:XPairint64):List AV:=[iV f.first_,iV f.second_]
structure XTotal where
 category_:Cat
 objects_:List (List Int)
 arrows_:List (List Int)
def XTotal.cells (u:Bool) (f:XTotal):List AV:=[iV f.category_.n,.lst u 1 (Is f.category_.fr),.lst u 1 (Is f.category_.to),.lst u 1 (Is f.category_.id),.lst u 1 (Ls f.category_.cs),.lst u 1 (Ls f.objects_),.lst u 1 (Ls f.arrows_)]
@[simp] theorem ef_26:elm Try.prog 26=some 23:=by kernel_rfl
@[simp] theorem ef_165:elm Try.prog 165=some 111:=by kernel_rfl
@[simp] theorem ef_223:elm Try.prog 223=some 101:=by kernel_rfl
@[simp] theorem ff_28_0:fld Try.prog 28 0=some (0,5,true):=by kernel_rfl
@[simp] theorem ff_28_1:fld Try.prog 28 1=some (5,5,true):=by kernel_rfl
@[simp] theorem ff_28_2:fld Try.prog 28 2=some (10,1,false):=by kernel_rfl
@[simp] theorem ff_28_3:fld Try.prog 28 3=some (11,1,false):=by kernel_rfl
@[simp] theorem ff_28_4:fld Try.prog 28 4=some (12,1,false):=by kernel_rfl
@[simp] theorem ff_32_0:fld Try.prog 32 0=some (0,5,true):=by kernel_rfl
@[simp] theorem ff_32_1:fld Try.prog 32 1=some (5,5,true):=by kernel_rfl
@[simp] theorem ff_32_2:fld Try.prog 32 2=some (10,1,false):=by kernel_rfl
@[simp] theorem ff_32_3:fld Try.prog 32 3=some (11,1,false):=by kernel_rfl
@[simp] theorem ff_32_4:fld Try.prog 32 4=some (12,1,false):=by kernel_rfl
@[simp] theorem ff_40_0:fld Try.prog 40 0=some (0,5,true):=by kernel_rfl
@[simp] theorem ff_40_1:fld Try.prog 40 1=some (5,5,true):=by kernel_rfl
@[simp] theorem ff_40_2:fld Try.prog 40 2=some (10,1,false):=by kernel_rfl
@[simp] theorem ff_40_3:fld Try.prog 40 3=some (11,1,false):=by kernel_rfl
@[simp] theorem ff_44_0:fld Try.prog 44 0=some (0,5,true):=by kernel_rfl
@[simp] theorem ff_44_1:fld Try.prog 44 1=some (5,5,true):=by kernel_rfl
@[simp] theorem ff_44_2:fld Try.prog 44 2=some (10,1,false):=by kernel_rfl
@[simp] theorem ff_44_3:fld Try.prog 44 3=some (11,1,false):=by kernel_rfl
@[simp] theorem pf_32:Q4d Try.prog 32=some [(0,5),(5,5),(10,1),(11,1),(12,1)]:=by kernel_rfl
@[simp] theorem tf_23:tyi Try.prog 23=some ⟨false,1,24,[.slice none 0 0]⟩:=by kernel_rfl
@[simp] theorem tf_26:tyi Try.prog 26=some ⟨false,1,24,[.slice none 0 0]⟩:=by kernel_rfl
@[simp] theorem Q53:tyi Try.prog 32=some ⟨true,13,280,[.int .i64 0,.slice none 0 0,.slice none 0 0,.slice none 0 0,.slice none 0 0,.int .i64 0,.slice none 0 0,.slice none 0 0,.slice none 0 0,.slice none 0 0,.slice none 0 0,.slice none 0 0,.slice none 0 0]⟩:=by kernel_rfl
@[simp] theorem tf_40:tyi Try.prog 40=some ⟨true,12,256,[.int .i64 0,.slice none 0 0,.slice none 0 0,.slice none 0 0,.slice none 0 0,.int .i64 0,.slice none 0 0,.slice none 0 0,.slice none 0 0,.slice none 0 0,.slice none 0 0,.slice none 0 0]⟩:=by kernel_rfl
@[simp] theorem tf_44:tyi Try.prog 44=some ⟨true,12,256,[.int .i64 0,.slice none 0 0,.slice none 0 0,.slice none 0 0,.slice none 0 0,.int .i64 0,.slice none 0 0,.slice none 0 0,.slice none 0 0,.slice none 0 0,.slice none 0 0,.slice none 0 0]⟩:=by kernel_rfl
@[simp] theorem tf_101:tyi Try.prog 101=some ⟨false,1,8,[.pointer none]⟩:=by kernel_rfl
@[simp] theorem tf_111:tyi Try.prog 111=some ⟨false,1,8,[.pointer none]⟩:=by kernel_rfl
noncomputable def Q2o (xs:List Int) (ys:List Int):Option (Bool) :=
 some ((decide (xs=ys)))
theorem Q6x (xs:List Int) (ys:List Int) (r:Bool) (h:Q2o xs ys=some r):Contract Try.prog 49 [lI xs,lI ys] (.val (.bool r)):=by
 unfold Q2o at h;cases h;exact c29 true true xs ys
noncomputable def Q1j (xs:List Int) (n:Int):Option (Bool) :=
 ass (B64 (n - 1)) <| some ((xs.all (inR n)))
theorem Q46 (xs:List Int) (n:Int) (r:Bool) (h:Q1j xs n=some r):Contract Try.prog 186 [lI xs,iV n] (.val (.bool r)):=by
 unfold Q1j at h;replace h:=Q4 h;obtain ⟨hn,h⟩:=h;cases h;exact c22 true xs n hn
noncomputable def Q1N (xs:List Int) (k:Int):Option (Int) :=
 ass (xs.length≤1048576) <| ass (0≤k) <| ass (k≤1152921504606846976) <| some ((held k xs))
theorem Q55 (xs:List Int) (k:Int) (r:Int) (h:Q1N xs k=some r):Contract Try.prog 55 [lI xs,iV k] (iV r):=by
 unfold Q1N at h;replace h:=Q4 h;obtain ⟨h1,h⟩:=h;replace h:=Q4 h;obtain ⟨h2,h⟩:=h;replace h:=Q4 h;obtain ⟨h3,h⟩:=h;cases h;exact c53 true xs k h1 h2 h3
noncomputable def Q24 (xss:List (List Int)):Option (List (List Int)) :=
 ass (xss.length≤1048576) <| ass (∀ xs∈xss,xs.length≤1048576) <| some (xss)
theorem Q5O (xss:List (List Int)) (r:List (List Int)) (h:Q24 xss=some r):Contract Try.prog 60 [.lst true 1 (Ls xss)] (.lst true 1 (Ls r)):=by
 unfold Q24 at h;replace h:=Q4 h;obtain ⟨hx,h⟩:=h;replace h:=Q4 h;obtain ⟨hx',h⟩:=h;cases h;exact c20 true xss hx hx'
noncomputable def Q23 (xss:List (List Int)) (l:Int):Option (Int) :=
 ass (0≤l) <| ass (l≤1048576) <| some ((Q1c l xss))
theorem Q5N (xss:List (List Int)) (l:Int) (r:Int) (h:Q23 xss l=some r):Contract Try.prog 56 [.lst true 1 (Ls xss),iV l] (iV r):=by
 unfold Q23 at h;replace h:=Q4 h;obtain ⟨h1,h⟩:=h;replace h:=Q4 h;obtain ⟨h2,h⟩:=h;cases h;exact c15 true xss l h1 h2
noncomputable def Q3K (x:Int) (a:Int) (b:Int):Option (Bool) :=
 some ((decide (a≤x) && decide (x≤b)))
theorem w_s_l01In (x:Int) (a:Int) (b:Int) (r:Bool) (h:Q3K x a b=some r):Contract Try.prog 182 [iV x,iV a,iV b] (.val (.bool r)):=by
 unfold Q3K at h;cases h;exact c56 x a b
noncomputable def Q14 (n:Int) (xs:List Int):Option (Bool) :=
 some ((xs.all (inR n)))
theorem Q3i (n:Int) (xs:List Int) (r:Bool) (h:Q14 n xs=some r):Contract Try.prog 130 [iV n,lI xs] (.val (.bool r)):=by
 unfold Q14 at h;cases h;exact c57 true xs n
noncomputable def Q25 (xs:List Int):Option (List Int) :=
 ass (xs.length≤1048576) <| some (xs)
theorem Q5p (xs:List Int) (r:List Int) (h:Q25 xs=some r):Contract Try.prog 134 [lI xs] (lI r):=by
 unfold Q25 at h;replace h:=Q4 h;obtain ⟨hx,h⟩:=h;cases h;exact c58 true xs hx
noncomputable def Q2C (xs:List Int):Option (List Int) :=
 ass (xs.length≤1048576) <| some (xs)
theorem Q6w (xs:List Int) (r:List Int) (h:Q2C xs=some r):Contract Try.prog 67 [lI xs] (lI r):=by
 unfold Q2C at h;replace h:=Q4 h;obtain ⟨hx,h⟩:=h;cases h;exact c47 true xs hx
noncomputable def Qw (c:Cat):Option (Int) :=
 some (c.fr.length)
theorem Q16 (c:Cat) (r:Int) (h:Qw c=some r):Contract Try.prog 143 [.rptr (c.cells true)] (iV r):=by
 unfold Qw at h;cases h;have q:=c61 true c [];simp only [List.append_nil] at q;exact q
noncomputable def Q1I (xs:List Int) (m:Int) (n:Int):Option (Bool) :=
 ass (B64 (n - 1)) <| some ((decide ((xs.length:Int)=m) && xs.all (inR n)))
theorem Q4S (xs:List Int) (m:Int) (n:Int) (r:Bool) (h:Q1I xs m n=some r):Contract Try.prog 187 [lI xs,iV m,iV n] (.val (.bool r)):=by
 unfold Q1I at h;replace h:=Q4 h;obtain ⟨hn,h⟩:=h;cases h;exact c62 true xs m n hn
noncomputable def Q2D (c:Cat):Option (Cat) :=
 ass (c.ok) <| some (c)
theorem Q5q (c:Cat) (r:Cat) (h:Q2D c=some r):Contract Try.prog 133 [.agg (c.cells true)] (.agg (r.cells true)):=by
 unfold Q2D at h;replace h:=Q4 h;obtain ⟨hc,h⟩:=h;cases h;exact c41 true c hc
noncomputable def Q12 (c:Cat):Option (Cat) :=
 ass (c.ok) <| some (c)
theorem Q2G (c:Cat) (r:Cat) (h:Q12 c=some r):Contract Try.prog 129 [.rptr (c.cells true)] (.agg (r.cells true)):=by
 unfold Q12 at h;replace h:=Q4 h;obtain ⟨hc,h⟩:=h;cases h;have q:=c23 true c [] hc;simp only [List.append_nil] at q;exact q
noncomputable def Q13 (c:Cat) (f:Int) (g:Int):Option (Int) :=
 ass (0≤f) <| ass (f<c.cs.length) <| ass (0≤g) <| ass (g<(rx c.cs f).length) <| some ((ix (rx c.cs f) g))
theorem Q45 (c:Cat) (f:Int) (g:Int) (r:Int) (h:Q13 c f g=some r):Contract Try.prog 128 [.rptr (c.cells true),iV f,iV g] (iV r):=by
 unfold Q13 at h;replace h:=Q4 h;obtain ⟨h1,h⟩:=h;replace h:=Q4 h;obtain ⟨h2,h⟩:=h;replace h:=Q4 h;obtain ⟨h3,h⟩:=h;replace h:=Q4 h;obtain ⟨h4,h⟩:=h;cases h;have q:=c69 true c [] f g h1 h2 h3 h4;simp only [List.append_nil] at q;exact q
noncomputable def QY (c:Cat):Option (Bool) :=
 some ((bo c.Is))
theorem Q3Q (c:Cat) (r:Bool) (h:QY c=some r):Contract Try.prog 116 [.agg (c.cells true)] (.val (.bool r)):=by
 unfold QY at h;cases h;exact c55 true c
noncomputable def QH (c:Cat):Option (Bool) :=
 some ((bo c.Is))
theorem Q2N (c:Cat) (r:Bool) (h:QH c=some r):Contract Try.prog 142 [.rptr (c.cells true)] (.val (.bool r)):=by
 unfold QH at h;cases h;have q:=c60 true c [];simp only [List.append_nil] at q;exact q
noncomputable def Q1g (xs:List Int) (ys:List Int):Option (Bool) :=
 some ((decide (xs=ys)))
theorem Q3z (xs:List Int) (ys:List Int) (r:Bool) (h:Q1g xs ys=some r):Contract Try.prog 131 [lI xs,lI ys] (.val (.bool r)):=by
 unfold Q1g at h;cases h;exact n54 true true xs ys
noncomputable def Q2e (c:Cat) (d:Cat):Option (Bool) :=
 some ((bo (c=d)))
theorem Q4V (c:Cat) (d:Cat) (r:Bool) (h:Q2e c d=some r):Contract Try.prog 74 [.agg (c.cells true),.agg (d.cells true)] (.val (.bool r)):=by
 unfold Q2e at h;cases h;exact n53 true true c d
noncomputable def QM (f:List Int) (g:List Int):Option (List Int) :=
 ass (f.length≤1048576) <| ass (∀ y∈f,0≤y∧y<(g.length:Int)) <| some ((QU f g))
theorem Q2O (f:List Int) (g:List Int) (r:List Int) (h:QM f g=some r):Contract Try.prog 184 [lI f,lI g] (lI r):=by
 unfold QM at h;replace h:=Q4 h;obtain ⟨hx,h⟩:=h;replace h:=Q4 h;obtain ⟨hg,h⟩:=h;cases h;exact n58 true true f g hx hg
noncomputable def Q1q (f:List Int) (g:List Int):Option (List Int) :=
 ass (f.length≤1048576) <| ass (∀ y∈f,0≤y∧y<(g.length:Int)) <| some ((QU f g))
theorem Q4u (f:List Int) (g:List Int) (r:List Int) (h:Q1q f g=some r):Contract Try.prog 124 [lI f,lI g] (lI r):=by
 unfold Q1q at h;replace h:=Q4 h;obtain ⟨hx,h⟩:=h;replace h:=Q4 h;obtain ⟨hg,h⟩:=h;cases h;exact n65 true true f g hx hg
noncomputable def Q1D (xs:List Int) (ys:List Int):Option (Bool) :=
 some ((decide (xs=ys)))
theorem Q3P (xs:List Int) (ys:List Int) (r:Bool) (h:Q1D xs ys=some r):Contract Try.prog 125 [lI xs,lI ys] (.val (.bool r)):=by
 unfold Q1D at h;cases h;exact n62 true true xs ys
noncomputable def QV (c:Cat) (d:Cat):Option (Bool) :=
 ass (c.cs.length≤1048576) <| some ((bo (c=d)))
theorem Q2P (c:Cat) (d:Cat) (r:Bool) (h:QV c d=some r):Contract Try.prog 78 [.rptr (c.cells true),.rptr (d.cells true)] (.val (.bool r)):=by
 unfold QV at h;replace h:=Q4 h;obtain ⟨hl,h⟩:=h;cases h;have q:=n61 true true c d [] [] hl;simp only [List.append_nil] at q;exact q
@[simp] theorem ass_true {α:Type} {k:Option α}:ass True k=k:=Q8 trivial
theorem Qn {p:Prop} (h:p):bo p=true:=by simp [bo,h]
theorem Qg {p:Prop} (h:¬ p):bo p=false:=by simp [bo,h]
theorem Q3T {p q:Prop} (h:p↔q):bo p=bo q:=by simp [bo,h]
theorem loop_go {σ ε:Type} {body:σ→Option (Ctl σ ε)} (g:Nat→σ) (m:Nat):∀ (k:Nat),m≤k→(∀ i,i<m→body (g i)=some (.next (g (i+1))))→Qx body k (g 0)=Qx body (k - m) (g m):=by
 induction m with
 | zero=>intro k _ _;rfl
 | succ m ih =>
  intro k hk h;rw [ih k (by omega) fun i hi=>h i (by omega)];obtain ⟨j,hj⟩:∃ j,k - m=j+1:=⟨k - m - 1,by omega⟩;rw [hj,show k - (m+1)=j by omega];simp only [Qx,h m (by omega)]
theorem Q4p {σ ε:Type} {body:σ→Option (Ctl σ ε)} (g:Nat→σ) (n:Nat) {e:ε} {s0:σ} (h0:s0=g 0) (hn:n<4611686018427387904) (h:∀ i,i<n→body (g i)=some (.next (g (i+1)))) (he:body (g n)=some (.ret e)):Qx body fuel s0=some e:=by
 subst h0;rw [loop_go g n fuel (by unfold fuel;omega) h];obtain ⟨j,hj⟩:∃ j,fuel - n=j+1:=⟨fuel - n - 1,by unfold fuel;omega⟩;rw [hj];simp only [Qx,he]
theorem Q7A {ε:Type} {body:Int→Option (Ctl Int ε)} (n:Nat) (p:Nat→Prop) {eb eg:ε} (hn:n<4611686018427387904) (h1:∀ i:Nat,i<n→p i→body (i:Int)=some (.next ((i:Int)+1))) (h2:∀ i:Nat,i<n→¬ p i→body (i:Int)=some (.ret eb)) (h3:body (n:Int)=some (.ret eg)) :
  Qx body fuel 0=some (@ite _ (∀ i:Nat,i<n→p i) (Classical.propDecidable _) eg eb):=by
 by_cases hall:∀ i:Nat,i<n→p i
 ·rw [if_pos hall];exact Q4p (fun i:Nat=>(i:Int)) n rfl hn (fun i hi=>h1 i hi (hall i hi)) h3
 rw [if_neg hall];have hex:∃ i,i<n∧¬ p i:=Classical.byContradiction fun hx=>hall fun i hi=>Classical.byContradiction fun hp=>hx ⟨i,hi,hp⟩;obtain ⟨m,⟨hm,hp⟩,hmin⟩:∃ m,(m<n∧¬ p m)∧∀ k,k<m→¬ (k<n∧¬ p k):=by
  obtain ⟨i,hi⟩:=hex
  induction i using Nat.strongRecOn with
  | _ i ih =>
   by_cases h:∃ k,k<i∧k<n∧¬ p k
   ·obtain ⟨k,h1,h2⟩:=h;exact ih k h1 h2
   exact ⟨i,hi,fun k hk hh=>h ⟨k,hk,hh⟩⟩
 exact Q4p (fun i:Nat=>(i:Int)) m rfl (by omega) (fun i hi=>h1 i (by omega) (Classical.byContradiction fun hh=>hmin i hi ⟨by omega,hh⟩)) (h2 m hm hp)
theorem loop_acc {α ε:Type} {body:α × Int→Option (Ctl (α × Int) ε)} (g:Nat→α) (n:Nat) {e:ε} {a0:α} (h0:a0=g 0) (hn:n<4611686018427387904) (h:∀ i:Nat,i<n→body (g i,(i:Int))=some (.next (g (i+1),(i:Int)+1))) (he:body (g n,(n:Int))=some (.ret e)):Qx body fuel (a0,0)=some e:=by
 subst h0;exact Q4p (fun i:Nat=>(g i,(i:Int))) n rfl hn h he
theorem all_inR {xs:List Int} {n:Int}:xs.all (inR n)=true↔∀ j:Nat,j<xs.length→0≤ix xs j∧ix xs j<n:=by
 rw [List.all_eq_true];constructor
 ·intro h j hj;have:=h _ (List.getElem_mem hj);rw [Q1A _ _ hj] at this;simp only [inR,Bool.and_eq_true,decide_eq_true_eq] at this;omega
 intro h x hx;obtain ⟨i,hi,rfl⟩:=List.getElem_of_mem hx;rw [Q1A _ _ hi];have:=h i hi;simp only [inR,Bool.and_eq_true,decide_eq_true_eq];omega
theorem Q1o {ε β:Type} {body:Int→Option (Ctl Int ε)} {K:ε→Option β} {r:β} (n:Nat) (p:Nat→Prop) {eb eg:ε} (hn:n<4611686018427387904) (h1:∀ i:Nat,i<n→p i→body (i:Int)=some (.next ((i:Int)+1))) (h2:∀ i:Nat,i<n→¬ p i→body (i:Int)=some (.ret eb)) (h3:body (n:Int)=some (.ret eg))
  (hb:(¬ ∀ i:Nat,i<n→p i)→K eb=some r) (hg:(∀ i:Nat,i<n→p i)→K eg=some r):(Qx body fuel 0).bind K=some r:=by
 rw [Q7A n p hn h1 h2 h3]
 by_cases h:∀ i:Nat,i<n→p i
 ·rw [if_pos h];exact hg h
 rw [if_neg h];exact hb h
theorem Q5r {α ε β:Type} {body:α × Int→Option (Ctl (α × Int) ε)} {K:ε→Option β} {r:Option β} {a0:α} (n:Nat) (g:Nat→α) {e:ε} (h0:a0=g 0) (hn:n<4611686018427387904) (h:∀ i:Nat,i<n→body (g i,(i:Int))=some (.next (g (i+1),(i:Int)+1))) (he:body (g n,(n:Int))=some (.ret e)) (hk:K e=r):(Qx body fuel (a0,0)).bind K=r:=by
 rw [loop_acc g n h0 hn h he];exact hk
attribute [local simp] eL eI QB
noncomputable def Q1E (a_:List (List Int)) (b_:List (List Int)):Option Bool :=
 if ¬ ((a_.length:Int)=(b_.length:Int)) then
  some false
 else
  (Qx (σ:=Int) (ε:=Unit ⊕ Bool) (fun s9 =>
   if s9<(a_.length:Int) then
    ass (0≤s9∧s9<(a_.length:Int)) <|
    ass (0≤s9∧s9<(b_.length:Int)) <|
    (Q2o (rx a_ s9) (rx b_ s9)).bind fun v13 =>
    if ¬ (v13=true) then
     some (Ctl.ret (Sum.inr false))
    else
     ass (B64 (s9+1)) <|
     some (Ctl.next (s9+1))
   else
    some (Ctl.ret (Sum.inl ()))) fuel 0).bind fun e2 =>
  match e2 with
  | .inl b2 =>
   some true
  | .inr p2 =>
   some p2
theorem wkQ8 {F : Fx} {st st' : St} (m : List (Nat × Nat)) (h : (m.map Prod.fst).Nodup ∧ (m.map Prod.snd).Nodup ∧ (∀ id, id < F.pins → look id m = some id) ∧ (∀ p ∈ m, p.2 < st'.n) ∧ (∀ p ∈ st'.h, p.1 < st'.n) ∧ (∀ p ∈ st'.s, p.2 = rl m (st.get p.1) ∨ p.2 = .bot) ∧ ∀ p ∈ st'.h, hhOk m st.h p.1 p.2 := by simp [hP, hhOk, back, UA, U1, IA, I1, LA, L1, BA, B1, EA, E1, E2, eB, eI, eL, Cat.cells, Fn.cells]) : Wk F st st' := Wk.r1 m h
theorem Q5M (a_:List (List Int)) (b_:List (List Int)) (r:Bool) (h:Q1E a_ b_=some r):Contract Try.prog 31 [.lst true 1 (Ls a_),.lst true 1 (Ls b_)] (.val (.bool r)):=by
 refine Qk (rvs:=[.tmp 4]) (rs:=[.val (.bool r)]) Try.func31 rfl rfl rfl rfl (by simp [Try.f31]) fun F hN hP=>?_;unfold Q1E at h;refine Q5 ?_;refine runQ hN fun K hK=>?_;simp [-Q0,-Q6,-Q1,-Q7,-Q2];repeat refine sdQ ?_
 refine hK _ ?_;clear hK K;refine tn ?_;refine Q9 (st':=⟨[(0,.lst true 1 (Ls a_)),(1,.lst true 1 (Ls b_))],[],0⟩) (wkQ8 []) ?_;refine Q5 ?_;refine Q5 ?_;refine runQ hN fun K hK=>?_;simp [-Q0,-Q6,-Q1,-Q7,-Q2];repeat refine sdQ ?_
 refine hK _ ?_;clear hK K;refine tn ?_;refine Q9 (st':=⟨[(0,.lst true 1 (Ls a_)),(1,.lst true 1 (Ls b_)),(10,.val (.bool ((a_.length:Int) != (b_.length:Int))))],[],0⟩) (wkQ8 []) ?_;refine Qc rfl (fun g=>?_) fun g=>?_
 ·have g1:¬ ((a_.length:Int)=(b_.length:Int)):=gQ;clear g;replace h:=if_l g1 h;refine Q5 ?_;refine runQ hN fun K hK=>?_;simp [-Q0,-Q6,-Q1,-Q7,-Q2];repeat refine sdQ ?_
  refine hK _ ?_;clear hK K;refine tn ?_;refine Q9 (st':=⟨[(4,.val (.bool false))],[],0⟩) (wkQ8 []) ?_;refine Qh ?_;refine tr ?_;have hr:=Option.some.inj h;rw [← hr];refine ⟨_,(.tmp .nil),?_⟩;refine ⟨(.one rfl rfl .nil),[.val (.bool false)],[],by simp [UA,U1,IA,I1,LA,L1,BA,B1,EA,E1,E2,eB,eI,eL],by simp,(UpL.refl _)⟩
 have g1:¬ (¬ ((a_.length:Int)=(b_.length:Int))):=gQ;clear g;replace h:=if_r g1 h;refine Qd ?_;refine tn ?_;refine Q5 ?_;refine Q5 ?_;refine runQ hN fun K hK=>?_;simp [-Q0,-Q6,-Q1,-Q7,-Q2];repeat refine sdQ ?_
 refine hK _ ?_;clear hK K;refine tn ?_;refine Q9 (st':=⟨[(0,.lst true 1 (Ls a_)),(1,.lst true 1 (Ls b_)),(5,iV 0)],[],0⟩) (wkQ8 []) ?_;replace h:=bind_some h;obtain ⟨e2,h,h2⟩:=h;refine Qj (fun b2:Unit=>⟨[],[],0⟩) (fun b2=>Sum.inl b2=e2) ?_ ?_
 ·refine Qa ?_;refine Qr h (fun s9:Int=>⟨[(0,.lst true 1 (Ls a_)),(1,.lst true 1 (Ls b_)),(5,iV s9)],[],0⟩) (wkQ8 []) ?_;clear h;intro k9 s9 c9 h hk9;refine Q5 ?_;refine Q5 ?_;refine runQ hN fun K hK=>?_;simp [-Q0,-Q6,-Q1,-Q7,-Q2];repeat refine sdQ ?_
  refine hK _ ?_;clear hK K;refine tn ?_;refine Q9 (st':=⟨[(0,.lst true 1 (Ls a_)),(1,.lst true 1 (Ls b_)),(5,iV s9),(14,.val (.bool (decide (s9<(a_.length:Int)))))],[],0⟩) (wkQ8 []) ?_;refine Qc rfl (fun g=>?_) fun g=>?_
  ·have g10:s9<(a_.length:Int):=gQ;clear g;replace h:=if_l g10 h;refine Qd ?_;refine tn ?_;refine Q5 ?_;refine Qa ?_;refine Q5 ?_;refine runQ hN fun K hK=>?_;replace h:=Q4 h;obtain ⟨a11,h⟩:=h;replace h:=Q4 h;obtain ⟨a12,h⟩:=h;simp [-Q0,-Q6,-Q1,-Q7,-Q2,at_L a11,at_L a12];(repeat with_reducible refine sdQ ?_);replace h:=bind_some h;obtain ⟨v13,hv13,h⟩:=h;refine Q3 (Q6x _ _ v13 hv13) (.cons .lst (.cons .lst .nil)) ?_;simp [-Q0,-Q6,-Q1,-Q7,-Q2,unk,unA,unE,unT,unC,flat,at_L a11,at_L a12];(repeat refine sdQ ?_);refine hK _ ?_;clear hK K;refine tn ?_;refine Q9 (st':=⟨[(0,.lst true 1 (Ls a_)),(1,.lst true 1 (Ls b_)),(5,iV s9),(26,.val (.bool (!v13)))],[],0⟩) (wkQ8 []) ?_;refine Qc rfl (fun g=>?_) fun g=>?_
   ·have g14:¬ (v13=true):=gQ;clear g;replace h:=if_l g14 h;refine Q5 ?_;refine runQ hN fun K hK=>?_;simp [-Q0,-Q6,-Q1,-Q7,-Q2];(repeat refine sdQ ?_);refine hK _ ?_;clear hK K;refine tn ?_;refine Q9 (st':=⟨[(4,.val (.bool false))],[],0⟩) (wkQ8 []) ?_;refine Qh ?_;refine br ?_;refine tr ?_;refine lr ?_;refine br ?_;refine tr ?_;cases h;have q:_=e2:=hk9;have h:=h2;rw [← q] at h;clear q;(try dsimp only at h);have hr:=Option.some.inj h;rw [← hr];refine ⟨_,(.tmp .nil),?_⟩;refine ⟨(.one rfl rfl .nil),[.val (.bool false)],[],by simp [UA,U1,IA,I1,LA,L1,BA,B1,EA,E1,E2,eB,eI,eL],by simp,(UpL.refl _)⟩
   have g14:¬ (¬ (v13=true)):=gQ;clear g;replace h:=if_r g14 h;refine Qd ?_;refine bn ?_;refine tn ?_;refine runQ hN fun K hK=>?_;replace h:=Q4 h;obtain ⟨a15,h⟩:=h;simp [-Q0,-Q6,-Q1,-Q7,-Q2,Qo a15];(repeat refine sdQ ?_);refine hK _ ?_;clear hK K;cases h;exact rn (s':=s9+1) hk9 (wkQ8 [])
  have g10:¬ (s9<(a_.length:Int)):=gQ;clear g;replace h:=if_r g10 h;refine Qm ?_;refine tx ?_;refine lx ?_;refine bh ?_;cases h;exact jn (b:=()) hk9 (wkQ8 [])
 intro b2 hb2;have h:=h2;try rw [← hb2] at h
 clear h2;try dsimp only at h
 refine Q5 ?_;refine runQ hN fun K hK=>?_;simp [-Q0,-Q6,-Q1,-Q7,-Q2];repeat refine sdQ ?_
 refine hK _ ?_;clear hK K;refine tn ?_;refine Q9 (st':=⟨[(4,.val (.bool true))],[],0⟩) (wkQ8 []) ?_;refine Qh ?_;have hr:=Option.some.inj h;rw [← hr];refine ⟨_,(.tmp .nil),?_⟩;refine ⟨(.one rfl rfl .nil),[.val (.bool true)],[],by simp [UA,U1,IA,I1,LA,L1,BA,B1,EA,E1,E2,eB,eI,eL],by simp,(UpL.refl _)⟩
attribute [local simp] eL eI QB
noncomputable def Q1M (a_:List (List (List Int))) (b_:List (List (List Int))):Option Bool :=
 if ¬ ((a_.length:Int)=(b_.length:Int)) then
  some false
 else
  (Qx (σ:=Int) (ε:=Unit ⊕ Bool) (fun s9 =>
   if s9<(a_.length:Int) then
    ass (0≤s9∧s9<(a_.length:Int)) <|
    ass (0≤s9∧s9<(b_.length:Int)) <|
    (Q1E (gx a_ s9) (gx b_ s9)).bind fun v13 =>
    if ¬ (v13=true) then
     some (Ctl.ret (Sum.inr false))
    else
     ass (B64 (s9+1)) <|
     some (Ctl.next (s9+1))
   else
    some (Ctl.ret (Sum.inl ()))) fuel 0).bind fun e2 =>
  match e2 with
  | .inl b2 =>
   some true
  | .inr p2 =>
   some p2
theorem Q54 (a_:List (List (List Int))) (b_:List (List (List Int))) (r:Bool) (h:Q1M a_ b_=some r):Contract Try.prog 69 [.lst true 1 (Es eL a_),.lst true 1 (Es eL b_)] (.val (.bool r)):=by
 refine Qk (rvs:=[.tmp 4]) (rs:=[.val (.bool r)]) Try.func69 rfl rfl rfl rfl (by simp [Try.f69]) fun F hN hP=>?_;unfold Q1M at h;refine Q5 ?_;refine runQ hN fun K hK=>?_;simp [-Q0,-Q6,-Q1,-Q7,-Q2];repeat refine sdQ ?_
 refine hK _ ?_;clear hK K;refine tn ?_;refine Q9 (st':=⟨[(0,.lst true 1 (Es eL a_)),(1,.lst true 1 (Es eL b_))],[],0⟩) (wkQ8 []) ?_;refine Q5 ?_;refine Q5 ?_;refine runQ hN fun K hK=>?_;simp [-Q0,-Q6,-Q1,-Q7,-Q2];repeat refine sdQ ?_
 refine hK _ ?_;clear hK K;refine tn ?_;refine Q9 (st':=⟨[(0,.lst true 1 (Es eL a_)),(1,.lst true 1 (Es eL b_)),(10,.val (.bool ((a_.length:Int) != (b_.length:Int))))],[],0⟩) (wkQ8 []) ?_;refine Qc rfl (fun g=>?_) fun g=>?_
 ·have g1:¬ ((a_.length:Int)=(b_.length:Int)):=gQ;clear g;replace h:=if_l g1 h;refine Q5 ?_;refine runQ hN fun K hK=>?_;simp [-Q0,-Q6,-Q1,-Q7,-Q2];repeat refine sdQ ?_
  refine hK _ ?_;clear hK K;refine tn ?_;refine Q9 (st':=⟨[(4,.val (.bool false))],[],0⟩) (wkQ8 []) ?_;refine Qh ?_;refine tr ?_;have hr:=Option.some.inj h;rw [← hr];refine ⟨_,(.tmp .nil),?_⟩;refine ⟨(.one rfl rfl .nil),[.val (.bool false)],[],by simp [UA,U1,IA,I1,LA,L1,BA,B1,EA,E1,E2,eB,eI,eL],by simp,(UpL.refl _)⟩
 have g1:¬ (¬ ((a_.length:Int)=(b_.length:Int))):=gQ;clear g;replace h:=if_r g1 h;refine Qd ?_;refine tn ?_;refine Q5 ?_;refine Q5 ?_;refine runQ hN fun K hK=>?_;simp [-Q0,-Q6,-Q1,-Q7,-Q2];repeat refine sdQ ?_
 refine hK _ ?_;clear hK K;refine tn ?_;refine Q9 (st':=⟨[(0,.lst true 1 (Es eL a_)),(1,.lst true 1 (Es eL b_)),(5,iV 0)],[],0⟩) (wkQ8 []) ?_;replace h:=bind_some h;obtain ⟨e2,h,h2⟩:=h;refine Qj (fun b2:Unit=>⟨[],[],0⟩) (fun b2=>Sum.inl b2=e2) ?_ ?_
 ·refine Qa ?_;refine Qr h (fun s9:Int=>⟨[(0,.lst true 1 (Es eL a_)),(1,.lst true 1 (Es eL b_)),(5,iV s9)],[],0⟩) (wkQ8 []) ?_;clear h;intro k9 s9 c9 h hk9;refine Q5 ?_;refine Q5 ?_;refine runQ hN fun K hK=>?_;simp [-Q0,-Q6,-Q1,-Q7,-Q2];repeat refine sdQ ?_
  refine hK _ ?_;clear hK K;refine tn ?_;refine Q9 (st':=⟨[(0,.lst true 1 (Es eL a_)),(1,.lst true 1 (Es eL b_)),(5,iV s9),(14,.val (.bool (decide (s9<(a_.length:Int)))))],[],0⟩) (wkQ8 []) ?_;refine Qc rfl (fun g=>?_) fun g=>?_
  ·have g10:s9<(a_.length:Int):=gQ;clear g;replace h:=if_l g10 h;refine Qd ?_;refine tn ?_;refine Q5 ?_;refine Qa ?_;refine Q5 ?_;refine runQ hN fun K hK=>?_;replace h:=Q4 h;obtain ⟨a11,h⟩:=h;replace h:=Q4 h;obtain ⟨a12,h⟩:=h;simp [-Q0,-Q6,-Q1,-Q7,-Q2,at_E (c:=eL) a11,at_E (c:=eL) a12];(repeat with_reducible refine sdQ ?_);replace h:=bind_some h;obtain ⟨v13,hv13,h⟩:=h;refine Q3 (Q5M _ _ v13 hv13) (.cons .lst (.cons .lst .nil)) ?_;simp [-Q0,-Q6,-Q1,-Q7,-Q2,unk,unA,unE,unT,unC,flat,at_E (c:=eL) a11,at_E (c:=eL) a12];(repeat refine sdQ ?_);refine hK _ ?_;clear hK K;refine tn ?_;refine Q9 (st':=⟨[(0,.lst true 1 (Es eL a_)),(1,.lst true 1 (Es eL b_)),(5,iV s9),(26,.val (.bool (!v13)))],[],0⟩) (wkQ8 []) ?_;refine Qc rfl (fun g=>?_) fun g=>?_
   ·have g14:¬ (v13=true):=gQ;clear g;replace h:=if_l g14 h;refine Q5 ?_;refine runQ hN fun K hK=>?_;simp [-Q0,-Q6,-Q1,-Q7,-Q2];(repeat refine sdQ ?_);refine hK _ ?_;clear hK K;refine tn ?_;refine Q9 (st':=⟨[(4,.val (.bool false))],[],0⟩) (wkQ8 []) ?_;refine Qh ?_;refine br ?_;refine tr ?_;refine lr ?_;refine br ?_;refine tr ?_;cases h;have q:_=e2:=hk9;have h:=h2;rw [← q] at h;clear q;(try dsimp only at h);have hr:=Option.some.inj h;rw [← hr];refine ⟨_,(.tmp .nil),?_⟩;refine ⟨(.one rfl rfl .nil),[.val (.bool false)],[],by simp [UA,U1,IA,I1,LA,L1,BA,B1,EA,E1,E2,eB,eI,eL],by simp,(UpL.refl _)⟩
   have g14:¬ (¬ (v13=true)):=gQ;clear g;replace h:=if_r g14 h;refine Qd ?_;refine bn ?_;refine tn ?_;refine runQ hN fun K hK=>?_;replace h:=Q4 h;obtain ⟨a15,h⟩:=h;simp [-Q0,-Q6,-Q1,-Q7,-Q2,Qo a15];(repeat refine sdQ ?_);refine hK _ ?_;clear hK K;cases h;exact rn (s':=s9+1) hk9 (wkQ8 [])
  have g10:¬ (s9<(a_.length:Int)):=gQ;clear g;replace h:=if_r g10 h;refine Qm ?_;refine tx ?_;refine lx ?_;refine bh ?_;cases h;exact jn (b:=()) hk9 (wkQ8 [])
 intro b2 hb2;have h:=h2;try rw [← hb2] at h
 clear h2;try dsimp only at h
 refine Q5 ?_;refine runQ hN fun K hK=>?_;simp [-Q0,-Q6,-Q1,-Q7,-Q2];repeat refine sdQ ?_
 refine hK _ ?_;clear hK K;refine tn ?_;refine Q9 (st':=⟨[(4,.val (.bool true))],[],0⟩) (wkQ8 []) ?_;refine Qh ?_;have hr:=Option.some.inj h;rw [← hr];refine ⟨_,(.tmp .nil),?_⟩;refine ⟨(.one rfl rfl .nil),[.val (.bool true)],[],by simp [UA,U1,IA,I1,LA,L1,BA,B1,EA,E1,E2,eB,eI,eL],by simp,(UpL.refl _)⟩
attribute [local simp] eL eI QB
noncomputable def Q1f (a_:List (List Int)) (k_:Int):Option Int :=
 (Qx (σ:=Int × Int) (ε:=Int ⊕ Int) (fun s7 =>
  if s7.2<(a_.length:Int) then
   ass (0≤s7.2∧s7.2<(a_.length:Int)) <|
   (Q1N (rx a_ s7.2) s7.1).bind fun v10 =>
   if v10<0 then
    some (Ctl.ret (Sum.inr (-1)))
   else
    ass (B64 (s7.2+1)) <|
    some (Ctl.next (v10,s7.2+1))
  else
   some (Ctl.ret (Sum.inl s7.1))) fuel (k_,0)).bind fun e1 =>
 match e1 with
 | .inl b1 =>
  some b1
 | .inr p1 =>
  some p1
theorem Q4U (a_:List (List Int)) (k_:Int) (r:Int) (h:Q1f a_ k_=some r):Contract Try.prog 37 [.lst true 1 (Ls a_),iV k_] (iV r):=by
 refine Qk (rvs:=[.tmp 4]) (rs:=[iV r]) Try.func37 rfl rfl rfl rfl (by simp [Try.f37]) fun F hN hP=>?_;unfold Q1f at h;refine Q5 ?_;refine runQ hN fun K hK=>?_;simp [-Q0,-Q6,-Q1,-Q7,-Q2];repeat refine sdQ ?_
 refine hK _ ?_;clear hK K;refine tn ?_;refine Q9 (st':=⟨[(0,.lst true 1 (Ls a_)),(1,iV k_)],[],0⟩) (wkQ8 []) ?_;refine Q5 ?_;refine Q5 ?_;refine runQ hN fun K hK=>?_;simp [-Q0,-Q6,-Q1,-Q7,-Q2];repeat refine sdQ ?_
 refine hK _ ?_;clear hK K;refine tn ?_;refine Q9 (st':=⟨[(0,.lst true 1 (Ls a_)),(1,iV k_),(5,iV 0)],[],0⟩) (wkQ8 []) ?_;replace h:=bind_some h;obtain ⟨e1,h,h1⟩:=h;refine Qj (fun b1:Int=>⟨[(1,iV b1)],[],0⟩) (fun b1=>Sum.inl b1=e1) ?_ ?_
 ·refine Qa ?_;refine Qr h (fun s7:Int × Int=>⟨[(0,.lst true 1 (Ls a_)),(1,iV s7.1),(5,iV s7.2)],[],0⟩) (wkQ8 []) ?_;clear h;intro k7 s7 c7 h hk7;refine Q5 ?_;refine Q5 ?_;refine runQ hN fun K hK=>?_;simp [-Q0,-Q6,-Q1,-Q7,-Q2];repeat refine sdQ ?_
  refine hK _ ?_;clear hK K;refine tn ?_;refine Q9 (st':=⟨[(0,.lst true 1 (Ls a_)),(1,iV s7.1),(5,iV s7.2),(9,.val (.bool (decide (s7.2<(a_.length:Int)))))],[],0⟩) (wkQ8 []) ?_;refine Qc rfl (fun g=>?_) fun g=>?_
  ·have g8:s7.2<(a_.length:Int):=gQ;clear g;replace h:=if_l g8 h;refine Qd ?_;refine tn ?_;refine Q5 ?_;refine Qa ?_;refine Q5 ?_;refine runQ hN fun K hK=>?_;replace h:=Q4 h;obtain ⟨a9,h⟩:=h;simp [-Q0,-Q6,-Q1,-Q7,-Q2,at_L a9];(repeat with_reducible refine sdQ ?_);replace h:=bind_some h;obtain ⟨v10,hv10,h⟩:=h;refine Q3 (Q55 _ _ v10 hv10) (.cons .lst (.cons .val .nil)) ?_;simp [-Q0,-Q6,-Q1,-Q7,-Q2,unk,unA,unE,unT,unC,flat,at_L a9];(repeat refine sdQ ?_);refine hK _ ?_;clear hK K;refine tn ?_;refine Q9 (st':=⟨[(0,.lst true 1 (Ls a_)),(1,iV v10),(5,iV s7.2)],[],0⟩) (wkQ8 []) ?_;refine Q5 ?_;refine runQ hN fun K hK=>?_;simp [-Q0,-Q6,-Q1,-Q7,-Q2];(repeat refine sdQ ?_);refine hK _ ?_;clear hK K;refine tn ?_;refine Q9 (st':=⟨[(0,.lst true 1 (Ls a_)),(1,iV v10),(5,iV s7.2),(19,.val (.bool (decide (v10<0))))],[],0⟩) (wkQ8 []) ?_;refine Qc rfl (fun g=>?_) fun g=>?_
   ·have g11:v10<0:=gQ;clear g;replace h:=if_l g11 h;refine Q5 ?_;refine runQ hN fun K hK=>?_;simp [-Q0,-Q6,-Q1,-Q7,-Q2];(repeat refine sdQ ?_);refine hK _ ?_;clear hK K;refine tn ?_;refine Q9 (st':=⟨[(4,iV (-1))],[],0⟩) (wkQ8 []) ?_;refine Qh ?_;refine br ?_;refine tr ?_;refine lr ?_;refine br ?_;refine tr ?_;cases h;have q:_=e1:=hk7;have h:=h1;rw [← q] at h;clear q;(try dsimp only at h);have hr:=Option.some.inj h;rw [← hr];refine ⟨_,(.tmp .nil),?_⟩;refine ⟨(.one rfl rfl .nil),[iV (-1)],[],by simp [UA,U1,IA,I1,LA,L1,BA,B1,EA,E1,E2,eB,eI,eL],by simp,(UpL.refl _)⟩
   have g11:¬ (v10<0):=gQ;clear g;replace h:=if_r g11 h;refine Qd ?_;refine bn ?_;refine tn ?_;refine runQ hN fun K hK=>?_;replace h:=Q4 h;obtain ⟨a12,h⟩:=h;simp [-Q0,-Q6,-Q1,-Q7,-Q2,Qo a12];(repeat refine sdQ ?_);refine hK _ ?_;clear hK K;cases h;exact rn (s':=(v10,s7.2+1)) hk7 (wkQ8 [])
  have g8:¬ (s7.2<(a_.length:Int)):=gQ;clear g;replace h:=if_r g8 h;refine Qm ?_;refine tx ?_;refine lx ?_;refine bh ?_;cases h;exact jn (b:=s7.1) hk7 (wkQ8 [])
 intro b1 hb1;have h:=h1;try rw [← hb1] at h
 clear h1;try dsimp only at h
 refine Q5 ?_;refine runQ hN fun K hK=>?_;simp [-Q0,-Q6,-Q1,-Q7,-Q2];repeat refine sdQ ?_
 refine hK _ ?_;clear hK K;refine tn ?_;refine Q9 (st':=⟨[(4,iV b1)],[],0⟩) (wkQ8 []) ?_;refine Qh ?_;have hr:=Option.some.inj h;rw [← hr];refine ⟨_,(.tmp .nil),?_⟩;refine ⟨(.one rfl rfl .nil),[iV b1],[],by simp [UA,U1,IA,I1,LA,L1,BA,B1,EA,E1,E2,eB,eI,eL],by simp,(UpL.refl _)⟩
attribute [local simp] eL eI QB
noncomputable def Q1r (a_:List (List (List Int))) (k_:Int):Option Int :=
 (Qx (σ:=Int × Int) (ε:=Int ⊕ Int) (fun s7 =>
  if s7.2<(a_.length:Int) then
   ass (0≤s7.2∧s7.2<(a_.length:Int)) <|
   (Q1f (gx a_ s7.2) s7.1).bind fun v10 =>
   if v10<0 then
    some (Ctl.ret (Sum.inr (-1)))
   else
    ass (B64 (s7.2+1)) <|
    some (Ctl.next (v10,s7.2+1))
  else
   some (Ctl.ret (Sum.inl s7.1))) fuel (k_,0)).bind fun e1 =>
 match e1 with
 | .inl b1 =>
  some b1
 | .inr p1 =>
  some p1
theorem Q4n (a_:List (List (List Int))) (k_:Int) (r:Int) (h:Q1r a_ k_=some r):Contract Try.prog 71 [.lst true 1 (Es eL a_),iV k_] (iV r):=by
 refine Qk (rvs:=[.tmp 4]) (rs:=[iV r]) Try.func71 rfl rfl rfl rfl (by simp [Try.f71]) fun F hN hP=>?_;unfold Q1r at h;refine Q5 ?_;refine runQ hN fun K hK=>?_;simp [-Q0,-Q6,-Q1,-Q7,-Q2];repeat refine sdQ ?_
 refine hK _ ?_;clear hK K;refine tn ?_;refine Q9 (st':=⟨[(0,.lst true 1 (Es eL a_)),(1,iV k_)],[],0⟩) (wkQ8 []) ?_;refine Q5 ?_;refine Q5 ?_;refine runQ hN fun K hK=>?_;simp [-Q0,-Q6,-Q1,-Q7,-Q2];repeat refine sdQ ?_
 refine hK _ ?_;clear hK K;refine tn ?_;refine Q9 (st':=⟨[(0,.lst true 1 (Es eL a_)),(1,iV k_),(5,iV 0)],[],0⟩) (wkQ8 []) ?_;replace h:=bind_some h;obtain ⟨e1,h,h1⟩:=h;refine Qj (fun b1:Int=>⟨[(1,iV b1)],[],0⟩) (fun b1=>Sum.inl b1=e1) ?_ ?_
 ·refine Qa ?_;refine Qr h (fun s7:Int × Int=>⟨[(0,.lst true 1 (Es eL a_)),(1,iV s7.1),(5,iV s7.2)],[],0⟩) (wkQ8 []) ?_;clear h;intro k7 s7 c7 h hk7;refine Q5 ?_;refine Q5 ?_;refine runQ hN fun K hK=>?_;simp [-Q0,-Q6,-Q1,-Q7,-Q2];repeat refine sdQ ?_
  refine hK _ ?_;clear hK K;refine tn ?_;refine Q9 (st':=⟨[(0,.lst true 1 (Es eL a_)),(1,iV s7.1),(5,iV s7.2),(9,.val (.bool (decide (s7.2<(a_.length:Int)))))],[],0⟩) (wkQ8 []) ?_;refine Qc rfl (fun g=>?_) fun g=>?_
  ·have g8:s7.2<(a_.length:Int):=gQ;clear g;replace h:=if_l g8 h;refine Qd ?_;refine tn ?_;refine Q5 ?_;refine Qa ?_;refine Q5 ?_;refine runQ hN fun K hK=>?_;replace h:=Q4 h;obtain ⟨a9,h⟩:=h;simp [-Q0,-Q6,-Q1,-Q7,-Q2,at_E (c:=eL) a9];(repeat with_reducible refine sdQ ?_);replace h:=bind_some h;obtain ⟨v10,hv10,h⟩:=h;refine Q3 (Q4U _ _ v10 hv10) (.cons .lst (.cons .val .nil)) ?_;simp [-Q0,-Q6,-Q1,-Q7,-Q2,unk,unA,unE,unT,unC,flat,at_E (c:=eL) a9];(repeat refine sdQ ?_);refine hK _ ?_;clear hK K;refine tn ?_;refine Q9 (st':=⟨[(0,.lst true 1 (Es eL a_)),(1,iV v10),(5,iV s7.2)],[],0⟩) (wkQ8 []) ?_;refine Q5 ?_;refine runQ hN fun K hK=>?_;simp [-Q0,-Q6,-Q1,-Q7,-Q2];(repeat refine sdQ ?_);refine hK _ ?_;clear hK K;refine tn ?_;refine Q9 (st':=⟨[(0,.lst true 1 (Es eL a_)),(1,iV v10),(5,iV s7.2),(19,.val (.bool (decide (v10<0))))],[],0⟩) (wkQ8 []) ?_;refine Qc rfl (fun g=>?_) fun g=>?_
   ·have g11:v10<0:=gQ;clear g;replace h:=if_l g11 h;refine Q5 ?_;refine runQ hN fun K hK=>?_;simp [-Q0,-Q6,-Q1,-Q7,-Q2];(repeat refine sdQ ?_);refine hK _ ?_;clear hK K;refine tn ?_;refine Q9 (st':=⟨[(4,iV (-1))],[],0⟩) (wkQ8 []) ?_;refine Qh ?_;refine br ?_;refine tr ?_;refine lr ?_;refine br ?_;refine tr ?_;cases h;have q:_=e1:=hk7;have h:=h1;rw [← q] at h;clear q;(try dsimp only at h);have hr:=Option.some.inj h;rw [← hr];refine ⟨_,(.tmp .nil),?_⟩;refine ⟨(.one rfl rfl .nil),[iV (-1)],[],by simp [UA,U1,IA,I1,LA,L1,BA,B1,EA,E1,E2,eB,eI,eL],by simp,(UpL.refl _)⟩
   have g11:¬ (v10<0):=gQ;clear g;replace h:=if_r g11 h;refine Qd ?_;refine bn ?_;refine tn ?_;refine runQ hN fun K hK=>?_;replace h:=Q4 h;obtain ⟨a12,h⟩:=h;simp [-Q0,-Q6,-Q1,-Q7,-Q2,Qo a12];(repeat refine sdQ ?_);refine hK _ ?_;clear hK K;cases h;exact rn (s':=(v10,s7.2+1)) hk7 (wkQ8 [])
  have g8:¬ (s7.2<(a_.length:Int)):=gQ;clear g;replace h:=if_r g8 h;refine Qm ?_;refine tx ?_;refine lx ?_;refine bh ?_;cases h;exact jn (b:=s7.1) hk7 (wkQ8 [])
 intro b1 hb1;have h:=h1;try rw [← hb1] at h
 clear h1;try dsimp only at h
 refine Q5 ?_;refine runQ hN fun K hK=>?_;simp [-Q0,-Q6,-Q1,-Q7,-Q2];repeat refine sdQ ?_
 refine hK _ ?_;clear hK K;refine tn ?_;refine Q9 (st':=⟨[(4,iV b1)],[],0⟩) (wkQ8 []) ?_;refine Qh ?_;have hr:=Option.some.inj h;rw [← hr];refine ⟨_,(.tmp .nil),?_⟩;refine ⟨(.one rfl rfl .nil),[iV b1],[],by simp [UA,U1,IA,I1,LA,L1,BA,B1,EA,E1,E2,eB,eI,eL],by simp,(UpL.refl _)⟩
attribute [local simp] eL eI QB
noncomputable def Q1O (a_:List (List (List Int))) (left_:Int):Option Int :=
 ass (B64 (left_ - (a_.length:Int))) <|
 if (left_ - (a_.length:Int))<0 then
  some (-1)
 else
  (Qx (σ:=Int × Int) (ε:=Int ⊕ Int) (fun s9 =>
   if s9.2<(a_.length:Int) then
    ass (0≤s9.2∧s9.2<(a_.length:Int)) <|
    (Q23 (gx a_ s9.2) s9.1).bind fun v12 =>
    if v12<0 then
     some (Ctl.ret (Sum.inr (-1)))
    else
     ass (B64 (s9.2+1)) <|
     some (Ctl.next (v12,s9.2+1))
   else
    some (Ctl.ret (Sum.inl s9.1))) fuel (left_ - (a_.length:Int),0)).bind fun e3 =>
  match e3 with
  | .inl b3 =>
   some b3
  | .inr p3 =>
   some p3
theorem Q56 (a_:List (List (List Int))) (left_:Int) (r:Int) (h:Q1O a_ left_=some r):Contract Try.prog 57 [.lst true 1 (Es eL a_),iV left_] (iV r):=by
 refine Qk (rvs:=[.tmp 4]) (rs:=[iV r]) Try.func57 rfl rfl rfl rfl (by simp [Try.f57]) fun F hN hP=>?_;unfold Q1O at h;refine Q5 ?_;refine runQ hN fun K hK=>?_;simp [-Q0,-Q6,-Q1,-Q7,-Q2];repeat refine sdQ ?_
 refine hK _ ?_;clear hK K;refine tn ?_;refine Q9 (st':=⟨[(0,.lst true 1 (Es eL a_)),(1,iV left_)],[],0⟩) (wkQ8 []) ?_;refine Q5 ?_;refine runQ hN fun K hK=>?_;replace h:=Q4 h;obtain ⟨a1,h⟩:=h;simp [-Q0,-Q6,-Q1,-Q7,-Q2,Qo a1];repeat refine sdQ ?_
 refine hK _ ?_;clear hK K;refine tn ?_;refine Q9 (st':=⟨[(0,.lst true 1 (Es eL a_)),(1,iV (left_ - (a_.length:Int)))],[],0⟩) (wkQ8 []) ?_;refine Q5 ?_;refine Q5 ?_;refine runQ hN fun K hK=>?_;simp [-Q0,-Q6,-Q1,-Q7,-Q2];repeat refine sdQ ?_
 refine hK _ ?_;clear hK K;refine tn ?_;refine Q9 (st':=⟨[(0,.lst true 1 (Es eL a_)),(1,iV (left_ - (a_.length:Int))),(11,.val (.bool (decide ((left_ - (a_.length:Int))<0))))],[],0⟩) (wkQ8 []) ?_;refine Qc rfl (fun g=>?_) fun g=>?_
 ·have g2:(left_ - (a_.length:Int))<0:=gQ;clear g;replace h:=if_l g2 h;refine Q5 ?_;refine runQ hN fun K hK=>?_;simp [-Q0,-Q6,-Q1,-Q7,-Q2];repeat refine sdQ ?_
  refine hK _ ?_;clear hK K;refine tn ?_;refine Q9 (st':=⟨[(4,iV (-1))],[],0⟩) (wkQ8 []) ?_;refine Qh ?_;refine tr ?_;have hr:=Option.some.inj h;rw [← hr];refine ⟨_,(.tmp .nil),?_⟩;refine ⟨(.one rfl rfl .nil),[iV (-1)],[],by simp [UA,U1,IA,I1,LA,L1,BA,B1,EA,E1,E2,eB,eI,eL],by simp,(UpL.refl _)⟩
 have g2:¬ ((left_ - (a_.length:Int))<0):=gQ;clear g;replace h:=if_r g2 h;refine Qd ?_;refine tn ?_;refine Q5 ?_;refine Q5 ?_;refine runQ hN fun K hK=>?_;simp [-Q0,-Q6,-Q1,-Q7,-Q2];repeat refine sdQ ?_
 refine hK _ ?_;clear hK K;refine tn ?_;refine Q9 (st':=⟨[(0,.lst true 1 (Es eL a_)),(1,iV (left_ - (a_.length:Int))),(5,iV 0)],[],0⟩) (wkQ8 []) ?_;replace h:=bind_some h;obtain ⟨e3,h,h3⟩:=h;refine Qj (fun b3:Int=>⟨[(1,iV b3)],[],0⟩) (fun b3=>Sum.inl b3=e3) ?_ ?_
 ·refine Qa ?_;refine Qr h (fun s9:Int × Int=>⟨[(0,.lst true 1 (Es eL a_)),(1,iV s9.1),(5,iV s9.2)],[],0⟩) (wkQ8 []) ?_;clear h;intro k9 s9 c9 h hk9;refine Q5 ?_;refine Q5 ?_;refine runQ hN fun K hK=>?_;simp [-Q0,-Q6,-Q1,-Q7,-Q2];repeat refine sdQ ?_
  refine hK _ ?_;clear hK K;refine tn ?_;refine Q9 (st':=⟨[(0,.lst true 1 (Es eL a_)),(1,iV s9.1),(5,iV s9.2),(15,.val (.bool (decide (s9.2<(a_.length:Int)))))],[],0⟩) (wkQ8 []) ?_;refine Qc rfl (fun g=>?_) fun g=>?_
  ·have g10:s9.2<(a_.length:Int):=gQ;clear g;replace h:=if_l g10 h;refine Qd ?_;refine tn ?_;refine Q5 ?_;refine Qa ?_;refine Q5 ?_;refine runQ hN fun K hK=>?_;replace h:=Q4 h;obtain ⟨a11,h⟩:=h;simp [-Q0,-Q6,-Q1,-Q7,-Q2,at_E (c:=eL) a11];(repeat with_reducible refine sdQ ?_);replace h:=bind_some h;obtain ⟨v12,hv12,h⟩:=h;refine Q3 (Q5N _ _ v12 hv12) (.cons .lst (.cons .val .nil)) ?_;simp [-Q0,-Q6,-Q1,-Q7,-Q2,unk,unA,unE,unT,unC,flat,at_E (c:=eL) a11];(repeat refine sdQ ?_);refine hK _ ?_;clear hK K;refine tn ?_;refine Q9 (st':=⟨[(0,.lst true 1 (Es eL a_)),(1,iV v12),(5,iV s9.2)],[],0⟩) (wkQ8 []) ?_;refine Q5 ?_;refine runQ hN fun K hK=>?_;simp [-Q0,-Q6,-Q1,-Q7,-Q2];(repeat refine sdQ ?_);refine hK _ ?_;clear hK K;refine tn ?_;refine Q9 (st':=⟨[(0,.lst true 1 (Es eL a_)),(1,iV v12),(5,iV s9.2),(25,.val (.bool (decide (v12<0))))],[],0⟩) (wkQ8 []) ?_;refine Qc rfl (fun g=>?_) fun g=>?_
   ·have g13:v12<0:=gQ;clear g;replace h:=if_l g13 h;refine Q5 ?_;refine runQ hN fun K hK=>?_;simp [-Q0,-Q6,-Q1,-Q7,-Q2];(repeat refine sdQ ?_);refine hK _ ?_;clear hK K;refine tn ?_;refine Q9 (st':=⟨[(4,iV (-1))],[],0⟩) (wkQ8 []) ?_;refine Qh ?_;refine br ?_;refine tr ?_;refine lr ?_;refine br ?_;refine tr ?_;cases h;have q:_=e3:=hk9;have h:=h3;rw [← q] at h;clear q;(try dsimp only at h);have hr:=Option.some.inj h;rw [← hr];refine ⟨_,(.tmp .nil),?_⟩;refine ⟨(.one rfl rfl .nil),[iV (-1)],[],by simp [UA,U1,IA,I1,LA,L1,BA,B1,EA,E1,E2,eB,eI,eL],by simp,(UpL.refl _)⟩
   have g13:¬ (v12<0):=gQ;clear g;replace h:=if_r g13 h;refine Qd ?_;refine bn ?_;refine tn ?_;refine runQ hN fun K hK=>?_;replace h:=Q4 h;obtain ⟨a14,h⟩:=h;simp [-Q0,-Q6,-Q1,-Q7,-Q2,Qo a14];(repeat refine sdQ ?_);refine hK _ ?_;clear hK K;cases h;exact rn (s':=(v12,s9.2+1)) hk9 (wkQ8 [])
  have g10:¬ (s9.2<(a_.length:Int)):=gQ;clear g;replace h:=if_r g10 h;refine Qm ?_;refine tx ?_;refine lx ?_;refine bh ?_;cases h;exact jn (b:=s9.1) hk9 (wkQ8 [])
 intro b3 hb3;have h:=h3;try rw [← hb3] at h
 clear h3;try dsimp only at h
 refine Q5 ?_;refine runQ hN fun K hK=>?_;simp [-Q0,-Q6,-Q1,-Q7,-Q2];repeat refine sdQ ?_
 refine hK _ ?_;clear hK K;refine tn ?_;refine Q9 (st':=⟨[(4,iV b3)],[],0⟩) (wkQ8 []) ?_;refine Qh ?_;have hr:=Option.some.inj h;rw [← hr];refine ⟨_,(.tmp .nil),?_⟩;refine ⟨(.one rfl rfl .nil),[iV b3],[],by simp [UA,U1,IA,I1,LA,L1,BA,B1,EA,E1,E2,eB,eI,eL],by simp,(UpL.refl _)⟩
attribute [local simp] eL eI QB
noncomputable def Q1P (a_:List (List (List Int))):Option (List (List (List Int))) :=
 ass (0≤(a_.length:Int)∧(a_.length:Int)≤1073741824) <|
 (Qx (σ:=List (List (List Int)) × Int) (ε:=List (List (List Int))) (fun s8 =>
  if s8.2<(a_.length:Int) then
   ass (0≤s8.2∧s8.2<(a_.length:Int)) <|
   (Q24 (gx a_ s8.2)).bind fun v11 =>
   ass (0≤s8.2∧s8.2<(s8.1.length:Int)) <|
   ass (B64 (s8.2+1)) <|
   some (Ctl.next (s8.1.set s8.2.toNat v11,s8.2+1))
  else
   some (Ctl.ret s8.1)) fuel (List.replicate ((a_.length:Int).toNat) ([]:List (List Int)),0)).bind fun b2 =>
 some b2
theorem Q57 (a_:List (List (List Int))) (r:List (List (List Int))) (h:Q1P a_=some r):Contract Try.prog 61 [.lst true 1 (Es eL a_)] (.lst true 1 (Es eL r)):=by
 refine Qk (rvs:=[.tmp 2]) (rs:=[.lst true 1 (Es eL r)]) Try.func61 rfl rfl rfl rfl (by simp [Try.f61]) fun F hN hP=>?_;unfold Q1P at h;refine Q5 ?_;refine runQ hN fun K hK=>?_;simp [-Q0,-Q6,-Q1,-Q7,-Q2];repeat refine sdQ ?_
 refine hK _ ?_;clear hK K;refine tn ?_;refine Q9 (st':=⟨[(0,.lst true 1 (Es eL a_))],[],0⟩) (wkQ8 []) ?_;refine Q5 ?_;refine Q7Q [7] mo (by rw [hN];decide) fun K hK=>?_;replace h:=Q4 h;obtain ⟨a1,h⟩:=h;simp [-Q0,-Q6,-Q1,-Q7,-Q2];repeat refine sdQ ?_
 refine hK _ ?_;clear hK K;refine tn ?_;refine Q9 (st':=⟨[(0,.lst true 1 (Es eL a_)),(3,.own 0 0 ((List.replicate ((a_.length:Int).toNat) ([]:List (List Int))).length))],[(0,.row 1 (Es eL (List.replicate ((a_.length:Int).toNat) ([]:List (List Int)))))],1⟩) (wkQ8 [(0,0)]) ?_;refine Q5 ?_;refine Q5 ?_;refine runQ hN fun K hK=>?_;simp [-Q0,-Q6,-Q1,-Q7,-Q2];repeat refine sdQ ?_
 refine hK _ ?_;clear hK K;refine tn ?_;refine Q9 (st':=⟨[(0,.lst true 1 (Es eL a_)),(3,.own 0 0 ((List.replicate ((a_.length:Int).toNat) ([]:List (List Int))).length)),(4,iV 0)],[(0,.row 1 (Es eL (List.replicate ((a_.length:Int).toNat) ([]:List (List Int)))))],1⟩) (wkQ8 [(0,0)]) ?_;replace h:=bind_some h;obtain ⟨e2,h,h2⟩:=h;refine Qj (fun b2:List (List (List Int))=>⟨[(3,.own 0 0 b2.length)],[(0,.row 1 (Es eL b2))],1⟩) (fun b2=>b2=e2) ?_ ?_
 ·refine Qa ?_;refine Qr h (fun s8:List (List (List Int)) × Int=>⟨[(0,.lst true 1 (Es eL a_)),(3,.own 0 0 s8.1.length),(4,iV s8.2)],[(0,.row 1 (Es eL s8.1))],1⟩) (wkQ8 [(0,0)]) ?_;clear h;intro k8 s8 c8 h hk8;refine Q5 ?_;refine Q5 ?_;refine runQ hN fun K hK=>?_;simp [-Q0,-Q6,-Q1,-Q7,-Q2];repeat refine sdQ ?_
  refine hK _ ?_;clear hK K;refine tn ?_;refine Q9 (st':=⟨[(0,.lst true 1 (Es eL a_)),(3,.own 0 0 s8.1.length),(4,iV s8.2),(11,.val (.bool (decide (s8.2<(a_.length:Int)))))],[(0,.row 1 (Es eL s8.1))],1⟩) (wkQ8 [(0,0)]) ?_;refine Qc rfl (fun g=>?_) fun g=>?_
  ·have g9:s8.2<(a_.length:Int):=gQ;clear g;replace h:=if_l g9 h;refine Qd ?_;refine tn ?_;refine Q5 ?_;refine Qa ?_;refine Q7Q [] mo (by rw [hN];decide) fun K hK=>?_;replace h:=Q4 h;obtain ⟨a10,h⟩:=h;simp [-Q0,-Q6,-Q1,-Q7,-Q2,at_E (c:=eL) a10];(repeat with_reducible refine sdQ ?_);replace h:=bind_some h;obtain ⟨v11,hv11,h⟩:=h;refine Q3s (fz:=[]) (Q5O _ v11 hv11) (.cons .lst .nil) ?_;replace h:=Q4 h;obtain ⟨a12,h⟩:=h;simp [-Q0,-Q6,-Q1,-Q7,-Q2,unk,unA,unE,unT,unC,flat,at_E (c:=eL) a10,at_E (c:=eL) a12];(repeat with_reducible refine sdQ ?_);refine stoX_row (fz:=[]) [] tf_23 rfl (b:=.lst true 1 (Ls v11)) (ds:=[1]) (es2:=Es eL (s8.1.set s8.2.toNat v11)) rfl (by simp) (by first|(simp;done)|(simp;omega)|omega) (by simp) (by simp) (by simp) (by simp) (Es_st (fun _=>rfl) rfl) ?_;simp [-Q0,-Q6,-Q1,-Q7,-Q2,at_E (c:=eL) a10,at_E (c:=eL) a12];(repeat refine sdQ ?_);refine hK _ ?_;clear hK K;refine bn ?_;refine tn ?_;refine Q9 (st':=⟨[(0,.lst true 1 (Es eL a_)),(3,.own 0 0 ((s8.1.set s8.2.toNat v11).length)),(4,iV s8.2)],[(0,.row 1 (Es eL (s8.1.set s8.2.toNat v11)))],1⟩) (wkQ8 [(0,0)]) ?_;refine runQ hN fun K hK=>?_;replace h:=Q4 h;obtain ⟨a13,h⟩:=h;simp [-Q0,-Q6,-Q1,-Q7,-Q2,Qo a13];(repeat refine sdQ ?_);refine hK _ ?_;clear hK K;cases h;exact rn (s':=(s8.1.set s8.2.toNat v11,s8.2+1)) hk8 (wkQ8 [(0,0)])
  have g9:¬ (s8.2<(a_.length:Int)):=gQ;clear g;replace h:=if_r g9 h;refine Qm ?_;refine tx ?_;refine lx ?_;refine bh ?_;cases h;exact jn (b:=s8.1) hk8 (wkQ8 [(0,0)])
 intro b2 hb2;have h:=h2;try rw [← hb2] at h
 clear h2;try dsimp only at h
 refine Q5 ?_;refine runQ hN fun K hK=>?_;simp [-Q0,-Q6,-Q1,-Q7,-Q2];repeat refine sdQ ?_
 refine hK _ ?_;clear hK K;refine tn ?_;refine Q9 (st':=⟨[(2,.own 0 0 b2.length)],[(0,.row 1 (Es eL b2))],1⟩) (wkQ8 [(0,0)]) ?_;refine Qh ?_;have hr:=Option.some.inj h;rw [← hr];refine ⟨_,(.tmp .nil),?_⟩;refine ⟨(.one rfl rfl .nil),[.lst true 1 (Es eL b2)],[0],by simp [UA,U1,IA,I1,LA,L1,BA,B1,EA,E1,E2,eB,eI,eL],by simp,(UpL.refl _)⟩
def sumN (x:List (List (List Int))):Nat:=(x.map sumL).sum
def runn (k:Int):List (List (List Int))→List (List (List Int))
 | []=>[]
 | a :: r=>runs k a :: runn (k+sumL a) r
def okN (x:List (List (List Int))):Prop:=∀ a∈x,a.length≤1048576∧∀ b∈a,b.length≤1048576
@[simp] theorem runn_len (x:List (List (List Int))):∀ k,(runn k x).length=x.length:=by
 induction x with
 | nil=>intro k;rfl
 | cons c r ih=>intro k;simp [runn,ih]
theorem Q6t (x:List (List (List Int))):∀ (i:Nat) (h:i<x.length),sumN (x.take (i+1))=sumN (x.take i)+sumL x[i]:=by
 induction x with
 | nil=>intro i h;simp at h
 | cons c r ih =>
  intro i h;cases i with
  | zero=>simp [sumN]
  | succ i =>
   have:=ih i (by simpa using h);simp only [sumN,List.take_succ_cons,List.map_cons,List.sum_cons,List.getElem_cons_succ] at this ⊢;omega
theorem sumN_le (x:List (List (List Int))):∀ (i:Nat),sumN (x.take i)≤sumN x:=by
 induction x with
 | nil=>intro i;simp [sumN]
 | cons c r ih =>
  intro i;cases i with
  | zero=>simp [sumN]
  | succ i =>
   have:=ih i;simp only [sumN,List.take_succ_cons,List.map_cons,List.sum_cons] at this ⊢;omega
theorem Q7L (x:List (List (List Int))):∀ (k:Int) (i:Nat) (h:i<x.length),(runn k x)[i]'(by simpa using h)=runs (k+sumN (x.take i)) x[i]:=by
 induction x with
 | nil=>intro k i h;simp at h
 | cons c r ih =>
  intro k i h;cases i with
  | zero=>simp [runn,sumN]
  | succ i =>
   simp only [runn,List.getElem_cons_succ];rw [ih _ i (by simpa using h)];have e:k+(sumL c:Int)+(sumN (r.take i):Int)=k+(sumN ((c :: r).take (i+1)):Int):=by
    simp only [sumN,List.take_succ_cons,List.map_cons,List.sum_cons]
    push_cast
    omega
   rw [e]
theorem set_takeN {α:Type} {xs ys:List α} {i:Nat} (h1:i<xs.length) (h2:i<ys.length) (h:ys.take i=xs.take i):(ys.set i xs[i]).take (i+1)=xs.take (i+1):=by
 rw [List.take_succ_eq_append_getElem h1,List.take_succ_eq_append_getElem (by simpa using h2),List.take_set_of_le (Nat.le_refl _),h];simp
theorem Es_nget {ys:List (List (List Int))} {i:Nat} (h:i<ys.length):(Es eL ys).getD i []=[.lst true 1 (Ls ys[i])]:=by
 simp [Es,List.getD_eq_getElem?_getD,h,eL]
theorem Es_nset {ys:List (List (List Int))} {i:Nat} {a:List (List Int)}:(Es eL ys).set i [.lst true 1 (Ls a)]=Es eL (ys.set i a):=by
 simp [Es,List.map_set,eL]
def Q1R (l:Int):List (List (List Int))→Int
 | []=>l
 | a :: r=>if Q1c l a<0 then -1 else Q1R (Q1c l a) r
def Q3X (l:Int) (x:List (List (List Int))):Int:=if l - x.length<0 then -1 else Q1R (l - x.length) x
theorem lessNS_le (x:List (List (List Int))):∀ l:Int,l≤1048576→Q1R l x≤1048576:=by
 induction x with
 | nil=>intro l h;simpa [Q1R] using h
 | cons x r ih=>intro l h;simp only [Q1R];split<;>first|omega|(exact ih _ (Q29 h))
theorem Q3H {l:Int} {xs:List (List (List Int))} (h:l≤1048576):Q3X l xs≤1048576:=by
 unfold Q3X;split
 ·omega
 exact lessNS_le _ _ (by omega)
theorem Q7X {l:Int} {xs:List (List Int)} (h:0≤Q1c l xs):Q1c l xs≤l - sumL xs:=by
 unfold Q1c at h ⊢;split at h
 ·omega
 rename_i h1;rw [if_neg h1];obtain ⟨b1,b2,b3⟩:=Q7y xs _ h;omega
theorem lessNS_ok (x:List (List (List Int))):∀ l:Int,0≤Q1R l x→(sumN x:Int)≤l∧(∀ a∈x,(a.length:Int)≤l∧∀ b∈a,(b.length:Int)≤l)∧Q1R l x≤l:=by
 induction x with
 | nil=>intro l h;simp only [Q1R] at h ⊢;simp [sumN];exact h
 | cons x r ih =>
  intro l h;simp only [Q1R] at h ⊢;split at h
  ·omega
  rename_i h1;rw [if_neg h1];obtain ⟨a1,a2,a3,a4⟩:=Q4D (l:=l) (xs:=x) (by omega);have a5:=Q7X (l:=l) (xs:=x) (by omega);obtain ⟨b1,b2,b3⟩:=ih _ h;have hs:sumN (x :: r)=sumL x+sumN r:=by simp [sumN]
  refine ⟨by rw [hs];push_cast;omega,fun y hy=>?_,by omega⟩;rcases List.mem_cons.1 hy with rfl|hy
  ·exact ⟨a1,a3⟩
  have:=b2 y hy;exact ⟨by omega,fun b hb=>by have:=this.2 b hb;omega⟩
theorem Q7x {l:Int} {xs:List (List (List Int))} (h:0≤Q3X l xs):(xs.length:Int)≤l∧(sumN xs:Int)≤l∧(∀ x∈xs,(x.length:Int)≤l∧∀ b∈x,(b.length:Int)≤l)∧Q3X l xs≤l:=by
 unfold Q3X at h ⊢;split at h
 ·omega
 rename_i h1;rw [if_neg h1];obtain ⟨b1,b2,b3⟩:=lessNS_ok xs _ h;exact ⟨by omega,by omega,fun x hx=>⟨by have:=(b2 x hx).1;omega,fun y hy=>by have:=(b2 x hx).2 y hy;omega⟩,by omega⟩
theorem Q6Q (l:Int) (x:List (List (List Int))) (i:Nat) (h:i<x.length):Q1R l (x.drop i)=if Q1c l x[i]<0 then -1 else Q1R (Q1c l x[i]) (x.drop (i+1)):=by
 rw [List.drop_eq_getElem_cons h];rfl
theorem Contract.good {P : Program} {f : Nat} {av : List AV} {res : AV} (k : Nat) (hk : k < av.length) (he : ∃ fn, P.funcs[f]? = some fn ∧ (fn.name == "runtime.NumGoroutine") = false ∧ fn.body.isSome = true) (h : Good (av.getD k .bot) → Contract P f av res) : Contract P f av res :=
 ⟨he,fun w R vals hR hv hx=>(h (hx k hk).good).calls w R vals hR hv hx⟩
theorem goodN {x:List (List (List Int))} (h:Good (.lst true 1 (Es eL x))):x.length≤9223372036854775807:=by
 cases h with
 | lst h1=>simp [maxLen] at h1;omega
 | other h=>exact h.elim
theorem nset_fill {α:Type} (xs:List α) (k:Nat) (v z:α) {i:Nat} (h:i=xs.length):(xs++List.replicate (k+1) z).set i v=(xs++[v])++List.replicate k z:=by
 subst h;simp [List.replicate_succ]
theorem Q6j {σ ε β:Type} {body:σ→Option (Ctl σ ε)} {K:ε→Option β} {r:Option β} {s0:σ} (n:Nat) (g:Nat→σ) {e:ε} (h0:s0=g 0) (hn:n<4611686018427387904) (h:∀ i:Nat,i<n→body (g i)=some (.next (g (i+1)))) (he:body (g n)=some (.ret e)) (hk:K e=r):(Qx body fuel s0).bind K=r:=by
 rw [Q4p g n h0 hn h he];exact hk
theorem nloop_rel {σ ε:Type} {body:σ→Option (Ctl σ ε)} {I:Nat→σ→Prop} {J:ε→Prop} {n:Nat} (hs:∀ i s,i<n→I i s→(∃ s',body s=some (.next s')∧I (i+1) s')∨∃ e,body s=some (.ret e)∧J e) (he:∀ s,I n s→∃ e,body s=some (.ret e)∧J e) :
  ∀ (r i:Nat) (s:σ) (F:Nat),i+r=n→r<F→I i s→∃ e,Qx body F s=some e∧J e:=by
 intro r
 induction r with
 | zero =>
  intro i s F hi hF hI;obtain ⟨e,h1,h2⟩:=he s (by rw [show n=i by omega];exact hI);obtain ⟨F',rfl⟩:∃ F',F=F' + 1:=⟨F - 1,by omega⟩;simp only [Qx,h1];exact ⟨e,rfl,h2⟩
 | succ r ih =>
  intro i s F hi hF hI;obtain ⟨F',rfl⟩:∃ F',F=F' + 1:=⟨F - 1,by omega⟩;rcases hs i s (by omega) hI with ⟨s',h1,h2⟩|⟨e,h1,h2⟩
  ·simp only [Qx,h1];exact ih (i+1) s' F' (by omega) (by omega) h2
  simp only [Qx,h1];exact ⟨e,rfl,h2⟩
theorem Q5f {σ ε β:Type} {body:σ→Option (Ctl σ ε)} {K:ε→Option β} {s0:σ} {Q:Option β→Prop} (n:Nat) (I:Nat→σ→Prop) (J:ε→Prop) (hn:n<4611686018427387904) (h0:I 0 s0) (hs:∀ i s,i<n→I i s→(∃ s',body s=some (.next s')∧I (i+1) s')∨∃ e,body s=some (.ret e)∧J e)
  (he:∀ s,I n s→∃ e,body s=some (.ret e)∧J e) (hk:∀ e,J e→Q (K e)):Q ((Qx body fuel s0).bind K):=by
 obtain ⟨e,h1,h2⟩:=nloop_rel hs he n 0 s0 fuel (by omega) (by unfold fuel;omega) h0;rw [h1];exact hk e h2
theorem markN (x:List (List (List Int))) (k:Int) (h1:x.length≤1048576) (h1':okN x) (h2:0≤k) (h3:k+sumN x≤1152921504606846976) :
  MContract Try.prog 70 [.own 0 0 x.length,iV k] [⟨1,Es eL x,Es eL (runn k x)⟩] (iV (k+sumN x)):=by
 refine Q11 (ts:=[4]) (rv:=.int .i64 (k+sumN x)) Try.func70 rfl rfl ?_ rfl (by simp [Try.f70]) ?_ fun F hN hP=>?_
 ·have:(-9223372036854775808≤k+sumN x)∧k+sumN x≤9223372036854775807:=by omega
  simp [resV,this]
 ·intro j hj;simp at hj;subst hj;simp
 refine srQ hN fun K hK=>?_;simp;refine hK _ ?_;clear hK K;refine Q5 (w_sr mo (by rw [hN];decide) fun K hK=>?_);simp;refine hK _ (Qa ?_);clear hK K;refine QK (fun p:Nat × List (List (List Int))=>⟨[(0,.own 0 0 x.length),(1,iV (k+sumN (x.take p.1))),(5,iV p.1)],[(0,.row 1 (Es eL p.2))],1⟩) (fun p=>p.1≤x.length∧p.2.length=x.length∧p.2.take p.1=(runn k x).take p.1∧p.2.drop p.1=x.drop p.1) (fun p=>x.length - p.1) (0,x) (by simp) (Wk.cut (by simp [sumN]) (by simp [Q3I]) rfl) ?_
 rintro ⟨i,ys⟩ ⟨hi,hy,ht,hd⟩
 simp at hi hy ht hd;refine Q5 (w_sr mo (by rw [hN];decide) fun K hK=>?_);simp;refine hK _ (Qc rfl (fun h=>?_) fun h=>?_)<;>clear hK K
 ·simp at h;have hiy:i<ys.length:=by omega
  have he:ys[i]=x[i]:=by
   have h5:=congrArg (fun l=>l[0]?) hd;simpa [h,hiy] using h5
  have hm:=h1' _ (List.getElem_mem h);refine Qd ?_;simp only [Q3m];have hget:(Es eL ys).getD i []=[.lst true 1 (Ls x[i])]:=by rw [Es_nget hiy,he]
  have hlen:(Es eL ys).length=x.length:=by simp [hy]
  generalize hE:Es eL ys=E at *;have hi2:i<E.length:=by omega
  have hgi:∀ q:i<E.length,E[i]'q=[.lst true 1 (Ls x[i])]:=fun q=>by
   rw [← hget];simp [List.getD_eq_getElem?_getD,hi2]
  refine Q5 (Qa (w_runM mo (by rw [hN];decide) fun K hK=>?_));simp [h,hlen,hgi];have hs1:=Q6t x i h;have hs2:=sumN_le x (i+1);refine Q3A (m:=[1]) (m33 x[i] (k+sumN (x.take i)) hm.1 hm.2 (by omega) (by omega)) (MCall.cell (i:=i) (r:=0) (k:=0) (szr:=1) (esr:=E) (dels:=[1]) rfl rfl hi2 (by simp) (by simp [hgi,hi2]) (by simp [hgi,hi2]) (by simp) (by simp [Q5A])) rfl ?_ ?_ ?_
  ·intro q hq
   match q,hq with
   | 0,_ =>
    show MArg [1] (.own 1 0 x[i].length) (.own 0 0 x[i].length);exact .own (j:=0) (by simp)
   | 1,_=>exact .val
  ·intro j hj;have hj0:j=0:=(by simpa using hj);subst hj0;exact ⟨0,by simp,by simp [Occ]⟩
  simp [hgi,hi2];refine hK _ ?_;clear hK K;refine runQ hN fun K hK=>?_;simp;refine hK _ ?_;clear hK K;rw [Qt (n:=x.length) (by omega) (by omega)];refine ⟨(i+1,ys.set i (runs (k+sumN (x.take i)) x[i])),⟨by dsimp only;omega,by simp [hy],?_,?_⟩,by dsimp only;omega,Wk.relabel [(0,0)] (by simp) (by simp) (by rw [hP];simp) (by simp) (by simp) ?_ ?_⟩
  ·have:=set_takeN (xs:=runn k x) (ys:=ys) (i:=i) (by simpa using h) hiy ht;rw [Q7L x k i h] at this;exact this
  ·dsimp only;rw [List.drop_set_of_lt (by omega)];have:=congrArg (List.drop 1) hd;simpa [List.drop_drop,Nat.add_comm] using this
  ·simp [hs1,rl,Int.add_assoc]
  have hfin:E.set i [.lst true 1 (Ls (runs (k+sumN (x.take i)) x[i]))]=Es eL (ys.set i (runs (k+sumN (x.take i)) x[i])):=by
   rw [← hE,Es_nset]
  simp [rlE,hgi,hi2,hfin]
 simp at h;refine Qm ?_;simp;refine srQ hN fun K hK=>?_;simp;refine hK _ (Qh ?_);clear hK K;have hi':i=x.length:=by omega
 subst hi';rw [List.take_of_length_le (by omega),List.take_of_length_le (by simp)] at ht;subst ht;refine ⟨?_,?_⟩
 ·simp [Q71]
 intro j hj;simp at hj;subst hj;simp
theorem e_szN (x:List (List (List Int))) (l:Int) (h0:0≤l) (hl:l≤1048576) (hx:x.length≤9223372036854775807):Q1O x l=some (Q3X l x):=by
 unfold Q1O;rw [Q8 (by unfold B64;omega)]
 by_cases h:l - x.length<0
 ·rw [if_pos h];unfold Q3X;rw [if_pos h]
 rw [if_neg h];have e1:Q3X l x=Q1R (l - x.length) x:=by unfold Q3X;rw [if_neg h]
 rw [e1];refine Q5f (σ:=Int × Int) (Q:=fun z=>z=some (Q1R (l - x.length) x)) x.length (fun i s=>s.2=(i:Int)∧0≤s.1∧s.1≤1048576∧Q1R (l - x.length) x=Q1R s.1 (x.drop i))
  (fun e=>match e with|.inl b=>Q1R (l - x.length) x=b|.inr b=>Q1R (l - x.length) x=b) (by omega) ⟨rfl,by simp;omega,by simp;omega,by simp⟩ ?_ ?_ ?_
 ·rintro i ⟨v,j⟩ hi ⟨rfl,a1,a2,a3⟩
  simp only at a1 a2 a3 ⊢;have hg:gx x i=x[i]:=by simp [gx,List.getD_eq_getElem?_getD,hi]
  rw [if_pos (by omega),Q8 (by omega),hg];unfold Q23;rw [Q8 a1,Q8 a2];simp only [Option.bind_some];rw [Q6Q _ _ i hi] at a3
  by_cases q:Q1c v x[i]<0
  ·rw [if_pos q] at a3;rw [if_pos q];exact .inr ⟨_,rfl,a3⟩
  rw [if_neg q] at a3;rw [if_neg q,Q8 (by unfold B64;omega)];exact .inl ⟨_,rfl,by push_cast;rfl,by omega,Q29 a2,a3⟩
 ·rintro ⟨v,j⟩ ⟨rfl,a1,a2,a3⟩
  simp only at a1 a2 a3 ⊢;rw [if_neg (by omega)];refine ⟨_,rfl,?_⟩;rw [a3,List.drop_of_length_le (Nat.le_refl _)];rfl
 rintro (b|b) hb<;>simp only at hb ⊢<;>rw [hb]
theorem cszN (u:Bool) (x:List (List (List Int))) (l:Int) (h1:0≤l) (h2:l≤1048576):Contract Try.prog 57 [.lst true 1 (Es eL x),iV l] (iV (Q3X l x)) :=
 Contract.good 0 (by simp) ⟨_,Try.func57,rfl,rfl⟩ fun g=>Q56 x l _ (e_szN x l h1 h2 (goodN (by simpa using g)))
theorem e_toN (x:List (List (List Int))) (h1:x.length≤1048576) (h2:okN x):Q1P x=some x:=by
 unfold Q1P;rw [Q8 (by omega)];refine Q5f (σ:=List (List (List Int)) × Int) (Q:=fun z=>z=some x) x.length (fun i s=>s=(x.take i++List.replicate (x.length - i) [],(i:Int))) (fun e=>e=x) (by omega) (by simp) ?_ ?_ (fun e he=>by rw [he])
 ·rintro i s hi rfl
  have hg:gx x i=x[i]:=by simp [gx,List.getD_eq_getElem?_getD,hi]
  have hm:=h2 _ (List.getElem_mem hi);simp only;rw [if_pos (by omega),Q8 (by omega),hg];unfold Q24;rw [Q8 hm.1,Q8 hm.2];simp only [Option.bind_some];rw [Q8 (by simp;omega),Q8 (by unfold B64;omega)];refine .inl ⟨_,rfl,?_⟩;have e1:x.length - i=(x.length - (i+1))+1:=by omega
  refine Prod.ext ?_ (by push_cast;rfl);simp only [Int.toNat_natCast];rw [e1,nset_fill _ _ _ _ (by rw [List.length_take];omega),List.take_succ_eq_append_getElem hi]
 rintro s rfl
 simp only;rw [if_neg (by omega)];exact ⟨_,rfl,by simp⟩
theorem toN (u:Bool) (x:List (List (List Int))) (h1:x.length≤1048576) (h2:okN x):Contract Try.prog 61 [.lst true 1 (Es eL x)] (.lst true 1 (Es eL x)):=Q57 x _ (e_toN x h1 h2)
theorem e_eqSS (x:List (List Int)) (h:x.length≤1048576):Q1E x x=some true:=by
 unfold Q1E Q2o;rw [if_neg (by simp)];refine Q1o x.length (fun _=>True) (eb:=Sum.inr false) (eg:=Sum.inl ()) (by omega) (fun i hi _=>?_) (fun i hi q=>absurd trivial q) (by rw [if_neg (by omega)]) (fun q=>absurd (fun _ _=>trivial) q) fun _=>rfl;rw [if_pos (by omega),Q8 (by omega),Q8 (by omega)];simp only [not_true_eq_false,if_false,Option.bind_some,decide_true];rw [Q8 (by unfold B64;omega)]
theorem e_eqN (x:List (List (List Int))) (h:x.length≤1048576) (h2:okN x):Q1M x x=some true:=by
 unfold Q1M;rw [if_neg (by simp)];refine Q1o x.length (fun _=>True) (eb:=Sum.inr false) (eg:=Sum.inl ()) (by omega) (fun i hi _=>?_) (fun i hi q=>absurd trivial q) (by rw [if_neg (by omega)]) (fun q=>absurd (fun _ _=>trivial) q) fun _=>rfl;have hg:gx x i=x[i]:=by simp [gx,List.getD_eq_getElem?_getD,hi]
 have hm:=h2 _ (List.getElem_mem hi);rw [if_pos (by omega),Q8 (by omega),Q8 (by omega),hg,e_eqSS _ hm.1];simp only [not_true_eq_false,if_false,Option.bind_some];rw [Q8 (by unfold B64;omega)]
theorem eqN (u v:Bool) (x:List (List (List Int))) (h:x.length≤1048576) (h2:okN x):Contract Try.prog 69 [.lst true 1 (Es eL x),.lst true 1 (Es eL x)] (.val (.bool true)):=Q54 x x true (e_eqN x h h2)
theorem e_heldSS (x:List (List Int)) (k:Int) (h1:x.length≤1048576) (h1':∀ c∈x,c.length≤1048576) (h2:0≤k) (h3:k+sumL x≤1152921504606846976):Q1f (runs k x) k=some (k+sumL x):=by
 unfold Q1f;refine Q6j (σ:=Int × Int) x.length (fun i=>(k+sumL (x.take i),(i:Int))) (e:=Sum.inl (k+sumL x)) (by simp [sumL]) (by omega) (fun i hi=>?_) ?_ rfl
 ·have hs1:=Q4Q x i hi;have hs2:=Q7c x (i+1);have hcl:=h1' _ (List.getElem_mem hi);have hg:rx (runs k x) i=run (k+sumL (x.take i)) x[i].length:=by
   rw [← Q5J x k i hi];simp [rx,List.getD_eq_getElem?_getD,hi]
  unfold Q1N;simp only [hg];rw [if_pos (by simp;omega),Q8 (by simp;omega),Q8 (by simp;omega),Q8 (by omega),Q8 (by omega)];simp only [Option.bind_some,held_run];rw [if_neg (by omega),Q8 (by unfold B64;omega)]
  congr 3
  rw [hs1];push_cast;omega
 simp only;rw [if_neg (by simp)];rw [List.take_length]
theorem e_heldN (x:List (List (List Int))) (k:Int) (h1:x.length≤1048576) (h1':okN x) (h2:0≤k) (h3:k+sumN x≤1152921504606846976):Q1r (runn k x) k=some (k+sumN x):=by
 unfold Q1r;refine Q6j (σ:=Int × Int) x.length (fun i=>(k+sumN (x.take i),(i:Int))) (e:=Sum.inl (k+sumN x)) (by simp [sumN]) (by omega) (fun i hi=>?_) ?_ rfl
 ·have hs1:=Q6t x i hi;have hs2:=sumN_le x (i+1);have hcl:=h1' _ (List.getElem_mem hi);have hg:gx (runn k x) i=runs (k+sumN (x.take i)) x[i]:=by
   rw [← Q7L x k i hi];simp [gx,List.getD_eq_getElem?_getD,hi]
  simp only [hg];rw [if_pos (by simp;omega),Q8 (by simp;omega),e_heldSS _ _ hcl.1 hcl.2 (by omega) (by omega)];simp only [Option.bind_some];rw [if_neg (by omega),Q8 (by unfold B64;omega)]
  congr 3
  rw [hs1];push_cast;omega
 simp only;rw [if_neg (by simp)];rw [List.take_length]
theorem heldN (u:Bool) (x:List (List (List Int))) (k:Int) (h1:x.length≤1048576) (h1':okN x) (h2:0≤k) (h3:k+sumN x≤1152921504606846976):Contract Try.prog 71 [.lst true 1 (Es eL (runn k x)),iV k] (iV (k+sumN x)):=Q4n _ _ _ (e_heldN x k h1 h1' h2 h3)
theorem toCat (u:Bool) (c:Cat) (hc:c.ok):Contract Try.prog 45 [.agg (c.cells u)] (.agg (c.cells true)):=c18 c u hc
theorem Q7o (u:Bool) (c:Cat) (l:Int) (h1:0≤l) (h2:l≤1048576):Contract Try.prog 42 [.agg (c.cells u),iV l] (iV (Q1H l c)):=c13 u c l h1 h2
theorem QE {l:Int} {f:Cat} (h:l≤1048576):Q1H l f≤1048576:=szCat_le h
theorem mu_len {ms:List Mu} (h:∀ u∈ms,u.fs.length=u.es.length):∀ j,j<ms.length→(ms.getD j .none).fs.length=(ms.getD j .none).es.length:=fun j hj=>by rw [List.getD_eq_getElem?_getD,List.getElem?_eq_getElem hj];exact h _ (List.getElem_mem hj)
theorem Q5C (f:Cat) (k:Int) (hf:f.ok) (h2:0≤k) (h3:k+f.size≤576460752303423488):MContract Try.prog 34 [.agg [iV f.n,.own 0 0 f.fr.length,.own 1 0 f.to.length,.own 2 0 f.id.length,.own 3 0 f.cs.length],iV k] (f.mu k) (iV (k+f.size)):=by
 have q:=m31 f k hf h2 (by omega)
 rwa [show k+f.fr.length+f.to.length+f.id.length+sumL f.cs=k+f.size by simp [Cat.size,Int.add_assoc]] at q
def Fn.mu (f:Fn) (k:Int):List Mu:=[⟨1,Is f.s.fr,Is (f.mark k).s.fr⟩,⟨1,Is f.s.to,Is (f.mark k).s.to⟩,⟨1,Is f.s.id,Is (f.mark k).s.id⟩,⟨1,Ls f.s.cs,Ls (f.mark k).s.cs⟩,⟨1,Is f.t.fr,Is (f.mark k).t.fr⟩,⟨1,Is f.t.to,Is (f.mark k).t.to⟩,⟨1,Is f.t.id,Is (f.mark k).t.id⟩,⟨1,Ls f.t.cs,Ls (f.mark k).t.cs⟩,⟨1,Is f.ob,Is (f.mark k).ob⟩,⟨1,Is f.ar,Is (f.mark k).ar⟩]
theorem Fn.ok_size {f:Fn} (h:f.ok):f.size≤2199031644160:=by
 obtain ⟨hs,ht,hob,har⟩:=h;have s_s:=Cat.ok_size hs;have s_t:=Cat.ok_size ht;simp only [Fn.size];omega
theorem eqFn (u v:Bool) (f:Fn):Contract Try.prog 21 [.agg (f.cells u),.agg (f.cells v)] (.val (.bool true)):=by
 refine Qf (rs:=[.val (.bool true)]) Try.func21 rfl rfl rfl rfl (by simp [Try.f21]) fun F hN hP=>?_;refine srQ hN fun K hK=>?_;simp [Fn.cells];refine hK _ ?_;clear hK K;refine Q5 ?_;refine srQ hN fun K hK=>?_;simp;refine Q3 (c26 u v f.s) (.cons (.aggL Cat.pur) (.cons (.aggL Cat.pur) .nil)) ?_;simp [unk,unA,unE,flat];refine hK _ ?_;clear hK K;refine Qc rfl (fun h=>by simp at h) fun _=>?_;refine Qd ?_;refine Q5 ?_;refine srQ hN fun K hK=>?_;simp;refine Q3 (c26 u v f.t) (.cons (.aggL Cat.pur) (.cons (.aggL Cat.pur) .nil)) ?_;simp [unk,unA,unE,flat];refine hK _ ?_;clear hK K;refine Qc rfl (fun h=>by simp at h) fun _=>?_;refine Qd ?_;refine Q5 ?_;refine srQ hN fun K hK=>?_;simp;refine Q3 (c29 u v f.ob f.ob) (.cons .lst (.cons .lst .nil)) ?_;simp [unk,unA,unE,flat];refine hK _ ?_;clear hK K;refine Qc rfl (fun h=>by simp at h) fun _=>?_;refine Qd ?_;refine Q5 ?_;refine srQ hN fun K hK=>?_;simp;refine Q3 (c29 u v f.ar f.ar) (.cons .lst (.cons .lst .nil)) ?_;simp [unk,unA,unE,flat];refine hK _ ?_;clear hK K;refine Qc rfl (fun h=>by simp at h) fun _=>?_;refine Qd ?_;refine srQ hN fun K hK=>?_;simp;refine hK _ ?_;clear hK K;refine Qh (Qi rfl rfl)
theorem toFn (u:Bool) (f:Fn) (hf:f.ok):Contract Try.prog 19 [.agg (f.cells u)] (.agg (f.cells true)):=by
 obtain ⟨hs,ht,hob,har⟩:=hf;refine Q10 Try.func19 rfl rfl tf_44 rfl rfl (by simp [Try.f19]) fun F hN hP=>?_;refine srQ hN fun K hK=>?_;simp [Fn.cells];refine hK _ ?_;clear hK K;refine srQ hN fun K hK=>?_;simp;refine hK _ ?_;clear hK K;refine srQ hN fun K hK=>?_;simp;refine Q3 (toCat u f.s hs) (.cons (.aggL Cat.pur) .nil) ?_;simp [unk,unA,unE,flat,unC,Cat.cells];refine hK _ ?_;clear hK K;refine srQ hN fun K hK=>?_;simp;refine Q3 (toCat u f.t ht) (.cons (.aggL Cat.pur) .nil) ?_;simp [unk,unA,unE,flat,unC,Cat.cells];refine hK _ ?_;clear hK K;refine srQ hN fun K hK=>?_;simp;refine Q3 (c19 u f.ob hob) (.cons .lst .nil) ?_;simp [unk,unA,unE,flat];refine hK _ ?_;clear hK K;refine srQ hN fun K hK=>?_;simp;refine Q3 (c19 u f.ar har) (.cons .lst .nil) ?_;simp [unk,unA,unE,flat];refine hK _ ?_;clear hK K;refine srQ hN fun K hK=>?_;simp;refine hK _ ?_;clear hK K;refine Qh ⟨_,_,_,_,_,rfl,rfl,by simp,by simp,?_⟩;exact ⟨.agg rfl .nil,[iV f.s.n,lI f.s.fr,lI f.s.to,lI f.s.id,.lst true 1 (Ls f.s.cs),iV f.t.n,lI f.t.fr,lI f.t.to,lI f.t.id,.lst true 1 (Ls f.t.cs),lI f.ob,lI f.ar],[4,5,6,7,9,10,11,12,13,14],by simp,by simp,UpL.refl _⟩
def szFn (l:Int) (f:Fn):Int:=nn (Q1H l f.s) fun a0=>nn (Q1H a0 f.t) fun a1=>nn (less a1 f.ob.length) fun a2=>nn (less a2 f.ar.length) fun a3=>a3
theorem szFn_le {l:Int} {f:Fn} (h:l≤1048576):szFn l f≤1048576:=Q3Z (fun x0 h0 _=>Q3Z (fun x1 h1 _=>Q3Z (fun x2 h2 _=>Q3Z (fun x3 h3 _=>by rw [← h3];exact Q1Y (by rw [← h2];exact Q1Y (by rw [← h1];exact QE (by rw [← h0];exact QE h)))) (by decide)) (by decide)) (by decide)) (by decide)
theorem szFn_ok {l:Int} {f:Fn} (hl:l≤1048576) (h:0≤szFn l f):f.ok:=by
 unfold szFn at h;obtain ⟨p0,q0,_⟩:=Q40 h;have b0:=QE (f:=f.s) hl;obtain ⟨p1,q1,_⟩:=Q40 q0;have b1:=QE (f:=f.t) b0;obtain ⟨p2,q2,_⟩:=Q40 q1;obtain ⟨e2,_⟩:=Q3Y p2;have b2:=Q1Y (n:=f.ob.length) b1;obtain ⟨p3,q3,_⟩:=Q40 q2;obtain ⟨e3,_⟩:=Q3Y p3;have b3:=Q1Y (n:=f.ar.length) b2;exact ⟨Q4s hl p0,Q4s b0 p1,by omega,by omega⟩
theorem cszFn (u:Bool) (f:Fn) (l:Int) (h1:0≤l) (h2:l≤1048576):Contract Try.prog 17 [.agg (f.cells u),iV l] (iV (szFn l f)):=by
 refine Qf (rs:=[iV (szFn l f)]) Try.func17 rfl rfl rfl rfl (by simp [Try.f17]) fun F hN hP=>?_;refine srQ hN fun K hK=>?_;simp [Fn.cells];refine hK _ ?_;clear hK K;refine srQ hN fun K hK=>?_;simp;refine Q3 (Q7o u f.s (l) h1 (h2)) (.cons (.aggL Cat.pur) (.cons .val .nil)) ?_;simp [unk,unA,unE,flat];refine hK _ ?_;clear hK K;refine Q5 ?_;refine srQ hN fun K hK=>?_;simp;refine hK _ ?_;clear hK K;refine Qc rfl (fun g1=>?_) fun g1=>?_
 ·simp at g1;refine srQ hN fun K hK=>?_;simp;refine hK _ ?_;clear hK K;refine Qh (Qi rfl ?_);simp only [szFn,nn];rw [if_pos g1]
 simp at g1;refine Qd ?_;refine srQ hN fun K hK=>?_;simp;refine Q3 (Q7o u f.t (Q1H (l) f.s) g1 (QE (h2))) (.cons (.aggL Cat.pur) (.cons .val .nil)) ?_;simp [unk,unA,unE,flat];refine hK _ ?_;clear hK K;refine Q5 ?_;refine srQ hN fun K hK=>?_;simp;refine hK _ ?_;clear hK K;refine Qc rfl (fun g2=>?_) fun g2=>?_
 ·simp at g2;refine srQ hN fun K hK=>?_;simp;refine hK _ ?_;clear hK K;refine Qh (Qi rfl ?_);simp only [szFn,nn];rw [if_neg (Int.not_lt.2 g1),if_pos g2]
 simp at g2;refine Qd ?_;refine srQ hN fun K hK=>?_;simp;refine Q3 (c14 u f.ob (Q1H (Q1H (l) f.s) f.t) g2 (QE (QE (h2)))) (.cons .lst (.cons .val .nil)) ?_;simp [unk,unA,unE,flat];refine hK _ ?_;clear hK K;refine Q5 ?_;refine srQ hN fun K hK=>?_;simp;refine hK _ ?_;clear hK K;refine Qc rfl (fun g3=>?_) fun g3=>?_
 ·simp at g3;refine srQ hN fun K hK=>?_;simp;refine hK _ ?_;clear hK K;refine Qh (Qi rfl ?_);simp only [szFn,nn];rw [if_neg (Int.not_lt.2 g1),if_neg (Int.not_lt.2 g2),if_pos g3]
 simp at g3;refine Qd ?_;refine srQ hN fun K hK=>?_;simp;refine Q3 (c14 u f.ar (less (Q1H (Q1H (l) f.s) f.t) f.ob.length) g3 (Q1Y (QE (QE (h2))))) (.cons .lst (.cons .val .nil)) ?_;simp [unk,unA,unE,flat];refine hK _ ?_;clear hK K;refine Q5 ?_;refine srQ hN fun K hK=>?_;simp;refine hK _ ?_;clear hK K;refine Qc rfl (fun g4=>?_) fun g4=>?_
 ·simp at g4;refine srQ hN fun K hK=>?_;simp;refine hK _ ?_;clear hK K;refine Qh (Qi rfl ?_);simp only [szFn,nn];rw [if_neg (Int.not_lt.2 g1),if_neg (Int.not_lt.2 g2),if_neg (Int.not_lt.2 g3),if_pos g4]
 simp at g4;refine Qd ?_;refine srQ hN fun K hK=>?_;simp;refine hK _ ?_;clear hK K;refine Qh (Qi rfl ?_);simp only [szFn,nn];rw [if_neg (Int.not_lt.2 g1),if_neg (Int.not_lt.2 g2),if_neg (Int.not_lt.2 g3),if_neg (Int.not_lt.2 g4)]
theorem markFn (f:Fn) (k:Int) (hf:f.ok) (h2:0≤k) (h3:k+f.size≤576460752303423488) :
  MContract Try.prog 22 [.agg [iV f.s.n,.own 0 0 f.s.fr.length,.own 1 0 f.s.to.length,.own 2 0 f.s.id.length,.own 3 0 f.s.cs.length,iV f.t.n,.own 4 0 f.t.fr.length,.own 5 0 f.t.to.length,.own 6 0 f.t.id.length,.own 7 0 f.t.cs.length,.own 8 0 f.ob.length,.own 9 0 f.ar.length],iV k] (f.mu k) (iV (k+f.size)):=by
 obtain ⟨hs,ht,hob,har⟩:=hf;have hz:f.size=f.s.size+f.t.size+f.ob.length+f.ar.length:=rfl;refine Q11 (ts:=[4]) (rv:=.int .i64 (k+f.size)) Try.func22 rfl rfl ?_ rfl (by simp [Try.f22]) ?_ fun F hN hP=>?_
 ·have:(-9223372036854775808≤k+f.size)∧k+f.size≤9223372036854775807:=by omega
  simp [resV,this]
 ·exact mu_len (by simp [Fn.mu,Fn.mark,Cat.mark])
 refine srQ hN fun K hK=>?_;simp [Q3I,Fn.mu];refine hK _ ?_;clear hK K;refine Q3a mo (by rw [hN];decide) fun K hK=>?_;simp;refine Q1d (m:=[0,1,2,3]) (Q5C f.s (k) hs (by omega) (by omega)) (by decide) (.cons rfl (.cons rfl (.cons rfl (.cons rfl .nil)))) (.cons (.aggL (.cons .val (.cons (.own (j:=0) (by decide)) (.cons (.own (j:=1) (by decide)) (.cons (.own (j:=2) (by decide)) (.cons (.own (j:=3) (by decide)) .nil)))))) (.cons .val .nil)) rfl (by simp) ?_;simp [Q35,Cat.mu];refine hK _ ?_;clear hK K;refine Q3a mo (by rw [hN];decide) fun K hK=>?_;simp;refine Q1d (m:=[4,5,6,7]) (Q5C f.t (k+f.s.size) ht (by omega) (by omega)) (by decide) (.cons rfl (.cons rfl (.cons rfl (.cons rfl .nil)))) (.cons (.aggL (.cons .val (.cons (.own (j:=0) (by decide)) (.cons (.own (j:=1) (by decide)) (.cons (.own (j:=2) (by decide)) (.cons (.own (j:=3) (by decide)) .nil)))))) (.cons .val .nil)) rfl (by simp) ?_;simp [Q35,Cat.mu];refine hK _ ?_;clear hK K;refine Q3a mo (by rw [hN];decide) fun K hK=>?_;simp;refine Q1i (m32 f.ob (k+f.s.size+f.t.size) hob (by omega) (by omega)) rfl (by simp) ?_;simp;refine hK _ ?_;clear hK K;refine Q3a mo (by rw [hN];decide) fun K hK=>?_;simp;refine Q1i (m32 f.ar (k+f.s.size+f.t.size+f.ob.length) har (by omega) (by omega)) rfl (by simp) ?_;simp;refine hK _ ?_;clear hK K;refine srQ hN fun K hK=>?_;simp;refine hK _ ?_;clear hK K;refine Qh (mret ?_ ?_)
 ·simp [hz,Int.add_assoc]
 exact (.cons rfl (.cons rfl (.cons rfl (.cons rfl (.cons rfl (.cons rfl (.cons rfl (.cons rfl (.cons rfl (.cons rfl .nil))))))))))
theorem Prf.pur {h:HP} {u v:Bool} {c:Prf}:PurL h (c.cells u) (c.cells v):=.cons .val (.cons .lst (.cons .lst (.cons .lst (.cons .lst (.cons .val (.cons .lst (.cons .lst (.cons .lst (.cons .lst (.cons .lst (.cons .lst (.cons .lst .nil))))))))))))
def Prf.mark (k:Int) (f:Prf):Prf:=⟨f.s.mark (k),f.t.mark (k+f.s.size),runs (k+f.s.size+f.t.size) f.sz,runn (k+f.s.size+f.t.size+sumL f.sz) f.bf,runn (k+f.s.size+f.t.size+sumL f.sz+sumN f.bf) f.bh⟩
def Prf.size (f:Prf):Nat:=f.s.size+f.t.size+sumL f.sz+sumN f.bf+sumN f.bh
def Prf.ok (f:Prf):Prop:=f.s.ok∧f.t.ok∧f.sz.length≤1048576∧(∀ xs∈f.sz,xs.length≤1048576)∧sumL f.sz≤1099511627776∧f.bf.length≤1048576∧okN f.bf∧sumN f.bf≤1099511627776∧f.bh.length≤1048576∧okN f.bh∧sumN f.bh≤1099511627776
def Prf.mu (f:Prf) (k:Int):List Mu:=[⟨1,Is f.s.fr,Is (f.mark k).s.fr⟩,⟨1,Is f.s.to,Is (f.mark k).s.to⟩,⟨1,Is f.s.id,Is (f.mark k).s.id⟩,⟨1,Ls f.s.cs,Ls (f.mark k).s.cs⟩,⟨1,Is f.t.fr,Is (f.mark k).t.fr⟩,⟨1,Is f.t.to,Is (f.mark k).t.to⟩,⟨1,Is f.t.id,Is (f.mark k).t.id⟩,⟨1,Ls f.t.cs,Ls (f.mark k).t.cs⟩,⟨1,Ls f.sz,Ls (f.mark k).sz⟩,⟨1,Es eL f.bf,Es eL (f.mark k).bf⟩,⟨1,Es eL f.bh,Es eL (f.mark k).bh⟩]
theorem Prf.ok_size {f:Prf} (h:f.ok):f.size≤5497564430336:=by
 obtain ⟨hs,ht,hsz1,hsz2,hsz3,hbf1,hbf2,hbf3,hbh1,hbh2,hbh3⟩:=h;have s_s:=Cat.ok_size hs;have s_t:=Cat.ok_size ht;simp only [Prf.size];omega
theorem eqPrf (u v:Bool) (f:Prf) (hf:f.ok):Contract Try.prog 14 [.agg (f.cells u),.agg (f.cells v)] (.val (.bool true)):=by
 obtain ⟨hs,ht,hsz1,hsz2,hsz3,hbf1,hbf2,hbf3,hbh1,hbh2,hbh3⟩:=hf;refine Qf (rs:=[.val (.bool true)]) Try.func14 rfl rfl rfl rfl (by simp [Try.f14]) fun F hN hP=>?_;refine srQ hN fun K hK=>?_;simp [Prf.cells];refine hK _ ?_;clear hK K;refine Q5 ?_;refine srQ hN fun K hK=>?_;simp;refine Q3 (c26 u v f.s) (.cons (.aggL Cat.pur) (.cons (.aggL Cat.pur) .nil)) ?_;simp [unk,unA,unE,flat];refine hK _ ?_;clear hK K;refine Qc rfl (fun h=>by simp at h) fun _=>?_;refine Qd ?_;refine Q5 ?_;refine srQ hN fun K hK=>?_;simp;refine Q3 (c26 u v f.t) (.cons (.aggL Cat.pur) (.cons (.aggL Cat.pur) .nil)) ?_;simp [unk,unA,unE,flat];refine hK _ ?_;clear hK K;refine Qc rfl (fun h=>by simp at h) fun _=>?_;refine Qd ?_;refine Q5 ?_;refine srQ hN fun K hK=>?_;simp;refine Q3 (c30 u v f.sz) (.cons .lst (.cons .lst .nil)) ?_;simp [unk,unA,unE,flat];refine hK _ ?_;clear hK K;refine Qc rfl (fun h=>by simp at h) fun _=>?_;refine Qd ?_;refine Q5 ?_;refine srQ hN fun K hK=>?_;simp;refine Q3 (eqN u v f.bf hbf1 hbf2) (.cons .lst (.cons .lst .nil)) ?_;simp [unk,unA,unE,flat];refine hK _ ?_;clear hK K;refine Qc rfl (fun h=>by simp at h) fun _=>?_;refine Qd ?_;refine Q5 ?_;refine srQ hN fun K hK=>?_;simp;refine Q3 (eqN u v f.bh hbh1 hbh2) (.cons .lst (.cons .lst .nil)) ?_;simp [unk,unA,unE,flat];refine hK _ ?_;clear hK K;refine Qc rfl (fun h=>by simp at h) fun _=>?_;refine Qd ?_;refine srQ hN fun K hK=>?_;simp;refine hK _ ?_;clear hK K;refine Qh (Qi rfl rfl)
theorem heldPrf (u:Bool) (f:Prf) (k:Int) (hf:f.ok) (h2:0≤k) (h3:k+f.size≤1152921504606846976):Contract Try.prog 16 [.agg ((f.mark k).cells u),iV k] (iV (k+f.size)):=by
 obtain ⟨hs,ht,hsz1,hsz2,hsz3,hbf1,hbf2,hbf3,hbh1,hbh2,hbh3⟩:=hf;have hz:f.size=f.s.size+f.t.size+sumL f.sz+sumN f.bf+sumN f.bh:=rfl;refine Qf (rs:=[iV (k+f.size)]) Try.func16 rfl rfl rfl rfl (by simp [Try.f16]) fun F hN hP=>?_;refine srQ hN fun K hK=>?_;simp [Prf.cells,Cat.mark,Prf.mark];refine hK _ ?_;clear hK K;refine srQ hN fun K hK=>?_;simp;refine Q3 (c36 u f.s (k) hs (by omega) (by omega)) (.cons (.aggL (.cons .val (.cons .lst (.cons .lst (.cons .lst (.cons .lst .nil)))))) (.cons .val .nil)) ?_;simp [unk,unA,unE,flat];refine hK _ ?_;clear hK K;refine Q5 ?_;refine srQ hN fun K hK=>?_;simp;refine hK _ ?_;clear hK K;refine Qc rfl (fun g=>?_) fun g=>?_
 ·simp at g;omega
 refine Qd ?_;refine srQ hN fun K hK=>?_;simp;refine Q3 (c36 u f.t (k+f.s.size) ht (by omega) (by omega)) (.cons (.aggL (.cons .val (.cons .lst (.cons .lst (.cons .lst (.cons .lst .nil)))))) (.cons .val .nil)) ?_;simp [unk,unA,unE,flat];refine hK _ ?_;clear hK K;refine Q5 ?_;refine srQ hN fun K hK=>?_;simp;refine hK _ ?_;clear hK K;refine Qc rfl (fun g=>?_) fun g=>?_
 ·simp at g;omega
 refine Qd ?_;refine srQ hN fun K hK=>?_;simp;refine Q3 (c54 u f.sz (k+f.s.size+f.t.size) hsz1 hsz2 (by omega) (by omega)) (.cons .lst (.cons .val .nil)) ?_;simp [unk,unA,unE,flat];refine hK _ ?_;clear hK K;refine Q5 ?_;refine srQ hN fun K hK=>?_;simp;refine hK _ ?_;clear hK K;refine Qc rfl (fun g=>?_) fun g=>?_
 ·simp at g;omega
 refine Qd ?_;refine srQ hN fun K hK=>?_;simp;refine Q3 (heldN u f.bf (k+f.s.size+f.t.size+sumL f.sz) hbf1 hbf2 (by omega) (by omega)) (.cons .lst (.cons .val .nil)) ?_;simp [unk,unA,unE,flat];refine hK _ ?_;clear hK K;refine Q5 ?_;refine srQ hN fun K hK=>?_;simp;refine hK _ ?_;clear hK K;refine Qc rfl (fun g=>?_) fun g=>?_
 ·simp at g;omega
 refine Qd ?_;refine srQ hN fun K hK=>?_;simp;refine Q3 (heldN u f.bh (k+f.s.size+f.t.size+sumL f.sz+sumN f.bf) hbh1 hbh2 (by omega) (by omega)) (.cons .lst (.cons .val .nil)) ?_;simp [unk,unA,unE,flat];refine hK _ ?_;clear hK K;refine Q5 ?_;refine srQ hN fun K hK=>?_;simp;refine hK _ ?_;clear hK K;refine Qc rfl (fun g=>?_) fun g=>?_
 ·simp at g;omega
 refine Qd ?_;refine srQ hN fun K hK=>?_;simp;refine hK _ ?_;clear hK K;refine Qh (Qi rfl ?_);simp [hz,Int.add_assoc]
theorem toPrf (u:Bool) (f:Prf) (hf:f.ok):Contract Try.prog 12 [.agg (f.cells u)] (.agg (f.cells true)):=by
 obtain ⟨hs,ht,hsz1,hsz2,hsz3,hbf1,hbf2,hbf3,hbh1,hbh2,hbh3⟩:=hf;refine Q10 Try.func12 rfl rfl Q53 rfl rfl (by simp [Try.f12]) fun F hN hP=>?_;refine srQ hN fun K hK=>?_;simp [Prf.cells];refine hK _ ?_;clear hK K;refine srQ hN fun K hK=>?_;simp;refine hK _ ?_;clear hK K;refine srQ hN fun K hK=>?_;simp;refine Q3 (toCat u f.s hs) (.cons (.aggL Cat.pur) .nil) ?_;simp [unk,unA,unE,flat,unC,Cat.cells];refine hK _ ?_;clear hK K;refine srQ hN fun K hK=>?_;simp;refine Q3 (toCat u f.t ht) (.cons (.aggL Cat.pur) .nil) ?_;simp [unk,unA,unE,flat,unC,Cat.cells];refine hK _ ?_;clear hK K;refine srQ hN fun K hK=>?_;simp;refine Q3 (c20 u f.sz hsz1 hsz2) (.cons .lst .nil) ?_;simp [unk,unA,unE,flat];refine hK _ ?_;clear hK K;refine srQ hN fun K hK=>?_;simp;refine Q3 (toN u f.bf hbf1 hbf2) (.cons .lst .nil) ?_;simp [unk,unA,unE,flat];refine hK _ ?_;clear hK K;refine srQ hN fun K hK=>?_;simp;refine Q3 (toN u f.bh hbh1 hbh2) (.cons .lst .nil) ?_;simp [unk,unA,unE,flat];refine hK _ ?_;clear hK K;refine srQ hN fun K hK=>?_;simp;refine hK _ ?_;clear hK K;refine Qh ⟨_,_,_,_,_,rfl,rfl,by simp,by simp,?_⟩;exact ⟨.agg rfl .nil,[iV f.s.n,lI f.s.fr,lI f.s.to,lI f.s.id,.lst true 1 (Ls f.s.cs),iV f.t.n,lI f.t.fr,lI f.t.to,lI f.t.id,.lst true 1 (Ls f.t.cs),.lst true 1 (Ls f.sz),.lst true 1 (Es eL f.bf),.lst true 1 (Es eL f.bh)],[4,5,6,7,9,10,11,12,13,14,15],by simp,by simp,UpL.refl _⟩
def Q2R (l:Int) (f:Prf):Int:=nn (Q1H l f.s) fun a0=>nn (Q1H a0 f.t) fun a1=>nn (Q1c a1 f.sz) fun a2=>nn (Q3X a2 f.bf) fun a3=>nn (Q3X a3 f.bh) fun a4=>a4
theorem Q4t {l:Int} {f:Prf} (h:l≤1048576):Q2R l f≤1048576:=Q3Z (fun x0 h0 _=>Q3Z (fun x1 h1 _=>Q3Z (fun x2 h2 _=>Q3Z (fun x3 h3 _=>Q3Z (fun x4 h4 _=>by rw [← h4];exact Q3H (by rw [← h3];exact Q3H (by rw [← h2];exact Q29 (by rw [← h1];exact QE (by rw [← h0];exact QE h))))) (by decide)) (by decide)) (by decide)) (by decide)) (by decide)
theorem szPrf_ok {l:Int} {f:Prf} (hl:l≤1048576) (h:0≤Q2R l f):f.ok:=by
 unfold Q2R at h;obtain ⟨p0,q0,_⟩:=Q40 h;have b0:=QE (f:=f.s) hl;obtain ⟨p1,q1,_⟩:=Q40 q0;have b1:=QE (f:=f.t) b0;obtain ⟨p2,q2,_⟩:=Q40 q1;obtain ⟨e2,e2a,e2b,_⟩:=Q4D p2;have b2:=Q29 (xs:=f.sz) b1;obtain ⟨p3,q3,_⟩:=Q40 q2;obtain ⟨e3,e3a,e3b,_⟩:=Q7x p3;have b3:=Q3H (xs:=f.bf) b2;obtain ⟨p4,q4,_⟩:=Q40 q3;obtain ⟨e4,e4a,e4b,_⟩:=Q7x p4;have b4:=Q3H (xs:=f.bh) b3;exact ⟨Q4s hl p0,Q4s b0 p1,by omega,fun x hx=>by have:=e2b x hx;omega,by omega,by omega,fun x hx=>⟨by have:=(e3b x hx).1;omega,fun y hy=>by have:=(e3b x hx).2 y hy;omega⟩,by omega,by omega,fun x hx=>⟨by have:=(e4b x hx).1;omega,fun y hy=>by have:=(e4b x hx).2 y hy;omega⟩,by omega⟩
theorem cszPrf (u:Bool) (f:Prf) (l:Int) (h1:0≤l) (h2:l≤1048576):Contract Try.prog 10 [.agg (f.cells u),iV l] (iV (Q2R l f)):=by
 refine Qf (rs:=[iV (Q2R l f)]) Try.func10 rfl rfl rfl rfl (by simp [Try.f10]) fun F hN hP=>?_;refine srQ hN fun K hK=>?_;simp [Prf.cells];refine hK _ ?_;clear hK K;refine srQ hN fun K hK=>?_;simp;refine Q3 (Q7o u f.s (l) h1 (h2)) (.cons (.aggL Cat.pur) (.cons .val .nil)) ?_;simp [unk,unA,unE,flat];refine hK _ ?_;clear hK K;refine Q5 ?_;refine srQ hN fun K hK=>?_;simp;refine hK _ ?_;clear hK K;refine Qc rfl (fun g1=>?_) fun g1=>?_
 ·simp at g1;refine srQ hN fun K hK=>?_;simp;refine hK _ ?_;clear hK K;refine Qh (Qi rfl ?_);simp only [Q2R,nn];rw [if_pos g1]
 simp at g1;refine Qd ?_;refine srQ hN fun K hK=>?_;simp;refine Q3 (Q7o u f.t (Q1H (l) f.s) g1 (QE (h2))) (.cons (.aggL Cat.pur) (.cons .val .nil)) ?_;simp [unk,unA,unE,flat];refine hK _ ?_;clear hK K;refine Q5 ?_;refine srQ hN fun K hK=>?_;simp;refine hK _ ?_;clear hK K;refine Qc rfl (fun g2=>?_) fun g2=>?_
 ·simp at g2;refine srQ hN fun K hK=>?_;simp;refine hK _ ?_;clear hK K;refine Qh (Qi rfl ?_);simp only [Q2R,nn];rw [if_neg (Int.not_lt.2 g1),if_pos g2]
 simp at g2;refine Qd ?_;refine srQ hN fun K hK=>?_;simp;refine Q3 (c15 u f.sz (Q1H (Q1H (l) f.s) f.t) g2 (QE (QE (h2)))) (.cons .lst (.cons .val .nil)) ?_;simp [unk,unA,unE,flat];refine hK _ ?_;clear hK K;refine Q5 ?_;refine srQ hN fun K hK=>?_;simp;refine hK _ ?_;clear hK K;refine Qc rfl (fun g3=>?_) fun g3=>?_
 ·simp at g3;refine srQ hN fun K hK=>?_;simp;refine hK _ ?_;clear hK K;refine Qh (Qi rfl ?_);simp only [Q2R,nn];rw [if_neg (Int.not_lt.2 g1),if_neg (Int.not_lt.2 g2),if_pos g3]
 simp at g3;refine Qd ?_;refine srQ hN fun K hK=>?_;simp;refine Q3 (cszN u f.bf (Q1c (Q1H (Q1H (l) f.s) f.t) f.sz) g3 (Q29 (QE (QE (h2))))) (.cons .lst (.cons .val .nil)) ?_;simp [unk,unA,unE,flat];refine hK _ ?_;clear hK K;refine Q5 ?_;refine srQ hN fun K hK=>?_;simp;refine hK _ ?_;clear hK K;refine Qc rfl (fun g4=>?_) fun g4=>?_
 ·simp at g4;refine srQ hN fun K hK=>?_;simp;refine hK _ ?_;clear hK K;refine Qh (Qi rfl ?_);simp only [Q2R,nn];rw [if_neg (Int.not_lt.2 g1),if_neg (Int.not_lt.2 g2),if_neg (Int.not_lt.2 g3),if_pos g4]
 simp at g4;refine Qd ?_;refine srQ hN fun K hK=>?_;simp;refine Q3 (cszN u f.bh (Q3X (Q1c (Q1H (Q1H (l) f.s) f.t) f.sz) f.bf) g4 (Q3H (Q29 (QE (QE (h2)))))) (.cons .lst (.cons .val .nil)) ?_;simp [unk,unA,unE,flat];refine hK _ ?_;clear hK K;refine Q5 ?_;refine srQ hN fun K hK=>?_;simp;refine hK _ ?_;clear hK K;refine Qc rfl (fun g5=>?_) fun g5=>?_
 ·simp at g5;refine srQ hN fun K hK=>?_;simp;refine hK _ ?_;clear hK K;refine Qh (Qi rfl ?_);simp only [Q2R,nn];rw [if_neg (Int.not_lt.2 g1),if_neg (Int.not_lt.2 g2),if_neg (Int.not_lt.2 g3),if_neg (Int.not_lt.2 g4),if_pos g5]
 simp at g5;refine Qd ?_;refine srQ hN fun K hK=>?_;simp;refine hK _ ?_;clear hK K;refine Qh (Qi rfl ?_);simp only [Q2R,nn];rw [if_neg (Int.not_lt.2 g1),if_neg (Int.not_lt.2 g2),if_neg (Int.not_lt.2 g3),if_neg (Int.not_lt.2 g4),if_neg (Int.not_lt.2 g5)]
theorem markPrf (f:Prf) (k:Int) (hf:f.ok) (h2:0≤k) (h3:k+f.size≤576460752303423488) :
  MContract Try.prog 15 [.agg [iV f.s.n,.own 0 0 f.s.fr.length,.own 1 0 f.s.to.length,.own 2 0 f.s.id.length,.own 3 0 f.s.cs.length,iV f.t.n,.own 4 0 f.t.fr.length,.own 5 0 f.t.to.length,.own 6 0 f.t.id.length,.own 7 0 f.t.cs.length,.own 8 0 f.sz.length,.own 9 0 f.bf.length,.own 10 0 f.bh.length],iV k] (f.mu k) (iV (k+f.size)):=by
 obtain ⟨hs,ht,hsz1,hsz2,hsz3,hbf1,hbf2,hbf3,hbh1,hbh2,hbh3⟩:=hf;have hz:f.size=f.s.size+f.t.size+sumL f.sz+sumN f.bf+sumN f.bh:=rfl;refine Q11 (ts:=[4]) (rv:=.int .i64 (k+f.size)) Try.func15 rfl rfl ?_ rfl (by simp [Try.f15]) ?_ fun F hN hP=>?_
 ·have:(-9223372036854775808≤k+f.size)∧k+f.size≤9223372036854775807:=by omega
  simp [resV,this]
 ·exact mu_len (by simp [Prf.mu,Prf.mark,Cat.mark])
 refine srQ hN fun K hK=>?_;simp [Q3I,Prf.mu];refine hK _ ?_;clear hK K;refine Q3a mo (by rw [hN];decide) fun K hK=>?_;simp;refine Q1d (m:=[0,1,2,3]) (Q5C f.s (k) hs (by omega) (by omega)) (by decide) (.cons rfl (.cons rfl (.cons rfl (.cons rfl .nil)))) (.cons (.aggL (.cons .val (.cons (.own (j:=0) (by decide)) (.cons (.own (j:=1) (by decide)) (.cons (.own (j:=2) (by decide)) (.cons (.own (j:=3) (by decide)) .nil)))))) (.cons .val .nil)) rfl (by simp) ?_;simp [Q35,Cat.mu];refine hK _ ?_;clear hK K;refine Q3a mo (by rw [hN];decide) fun K hK=>?_;simp;refine Q1d (m:=[4,5,6,7]) (Q5C f.t (k+f.s.size) ht (by omega) (by omega)) (by decide) (.cons rfl (.cons rfl (.cons rfl (.cons rfl .nil)))) (.cons (.aggL (.cons .val (.cons (.own (j:=0) (by decide)) (.cons (.own (j:=1) (by decide)) (.cons (.own (j:=2) (by decide)) (.cons (.own (j:=3) (by decide)) .nil)))))) (.cons .val .nil)) rfl (by simp) ?_;simp [Q35,Cat.mu];refine hK _ ?_;clear hK K;refine Q3a mo (by rw [hN];decide) fun K hK=>?_;simp;refine Q1i (m33 f.sz (k+f.s.size+f.t.size) hsz1 hsz2 (by omega) (by omega)) rfl (by simp) ?_;simp;refine hK _ ?_;clear hK K;refine Q3a mo (by rw [hN];decide) fun K hK=>?_;simp;refine Q1i (markN f.bf (k+f.s.size+f.t.size+sumL f.sz) hbf1 hbf2 (by omega) (by omega)) rfl (by simp) ?_;simp;refine hK _ ?_;clear hK K;refine Q3a mo (by rw [hN];decide) fun K hK=>?_;simp;refine Q1i (markN f.bh (k+f.s.size+f.t.size+sumL f.sz+sumN f.bf) hbh1 hbh2 (by omega) (by omega)) rfl (by simp) ?_;simp;refine hK _ ?_;clear hK K;refine srQ hN fun K hK=>?_;simp;refine hK _ ?_;clear hK K;refine Qh (mret ?_ ?_)
 ·simp [hz,Int.add_assoc]
 exact (.cons rfl (.cons rfl (.cons rfl (.cons rfl (.cons rfl (.cons rfl (.cons rfl (.cons rfl (.cons rfl (.cons rfl (.cons rfl .nil)))))))))))
attribute [local simp] eL eI QB Q1y Q2v Cat.cells Fn.cells
noncomputable def Q2E (f_:Fn):Option Bool :=
 (
  (QY f_.s).bind fun v2 =>
  if ¬ (v2=true) then
   some true
  else
   (QY f_.t).bind fun v4 =>
   if ¬ (v4=true) then
    some true
   else
    if ¬ ((f_.ob.length:Int)=f_.s.n) then
     some true
    else
     some ((f_.ar.length:Int) != (f_.s.fr.length:Int)):Option (Bool)).bind fun b1 =>
 if b1=true then
  some false
 else
  (
   (Q14 f_.t.n f_.ob).bind fun v9 =>
   if ¬ (v9=true) then
    some true
   else
    (Q14 (f_.t.fr.length:Int) f_.ar).bind fun v11 =>
    some (!v11):Option (Bool)).bind fun b8 =>
  if b8=true then
   some false
  else
   (Qx (σ:=Int) (ε:=Unit ⊕ Bool) (fun s27 =>
    if s27<(f_.s.fr.length:Int) then
     (
      ass (0≤s27∧s27<(f_.ar.length:Int)) <|
      ass (0≤ix f_.ar s27∧ix f_.ar s27<(f_.t.fr.length:Int)) <|
      ass (0≤s27∧s27<(f_.s.fr.length:Int)) <|
      ass (0≤ix f_.s.fr s27∧ix f_.s.fr s27<(f_.ob.length:Int)) <|
      if ¬ ((ix f_.t.fr (ix f_.ar s27))=(ix f_.ob (ix f_.s.fr s27))) then
       some true
      else
       ass (0≤s27∧s27<(f_.ar.length:Int)) <|
       ass (0≤ix f_.ar s27∧ix f_.ar s27<(f_.t.to.length:Int)) <|
       ass (0≤s27∧s27<(f_.s.to.length:Int)) <|
       ass (0≤ix f_.s.to s27∧ix f_.s.to s27<(f_.ob.length:Int)) <|
       some ((ix f_.t.to (ix f_.ar s27)) != (ix f_.ob (ix f_.s.to s27))):Option (Bool)).bind fun b29 =>
     if b29=true then
      some (Ctl.ret (Sum.inr false))
     else
      ass (B64 (s27+1)) <|
      some (Ctl.next (s27+1))
    else
     some (Ctl.ret (Sum.inl ()))) fuel 0).bind fun e13 =>
   match e13 with
   | .inl b13 =>
    (Qx (σ:=Int) (ε:=Unit ⊕ Bool) (fun s49 =>
     if s49<f_.s.n then
      ass (0≤s49∧s49<(f_.s.id.length:Int)) <|
      ass (0≤ix f_.s.id s49∧ix f_.s.id s49<(f_.ar.length:Int)) <|
      ass (0≤s49∧s49<(f_.ob.length:Int)) <|
      ass (0≤ix f_.ob s49∧ix f_.ob s49<(f_.t.id.length:Int)) <|
      if ¬ ((ix f_.ar (ix f_.s.id s49))=(ix f_.t.id (ix f_.ob s49))) then
       some (Ctl.ret (Sum.inr false))
      else
       ass (B64 (s49+1)) <|
       some (Ctl.next (s49+1))
     else
      some (Ctl.ret (Sum.inl ()))) fuel 0).bind fun e41 =>
    match e41 with
    | .inl b41 =>
     (Qx (σ:=Int) (ε:=Unit ⊕ Bool) (fun s90 =>
      if s90<(f_.s.fr.length:Int) then
       (
        (Qx (σ:=Int) (ε:=Bool ⊕ Unit) (fun s107 =>
         if s107<(f_.s.fr.length:Int) then
          (
           ass (0≤s90∧s90<(f_.s.to.length:Int)) <|
           ass (0≤s107∧s107<(f_.s.fr.length:Int)) <|
           if (ix f_.s.to s90)=(ix f_.s.fr s107) then
            ass (0≤s90∧s90<(f_.s.cs.length:Int)) <|
            ass (0≤s107∧s107<((rx f_.s.cs s90).length:Int)) <|
            ass (0≤ix (rx f_.s.cs s90) s107∧ix (rx f_.s.cs s90) s107<(f_.ar.length:Int)) <|
            ass (0≤s90∧s90<(f_.ar.length:Int)) <|
            ass (0≤ix f_.ar s90∧ix f_.ar s90<(f_.t.cs.length:Int)) <|
            ass (0≤s107∧s107<(f_.ar.length:Int)) <|
            ass (0≤ix f_.ar s107∧ix f_.ar s107<((rx f_.t.cs (ix f_.ar s90)).length:Int)) <|
            some ((ix f_.ar (ix (rx f_.s.cs s90) s107)) != (ix (rx f_.t.cs (ix f_.ar s90)) (ix f_.ar s107)))
           else
            some false:Option (Bool)).bind fun b109 =>
          if b109=true then
           some (Ctl.ret (Sum.inl false))
          else
           ass (B64 (s107+1)) <|
           some (Ctl.next (s107+1))
         else
          some (Ctl.ret (Sum.inr ()))) fuel 0).bind fun e107 =>
        match e107 with
        | .inl p107 =>
         some (Sum.inr p107)
        | .inr p107 =>
         some (Sum.inl p107):Option (Unit ⊕ Bool)).bind fun e92 =>
       match e92 with
       | .inl b92 =>
        ass (B64 (s90+1)) <|
        some (Ctl.next (s90+1))
       | .inr p92 =>
        some (Ctl.ret (Sum.inr p92))
      else
       some (Ctl.ret (Sum.inl ()))) fuel 0).bind fun e57 =>
     match e57 with
     | .inl b57 =>
      some true
     | .inr p57 =>
      some p57
    | .inr p41 =>
     some p41
   | .inr p13 =>
    some p13
theorem Q6y (f_:Fn) (r:Bool) (h:Q2E f_=some r):Contract Try.prog 73 [.agg (f_.cells true)] (.val (.bool r)):=by
 refine Qk (rvs:=[.tmp 2]) (rs:=[.val (.bool r)]) Try.func73 rfl rfl rfl rfl (by simp [Try.f73]) fun F hN hP=>?_;unfold Q2E at h;refine Q5 ?_;refine runQ hN fun K hK=>?_;simp [-Q0,-Q6,-Q1,-Q7,-Q2];repeat refine sdQ ?_
 refine hK _ ?_;clear hK K;refine tn ?_;refine Q9 (st':=⟨[(1,.adr 0 0 0)],[(0,.mix 12 [(Fn.cells true f_)])],1⟩) (wkQ8 [(0,0)]) ?_;refine Q5 ?_;refine w_runS mo (by rw [hN];decide) fun K hK=>?_;simp [-Q0,-Q6,-Q1,-Q7,-Q2];repeat refine sdQ ?_
 refine hK _ ?_;clear hK K;refine tn ?_;refine Q9 (st':=⟨[(1,.adr 0 0 0),(3,.adr 1 0 0),(4,.adr 2 0 0)],[(0,.mix 12 [(Fn.cells true f_)]),(1,.mix 5 [(Cat.cells true f_.s)]),(2,.mix 5 [(Cat.cells true f_.t)])],3⟩) (wkQ8 [(0,0),(1,1),(2,2)]) ?_;refine Q5 ?_;refine Q5 ?_;replace h:=bind_some h;obtain ⟨e1,h,h1⟩:=h;refine Qj (fun b1:Bool=>⟨[(1,.adr 0 0 0),(3,.adr 1 0 0),(4,.adr 2 0 0),(37,.val (.bool b1))],[(0,.mix 12 [(Fn.cells true f_)]),(1,.mix 5 [(Cat.cells true f_.s)]),(2,.mix 5 [(Cat.cells true f_.t)])],3⟩) (fun b1=>b1=e1) ?_ ?_
 ·refine runQ hN fun K hK=>?_;simp [-Q0,-Q6,-Q1,-Q7,-Q2];repeat with_reducible refine sdQ ?_
  replace h:=bind_some h;obtain ⟨v2,hv2,h⟩:=h;refine Q3 (Q3Q _ v2 hv2) (.cons (.aggL (.cons .val (.cons .lst (.cons .lst (.cons .lst (.cons .lst .nil)))))) .nil) ?_;simp [-Q0,-Q6,-Q1,-Q7,-Q2,unk,unA,unE,unT,unC,flat];repeat with_reducible refine sdQ ?_
  refine Ql (fun g=>?_) (fun g=>?_)
  ·have g3:¬ (¬ (v2=true)):=gQ;clear g;replace h:=if_r g3 h;simp [-Q0,-Q6,-Q1,-Q7,-Q2];(repeat with_reducible refine sdQ ?_);replace h:=bind_some h;obtain ⟨v4,hv4,h⟩:=h;refine Q3 (Q3Q _ v4 hv4) (.cons (.aggL (.cons .val (.cons .lst (.cons .lst (.cons .lst (.cons .lst .nil)))))) .nil) ?_;simp [-Q0,-Q6,-Q1,-Q7,-Q2,unk,unA,unE,unT,unC,flat];(repeat with_reducible refine sdQ ?_);refine Ql (fun g=>?_) (fun g=>?_)
   ·have g5:¬ (¬ (v4=true)):=gQ;clear g;replace h:=if_r g5 h;simp [-Q0,-Q6,-Q1,-Q7,-Q2];(repeat with_reducible refine sdQ ?_);refine Ql (fun g=>?_) (fun g=>?_)
    ·have g6:¬ (¬ ((f_.ob.length:Int)=f_.s.n)):=gQ;clear g;replace h:=if_r g6 h;simp [-Q0,-Q6,-Q1,-Q7,-Q2];(repeat refine sdQ ?_);refine hK _ ?_;exact jn (b:=(f_.ar.length:Int) != (f_.s.fr.length:Int)) (Option.some.inj h) (wkQ8 [(0,0),(1,1),(2,2)])
    have g6:¬ ((f_.ob.length:Int)=f_.s.n):=gQ;clear g;replace h:=if_l g6 h;simp [-Q0,-Q6,-Q1,-Q7,-Q2];(repeat refine sdQ ?_);refine hK _ ?_;exact jn (b:=true) (Option.some.inj h) (wkQ8 [(0,0),(1,1),(2,2)])
   have g5:¬ (v4=true):=gQ;clear g;replace h:=if_l g5 h;simp [-Q0,-Q6,-Q1,-Q7,-Q2];(repeat refine sdQ ?_);refine hK _ ?_;exact jn (b:=true) (Option.some.inj h) (wkQ8 [(0,0),(1,1),(2,2)])
  have g3:¬ (v2=true):=gQ;clear g;replace h:=if_l g3 h;simp [-Q0,-Q6,-Q1,-Q7,-Q2];repeat refine sdQ ?_
  refine hK _ ?_;exact jn (b:=true) (Option.some.inj h) (wkQ8 [(0,0),(1,1),(2,2)])
 intro b1 hb1;have h:=h1;try rw [← hb1] at h
 clear h1;try dsimp only at h
 refine Qc rfl (fun g=>?_) fun g=>?_
 ·have g7:b1=true:=gQ;clear g;replace h:=if_l g7 h;refine Q5 ?_;refine runQ hN fun K hK=>?_;simp [-Q0,-Q6,-Q1,-Q7,-Q2];repeat refine sdQ ?_
  refine hK _ ?_;clear hK K;refine tn ?_;refine Q9 (st':=⟨[(2,.val (.bool false))],[],0⟩) (wkQ8 []) ?_;refine Qh ?_;refine tr ?_;have hr:=Option.some.inj h;rw [← hr];refine ⟨_,(.tmp .nil),?_⟩;refine ⟨(.one rfl rfl .nil),[.val (.bool false)],[],by simp [Cat.cells,Fn.cells,UA,U1,IA,I1,LA,L1,BA,B1,EA,E1,E2,eB,eI,eL],by simp,(UpL.refl _)⟩
 have g7:¬ (b1=true):=gQ;clear g;replace h:=if_r g7 h;refine Qd ?_;refine tn ?_;refine Q5 ?_;refine Q5 ?_;replace h:=bind_some h;obtain ⟨e8,h,h8⟩:=h;refine Qj (fun b8:Bool=>⟨[(1,.adr 0 0 0),(3,.adr 1 0 0),(4,.adr 2 0 0),(52,.val (.bool b8))],[(0,.mix 12 [(Fn.cells true f_)]),(1,.mix 5 [(Cat.cells true f_.s)]),(2,.mix 5 [(Cat.cells true f_.t)])],3⟩) (fun b8=>b8=e8) ?_ ?_
 ·refine runQ hN fun K hK=>?_;simp [-Q0,-Q6,-Q1,-Q7,-Q2];repeat with_reducible refine sdQ ?_
  replace h:=bind_some h;obtain ⟨v9,hv9,h⟩:=h;refine Q3 (Q3i _ _ v9 hv9) (.cons .val (.cons .lst .nil)) ?_;simp [-Q0,-Q6,-Q1,-Q7,-Q2,unk,unA,unE,unT,unC,flat];repeat with_reducible refine sdQ ?_
  refine Ql (fun g=>?_) (fun g=>?_)
  ·have g10:¬ (¬ (v9=true)):=gQ;clear g;replace h:=if_r g10 h;simp [-Q0,-Q6,-Q1,-Q7,-Q2];(repeat with_reducible refine sdQ ?_);replace h:=bind_some h;obtain ⟨v11,hv11,h⟩:=h;refine Q3 (Q3i _ _ v11 hv11) (.cons .val (.cons .lst .nil)) ?_;simp [-Q0,-Q6,-Q1,-Q7,-Q2,unk,unA,unE,unT,unC,flat];(repeat refine sdQ ?_);refine hK _ ?_;exact jn (b:=!v11) (Option.some.inj h) (wkQ8 [(0,0),(1,1),(2,2)])
  have g10:¬ (v9=true):=gQ;clear g;replace h:=if_l g10 h;simp [-Q0,-Q6,-Q1,-Q7,-Q2];repeat refine sdQ ?_
  refine hK _ ?_;exact jn (b:=true) (Option.some.inj h) (wkQ8 [(0,0),(1,1),(2,2)])
 intro b8 hb8;have h:=h8;try rw [← hb8] at h
 clear h8;try dsimp only at h
 refine Qc rfl (fun g=>?_) fun g=>?_
 ·have g12:b8=true:=gQ;clear g;replace h:=if_l g12 h;refine Q5 ?_;refine runQ hN fun K hK=>?_;simp [-Q0,-Q6,-Q1,-Q7,-Q2];repeat refine sdQ ?_
  refine hK _ ?_;clear hK K;refine tn ?_;refine Q9 (st':=⟨[(2,.val (.bool false))],[],0⟩) (wkQ8 []) ?_;refine Qh ?_;refine tr ?_;have hr:=Option.some.inj h;rw [← hr];refine ⟨_,(.tmp .nil),?_⟩;refine ⟨(.one rfl rfl .nil),[.val (.bool false)],[],by simp [Cat.cells,Fn.cells,UA,U1,IA,I1,LA,L1,BA,B1,EA,E1,E2,eB,eI,eL],by simp,(UpL.refl _)⟩
 have g12:¬ (b8=true):=gQ;clear g;replace h:=if_r g12 h;refine Qd ?_;refine tn ?_;refine Q5 ?_;refine Q5 ?_;refine runQ hN fun K hK=>?_;simp [-Q0,-Q6,-Q1,-Q7,-Q2];repeat refine sdQ ?_
 refine hK _ ?_;clear hK K;refine tn ?_;refine Q9 (st':=⟨[(1,.adr 0 0 0),(3,.adr 1 0 0),(4,.adr 2 0 0),(5,iV 0)],[(0,.mix 12 [(Fn.cells true f_)]),(1,.mix 5 [(Cat.cells true f_.s)]),(2,.mix 5 [(Cat.cells true f_.t)])],3⟩) (wkQ8 [(0,0),(1,1),(2,2)]) ?_;replace h:=bind_some h;obtain ⟨e13,h,h13⟩:=h;refine Qj (fun b13:Unit=>⟨[(1,.adr 0 0 0),(3,.adr 1 0 0),(4,.adr 2 0 0)],[(0,.mix 12 [(Fn.cells true f_)]),(1,.mix 5 [(Cat.cells true f_.s)]),(2,.mix 5 [(Cat.cells true f_.t)])],3⟩) (fun b13=>Sum.inl b13=e13) ?_ ?_
 ·refine Qa ?_;refine Qr h (fun s27:Int=>⟨[(1,.adr 0 0 0),(3,.adr 1 0 0),(4,.adr 2 0 0),(5,iV s27)],[(0,.mix 12 [(Fn.cells true f_)]),(1,.mix 5 [(Cat.cells true f_.s)]),(2,.mix 5 [(Cat.cells true f_.t)])],3⟩) (wkQ8 [(0,0),(1,1),(2,2)]) ?_;clear h;intro k27 s27 c27 h hk27;refine Q5 ?_;refine Q5 ?_;refine runQ hN fun K hK=>?_;simp [-Q0,-Q6,-Q1,-Q7,-Q2];repeat refine sdQ ?_
  refine hK _ ?_;clear hK K;refine tn ?_;refine Q9 (st':=⟨[(1,.adr 0 0 0),(3,.adr 1 0 0),(4,.adr 2 0 0),(5,iV s27),(57,.val (.bool (decide (s27<(f_.s.fr.length:Int)))))],[(0,.mix 12 [(Fn.cells true f_)]),(1,.mix 5 [(Cat.cells true f_.s)]),(2,.mix 5 [(Cat.cells true f_.t)])],3⟩) (wkQ8 [(0,0),(1,1),(2,2)]) ?_;refine Qc rfl (fun g=>?_) fun g=>?_
  ·have g28:s27<(f_.s.fr.length:Int):=gQ;clear g;replace h:=if_l g28 h;refine Qd ?_;refine tn ?_;refine Q5 ?_;refine Qa ?_;refine Q5 ?_;replace h:=bind_some h;obtain ⟨e29,h,h29⟩:=h;refine Qj (fun b29:Bool=>⟨[(1,.adr 0 0 0),(3,.adr 1 0 0),(4,.adr 2 0 0),(5,iV s27),(99,.val (.bool b29))],[(0,.mix 12 [(Fn.cells true f_)]),(1,.mix 5 [(Cat.cells true f_.s)]),(2,.mix 5 [(Cat.cells true f_.t)])],3⟩) (fun b29=>b29=e29) ?_ ?_
   ·refine runQ hN fun K hK=>?_;replace h:=Q4 h;obtain ⟨a30,h⟩:=h;replace h:=Q4 h;obtain ⟨a31,h⟩:=h;replace h:=Q4 h;obtain ⟨a32,h⟩:=h;replace h:=Q4 h;obtain ⟨a33,h⟩:=h;simp [-Q0,-Q6,-Q1,-Q7,-Q2,at_I a30,at_I a31,at_I a32,at_I a33];(repeat with_reducible refine sdQ ?_);refine Ql (fun g=>?_) (fun g=>?_)
    ·have g34:¬ (¬ ((ix f_.t.fr (ix f_.ar s27))=(ix f_.ob (ix f_.s.fr s27)))):=gQ;clear g;replace h:=if_r g34 h;replace h:=Q4 h;obtain ⟨a35,h⟩:=h;replace h:=Q4 h;obtain ⟨a36,h⟩:=h;replace h:=Q4 h;obtain ⟨a37,h⟩:=h;replace h:=Q4 h;obtain ⟨a38,h⟩:=h;simp [-Q0,-Q6,-Q1,-Q7,-Q2,at_I a30,at_I a31,at_I a32,at_I a33,at_I a35,at_I a36,at_I a37,at_I a38];(repeat refine sdQ ?_);refine hK _ ?_;exact jn (b:=(ix f_.t.to (ix f_.ar s27)) != (ix f_.ob (ix f_.s.to s27))) (Option.some.inj h) (wkQ8 [(0,0),(1,1),(2,2)])
    have g34:¬ ((ix f_.t.fr (ix f_.ar s27))=(ix f_.ob (ix f_.s.fr s27))):=gQ;clear g;replace h:=if_l g34 h;simp [-Q0,-Q6,-Q1,-Q7,-Q2,at_I a30,at_I a31,at_I a32,at_I a33];(repeat refine sdQ ?_);refine hK _ ?_;exact jn (b:=true) (Option.some.inj h) (wkQ8 [(0,0),(1,1),(2,2)])
   intro b29 hb29;have h:=h29;(try rw [← hb29] at h);clear h29;(try dsimp only at h);refine Qc rfl (fun g=>?_) fun g=>?_
   ·have g39:b29=true:=gQ;clear g;replace h:=if_l g39 h;refine Q5 ?_;refine runQ hN fun K hK=>?_;simp [-Q0,-Q6,-Q1,-Q7,-Q2];(repeat refine sdQ ?_);refine hK _ ?_;clear hK K;refine tn ?_;refine Q9 (st':=⟨[(2,.val (.bool false))],[],0⟩) (wkQ8 []) ?_;refine Qh ?_;refine br ?_;refine tr ?_;refine lr ?_;refine br ?_;refine tr ?_;cases h;have q:_=e13:=hk27;have h:=h13;rw [← q] at h;clear q;(try dsimp only at h);have hr:=Option.some.inj h;rw [← hr];refine ⟨_,(.tmp .nil),?_⟩;refine ⟨(.one rfl rfl .nil),[.val (.bool false)],[],by simp [Cat.cells,Fn.cells,UA,U1,IA,I1,LA,L1,BA,B1,EA,E1,E2,eB,eI,eL],by simp,(UpL.refl _)⟩
   have g39:¬ (b29=true):=gQ;clear g;replace h:=if_r g39 h;refine Qd ?_;refine bn ?_;refine tn ?_;refine runQ hN fun K hK=>?_;replace h:=Q4 h;obtain ⟨a40,h⟩:=h;simp [-Q0,-Q6,-Q1,-Q7,-Q2,Qo a40];(repeat refine sdQ ?_);refine hK _ ?_;clear hK K;cases h;exact rn (s':=s27+1) hk27 (wkQ8 [(0,0),(1,1),(2,2)])
  have g28:¬ (s27<(f_.s.fr.length:Int)):=gQ;clear g;replace h:=if_r g28 h;refine Qm ?_;refine tx ?_;refine lx ?_;refine bh ?_;cases h;exact jn (b:=()) hk27 (wkQ8 [(0,0),(1,1),(2,2)])
 intro b13 hb13;have h:=h13;try rw [← hb13] at h
 clear h13;try dsimp only at h
 refine Q5 ?_;refine Q5 ?_;refine runQ hN fun K hK=>?_;simp [-Q0,-Q6,-Q1,-Q7,-Q2];repeat refine sdQ ?_
 refine hK _ ?_;clear hK K;refine tn ?_;refine Q9 (st':=⟨[(1,.adr 0 0 0),(3,.adr 1 0 0),(4,.adr 2 0 0),(6,iV 0)],[(0,.mix 12 [(Fn.cells true f_)]),(1,.mix 5 [(Cat.cells true f_.s)]),(2,.mix 5 [(Cat.cells true f_.t)])],3⟩) (wkQ8 [(0,0),(1,1),(2,2)]) ?_;replace h:=bind_some h;obtain ⟨e41,h,h41⟩:=h;refine Qj (fun b41:Unit=>⟨[(1,.adr 0 0 0),(3,.adr 1 0 0),(4,.adr 2 0 0)],[(0,.mix 12 [(Fn.cells true f_)]),(1,.mix 5 [(Cat.cells true f_.s)]),(2,.mix 5 [(Cat.cells true f_.t)])],3⟩) (fun b41=>Sum.inl b41=e41) ?_ ?_
 ·refine Qa ?_;refine Qr h (fun s49:Int=>⟨[(1,.adr 0 0 0),(3,.adr 1 0 0),(4,.adr 2 0 0),(6,iV s49)],[(0,.mix 12 [(Fn.cells true f_)]),(1,.mix 5 [(Cat.cells true f_.s)]),(2,.mix 5 [(Cat.cells true f_.t)])],3⟩) (wkQ8 [(0,0),(1,1),(2,2)]) ?_;clear h;intro k49 s49 c49 h hk49;refine Q5 ?_;refine Q5 ?_;refine runQ hN fun K hK=>?_;simp [-Q0,-Q6,-Q1,-Q7,-Q2];repeat refine sdQ ?_
  refine hK _ ?_;clear hK K;refine tn ?_;refine Q9 (st':=⟨[(1,.adr 0 0 0),(3,.adr 1 0 0),(4,.adr 2 0 0),(6,iV s49),(103,.val (.bool (decide (s49<f_.s.n))))],[(0,.mix 12 [(Fn.cells true f_)]),(1,.mix 5 [(Cat.cells true f_.s)]),(2,.mix 5 [(Cat.cells true f_.t)])],3⟩) (wkQ8 [(0,0),(1,1),(2,2)]) ?_;refine Qc rfl (fun g=>?_) fun g=>?_
  ·have g50:s49<f_.s.n:=gQ;clear g;replace h:=if_l g50 h;refine Qd ?_;refine tn ?_;refine Q5 ?_;refine Qa ?_;refine Q5 ?_;refine runQ hN fun K hK=>?_;replace h:=Q4 h;obtain ⟨a51,h⟩:=h;replace h:=Q4 h;obtain ⟨a52,h⟩:=h;replace h:=Q4 h;obtain ⟨a53,h⟩:=h;replace h:=Q4 h;obtain ⟨a54,h⟩:=h;simp [-Q0,-Q6,-Q1,-Q7,-Q2,at_I a51,at_I a52,at_I a53,at_I a54];(repeat refine sdQ ?_);refine hK _ ?_;clear hK K;refine tn ?_;refine Q9 (st':=⟨[(1,.adr 0 0 0),(3,.adr 1 0 0),(4,.adr 2 0 0),(6,iV s49),(124,.val (.bool ((ix f_.ar (ix f_.s.id s49)) != (ix f_.t.id (ix f_.ob s49)))))],[(0,.mix 12 [(Fn.cells true f_)]),(1,.mix 5 [(Cat.cells true f_.s)]),(2,.mix 5 [(Cat.cells true f_.t)])],3⟩) (wkQ8 [(0,0),(1,1),(2,2)]) ?_;refine Qc rfl (fun g=>?_) fun g=>?_
   ·have g55:¬ ((ix f_.ar (ix f_.s.id s49))=(ix f_.t.id (ix f_.ob s49))):=gQ;clear g;replace h:=if_l g55 h;refine Q5 ?_;refine runQ hN fun K hK=>?_;simp [-Q0,-Q6,-Q1,-Q7,-Q2];(repeat refine sdQ ?_);refine hK _ ?_;clear hK K;refine tn ?_;refine Q9 (st':=⟨[(2,.val (.bool false))],[],0⟩) (wkQ8 []) ?_;refine Qh ?_;refine br ?_;refine tr ?_;refine lr ?_;refine br ?_;refine tr ?_;cases h;have q:_=e41:=hk49;have h:=h41;rw [← q] at h;clear q;(try dsimp only at h);have hr:=Option.some.inj h;rw [← hr];refine ⟨_,(.tmp .nil),?_⟩;refine ⟨(.one rfl rfl .nil),[.val (.bool false)],[],by simp [Cat.cells,Fn.cells,UA,U1,IA,I1,LA,L1,BA,B1,EA,E1,E2,eB,eI,eL],by simp,(UpL.refl _)⟩
   have g55:¬ (¬ ((ix f_.ar (ix f_.s.id s49))=(ix f_.t.id (ix f_.ob s49)))):=gQ;clear g;replace h:=if_r g55 h;refine Qd ?_;refine bn ?_;refine tn ?_;refine runQ hN fun K hK=>?_;replace h:=Q4 h;obtain ⟨a56,h⟩:=h;simp [-Q0,-Q6,-Q1,-Q7,-Q2,Qo a56];(repeat refine sdQ ?_);refine hK _ ?_;clear hK K;cases h;exact rn (s':=s49+1) hk49 (wkQ8 [(0,0),(1,1),(2,2)])
  have g50:¬ (s49<f_.s.n):=gQ;clear g;replace h:=if_r g50 h;refine Qm ?_;refine tx ?_;refine lx ?_;refine bh ?_;cases h;exact jn (b:=()) hk49 (wkQ8 [(0,0),(1,1),(2,2)])
 intro b41 hb41;have h:=h41;try rw [← hb41] at h
 clear h41;try dsimp only at h
 refine Q5 ?_;refine Q5 ?_;refine runQ hN fun K hK=>?_;simp [-Q0,-Q6,-Q1,-Q7,-Q2];repeat refine sdQ ?_
 refine hK _ ?_;clear hK K;refine tn ?_;refine Q9 (st':=⟨[(1,.adr 0 0 0),(3,.adr 1 0 0),(4,.adr 2 0 0),(7,iV 0)],[(0,.mix 12 [(Fn.cells true f_)]),(1,.mix 5 [(Cat.cells true f_.s)]),(2,.mix 5 [(Cat.cells true f_.t)])],3⟩) (wkQ8 [(0,0),(1,1),(2,2)]) ?_;replace h:=bind_some h;obtain ⟨e57,h,h57⟩:=h;refine Qj (fun b57:Unit=>⟨[],[],0⟩) (fun b57=>Sum.inl b57=e57) ?_ ?_
 ·refine Qa ?_;refine Qr h (fun s90:Int=>⟨[(1,.adr 0 0 0),(3,.adr 1 0 0),(4,.adr 2 0 0),(7,iV s90)],[(0,.mix 12 [(Fn.cells true f_)]),(1,.mix 5 [(Cat.cells true f_.s)]),(2,.mix 5 [(Cat.cells true f_.t)])],3⟩) (wkQ8 [(0,0),(1,1),(2,2)]) ?_;clear h;intro k90 s90 c90 h hk90;refine Q5 ?_;refine Q5 ?_;refine runQ hN fun K hK=>?_;simp [-Q0,-Q6,-Q1,-Q7,-Q2];repeat refine sdQ ?_
  refine hK _ ?_;clear hK K;refine tn ?_;refine Q9 (st':=⟨[(1,.adr 0 0 0),(3,.adr 1 0 0),(4,.adr 2 0 0),(7,iV s90),(129,.val (.bool (decide (s90<(f_.s.fr.length:Int)))))],[(0,.mix 12 [(Fn.cells true f_)]),(1,.mix 5 [(Cat.cells true f_.s)]),(2,.mix 5 [(Cat.cells true f_.t)])],3⟩) (wkQ8 [(0,0),(1,1),(2,2)]) ?_;refine Qc rfl (fun g=>?_) fun g=>?_
  ·have g91:s90<(f_.s.fr.length:Int):=gQ;clear g;replace h:=if_l g91 h;refine Qd ?_;refine tn ?_;refine Q5 ?_;replace h:=bind_some h;obtain ⟨e92,h,h92⟩:=h;refine Qj (fun b92:Unit=>⟨[(1,.adr 0 0 0),(3,.adr 1 0 0),(4,.adr 2 0 0),(7,iV s90)],[(0,.mix 12 [(Fn.cells true f_)]),(1,.mix 5 [(Cat.cells true f_.s)]),(2,.mix 5 [(Cat.cells true f_.t)])],3⟩) (fun b92=>Sum.inl b92=e92) ?_ ?_
   ·refine Qa ?_;refine Q5 ?_;refine runQ hN fun K hK=>?_;simp [-Q0,-Q6,-Q1,-Q7,-Q2];(repeat refine sdQ ?_);refine hK _ ?_;clear hK K;refine tn ?_;refine Q9 (st':=⟨[(1,.adr 0 0 0),(3,.adr 1 0 0),(4,.adr 2 0 0),(7,iV s90),(8,iV 0)],[(0,.mix 12 [(Fn.cells true f_)]),(1,.mix 5 [(Cat.cells true f_.s)]),(2,.mix 5 [(Cat.cells true f_.t)])],3⟩) (wkQ8 [(0,0),(1,1),(2,2)]) ?_;refine Qa ?_;replace h:=bind_some h;obtain ⟨e107,he107,h107⟩:=h;refine Qr he107 (fun s107:Int=>⟨[(1,.adr 0 0 0),(3,.adr 1 0 0),(4,.adr 2 0 0),(7,iV s90),(8,iV s107)],[(0,.mix 12 [(Fn.cells true f_)]),(1,.mix 5 [(Cat.cells true f_.s)]),(2,.mix 5 [(Cat.cells true f_.t)])],3⟩) (wkQ8 [(0,0),(1,1),(2,2)]) ?_;intro k107 s107 c107 h hk107;refine Q5 ?_;refine Q5 ?_;refine runQ hN fun K hK=>?_;simp [-Q0,-Q6,-Q1,-Q7,-Q2];(repeat refine sdQ ?_);refine hK _ ?_;clear hK K;refine tn ?_;refine Q9 (st':=⟨[(1,.adr 0 0 0),(3,.adr 1 0 0),(4,.adr 2 0 0),(7,iV s90),(8,iV s107),(136,.val (.bool (decide (s107<(f_.s.fr.length:Int)))))],[(0,.mix 12 [(Fn.cells true f_)]),(1,.mix 5 [(Cat.cells true f_.s)]),(2,.mix 5 [(Cat.cells true f_.t)])],3⟩) (wkQ8 [(0,0),(1,1),(2,2)]) ?_;refine Qc rfl (fun g=>?_) fun g=>?_
    ·have g108:s107<(f_.s.fr.length:Int):=gQ;clear g;replace h:=if_l g108 h;refine Qd ?_;refine tn ?_;refine Q5 ?_;refine Qa ?_;refine Q5 ?_;replace h:=bind_some h;obtain ⟨e109,h,h109⟩:=h;refine Qj (fun b109:Bool=>⟨[(1,.adr 0 0 0),(3,.adr 1 0 0),(4,.adr 2 0 0),(7,iV s90),(8,iV s107),(180,.val (.bool b109))],[(0,.mix 12 [(Fn.cells true f_)]),(1,.mix 5 [(Cat.cells true f_.s)]),(2,.mix 5 [(Cat.cells true f_.t)])],3⟩) (fun b109=>b109=e109) ?_ ?_
     ·refine runQ hN fun K hK=>?_;replace h:=Q4 h;obtain ⟨a110,h⟩:=h;replace h:=Q4 h;obtain ⟨a111,h⟩:=h;simp [-Q0,-Q6,-Q1,-Q7,-Q2,at_I a110,at_I a111];(repeat with_reducible refine sdQ ?_);refine Ql (fun g=>?_) (fun g=>?_)
      ·have g112:(ix f_.s.to s90)=(ix f_.s.fr s107):=gQ;clear g;replace h:=if_l g112 h;replace h:=Q4 h;obtain ⟨a113,h⟩:=h;replace h:=Q4 h;obtain ⟨a114,h⟩:=h;replace h:=Q4 h;obtain ⟨a115,h⟩:=h;replace h:=Q4 h;obtain ⟨a116,h⟩:=h;replace h:=Q4 h;obtain ⟨a117,h⟩:=h;replace h:=Q4 h;obtain ⟨a118,h⟩:=h;replace h:=Q4 h;obtain ⟨a119,h⟩:=h;simp [-Q0,-Q6,-Q1,-Q7,-Q2,at_I a110,at_I a111,at_L a113,at_I a114,at_I a115,at_I a116,at_L a117,at_I a118,at_I a119];(repeat refine sdQ ?_);refine hK _ ?_;exact jn (b:=(ix f_.ar (ix (rx f_.s.cs s90) s107)) != (ix (rx f_.t.cs (ix f_.ar s90)) (ix f_.ar s107))) (Option.some.inj h) (wkQ8 [(0,0),(1,1),(2,2)])
      have g112:¬ ((ix f_.s.to s90)=(ix f_.s.fr s107)):=gQ;clear g;replace h:=if_r g112 h;simp [-Q0,-Q6,-Q1,-Q7,-Q2,at_I a110,at_I a111];(repeat refine sdQ ?_);refine hK _ ?_;exact jn (b:=false) (Option.some.inj h) (wkQ8 [(0,0),(1,1),(2,2)])
     intro b109 hb109;have h:=h109;(try rw [← hb109] at h);clear h109;(try dsimp only at h);refine Qc rfl (fun g=>?_) fun g=>?_
     ·have g120:b109=true:=gQ;clear g;replace h:=if_l g120 h;refine Q5 ?_;refine runQ hN fun K hK=>?_;simp [-Q0,-Q6,-Q1,-Q7,-Q2];(repeat refine sdQ ?_);refine hK _ ?_;clear hK K;refine tn ?_;refine Q9 (st':=⟨[(2,.val (.bool false))],[],0⟩) (wkQ8 []) ?_;refine Qh ?_;refine br ?_;refine tr ?_;refine lr ?_;refine br ?_;refine br ?_;refine tr ?_;refine lr ?_;refine br ?_;refine tr ?_;cases h;have q:_=e107:=hk107;have h:=h107;rw [← q] at h;clear q;(try dsimp only at h);cases h;have h:=h92;(try dsimp only at h);cases h;have q:_=e57:=hk90;have h:=h57;rw [← q] at h;clear q;(try dsimp only at h);have hr:=Option.some.inj h;rw [← hr];refine ⟨_,(.tmp .nil),?_⟩;refine ⟨(.one rfl rfl .nil),[.val (.bool false)],[],by simp [Cat.cells,Fn.cells,UA,U1,IA,I1,LA,L1,BA,B1,EA,E1,E2,eB,eI,eL],by simp,(UpL.refl _)⟩
     have g120:¬ (b109=true):=gQ;clear g;replace h:=if_r g120 h;refine Qd ?_;refine bn ?_;refine tn ?_;refine runQ hN fun K hK=>?_;replace h:=Q4 h;obtain ⟨a121,h⟩:=h;simp [-Q0,-Q6,-Q1,-Q7,-Q2,Qo a121];(repeat refine sdQ ?_);refine hK _ ?_;clear hK K;cases h;exact rn (s':=s107+1) hk107 (wkQ8 [(0,0),(1,1),(2,2)])
    have g108:¬ (s107<(f_.s.fr.length:Int)):=gQ;clear g;replace h:=if_r g108 h;refine Qm ?_;refine tx ?_;refine lx ?_;refine bh ?_;refine bn ?_;cases h;have q:_=e107:=hk107;have h:=h107;rw [← q] at h;clear q;(try dsimp only at h);exact jn (b:=()) (Option.some.inj h) (wkQ8 [(0,0),(1,1),(2,2)])
   intro b92 hb92;have h:=h92;(try rw [← hb92] at h);clear h92;(try dsimp only at h);refine runQ hN fun K hK=>?_;replace h:=Q4 h;obtain ⟨a122,h⟩:=h;simp [-Q0,-Q6,-Q1,-Q7,-Q2,Qo a122];(repeat refine sdQ ?_);refine hK _ ?_;clear hK K;cases h;exact rn (s':=s90+1) hk90 (wkQ8 [(0,0),(1,1),(2,2)])
  have g91:¬ (s90<(f_.s.fr.length:Int)):=gQ;clear g;replace h:=if_r g91 h;refine Qm ?_;refine tx ?_;refine lx ?_;refine bh ?_;cases h;exact jn (b:=()) hk90 (wkQ8 [])
 intro b57 hb57;have h:=h57;try rw [← hb57] at h
 clear h57;try dsimp only at h
 refine Q5 ?_;refine runQ hN fun K hK=>?_;simp [-Q0,-Q6,-Q1,-Q7,-Q2];repeat refine sdQ ?_
 refine hK _ ?_;clear hK K;refine tn ?_;refine Q9 (st':=⟨[(2,.val (.bool true))],[],0⟩) (wkQ8 []) ?_;refine Qh ?_;have hr:=Option.some.inj h;rw [← hr];refine ⟨_,(.tmp .nil),?_⟩;refine ⟨(.one rfl rfl .nil),[.val (.bool true)],[],by simp [Cat.cells,Fn.cells,UA,U1,IA,I1,LA,L1,BA,B1,EA,E1,E2,eB,eI,eL],by simp,(UpL.refl _)⟩
structure Fn.Is (f:Fn):Prop where
 s:f.s.Is
 t:f.t.Is
 lo:(f.ob.length:Int)=f.s.n
 la:f.ar.length=f.s.fr.length
 ob:∀ j:Nat,j<f.ob.length→0≤ix f.ob j∧ix f.ob j<f.t.n
 ar:∀ j:Nat,j<f.ar.length→0≤ix f.ar j∧ix f.ar j<f.t.fr.length
 ends:∀ a:Nat,a<f.s.fr.length→ix f.t.fr (ix f.ar a)=ix f.ob (ix f.s.fr a)∧ix f.t.to (ix f.ar a)=ix f.ob (ix f.s.to a)
 ids:∀ x:Nat,x<f.s.id.length→ix f.ar (ix f.s.id x)=ix f.t.id (ix f.ob x)
 comp:∀ a:Nat,a<f.s.fr.length→∀ b:Nat,b<f.s.fr.length→ix f.s.to a=ix f.s.fr b→ix f.ar (ix (rx f.s.cs a) b)=ix (rx f.t.cs (ix f.ar a)) (ix f.ar b)
theorem Cat.Sh.frn {c:Cat} (h:c.Sh) {a:Nat} (ha:a<c.fr.length):(0≤ix c.fr a∧ix c.fr a<c.id.length)∧(0≤ix c.to a∧ix c.to a<c.id.length):=⟨h.fr' (by omega) (by omega),h.to' (by omega) (by omega)⟩
theorem Cat.Sh.idn {c:Cat} (h:c.Sh) {a:Nat} (ha:a<c.id.length):0≤ix c.id a∧ix c.id a<c.fr.length:=h.id' (by omega) (by omega)
theorem Cat.Sh.cmp {c:Cat} (h:c.Sh) {f g:Int} (h0:0≤f) (h1:f<c.fr.length) (h2:0≤g) (h3:g<c.fr.length) (e:ix c.to f=ix c.fr g):0≤ix (rx c.cs f) g∧ix (rx c.cs f) g<c.fr.length:=by
 have:=(h.cell' h0 h1 h2 h3).2 e;omega
theorem e_l06Is (f:Fn):Q2E f=some (bo f.Is):=by
 unfold Q2E
 by_cases h1:f.s.Is
 case neg=>rw [Qg (show ¬ f.Is from fun q=>h1 q.s)];simp [QY,bo,h1]
 by_cases h2:f.t.Is
 case neg=>rw [Qg (show ¬ f.Is from fun q=>h2 q.t)];simp [QY,bo,h1,h2]
 by_cases h3:(f.ob.length:Int)=f.s.n
 case neg=>rw [Qg (show ¬ f.Is from fun q=>h3 q.lo)];simp [QY,bo,h1,h2,h3]
 by_cases h4:(f.ar.length:Int)=f.s.fr.length
 case neg=>rw [Qg (show ¬ f.Is from fun q=>h4 (by rw [q.la]))];simp [QY,bo,h1,h2,h3,h4]
 by_cases h5:f.ob.all (inR f.t.n)=true
 case neg=>rw [Qg (show ¬ f.Is from fun q=>h5 (all_inR.2 q.ob))];simp [QY,Q14,bo,h1,h2,h3,h4,h5]
 by_cases h6:f.ar.all (inR f.t.fr.length)=true
 case neg=>rw [Qg (show ¬ f.Is from fun q=>h6 (all_inR.2 q.ar))];simp [QY,Q14,bo,h1,h2,h3,h4,h5,h6]
 have ho:=all_inR.1 h5;have ha:=all_inR.1 h6;have hs:=h1.1;have ht:=h2.1;simp only [QY,Q14,Qn h1,Qn h2,h3,h4,h5,h6,Option.bind_some,if_true,if_false,not_true_eq_false,bne_self_eq_false,Bool.not_true,Bool.false_eq_true];refine Q1o f.s.fr.length (fun a:Nat=>ix f.t.fr (ix f.ar a)=ix f.ob (ix f.s.fr a)∧ix f.t.to (ix f.ar a)=ix f.ob (ix f.s.to a)) (eb:=Sum.inr false) (eg:=Sum.inl ()) (by have:=hs.m40;omega) (fun a hi hp=>?_) (fun a hi hp=>?_) ?_ (fun hx=>?_) fun q1=>?_
 ·have:=hs.frn hi;have:=ha a (by omega);have:=hs.lt;have:=ht.lt;have:=hs.li;have:=hs.m40;simp (disch:=omega) only [Q8,if_pos,B64,hp.1,hp.2,Option.bind_some,not_true_eq_false,if_false,bne_self_eq_false,Bool.false_eq_true]
 ·have:=hs.frn hi;have:=ha a (by omega);have:=hs.lt;have:=ht.lt;have:=hs.li;have:=hs.m40
  by_cases hp1:ix f.t.fr (ix f.ar a)=ix f.ob (ix f.s.fr a)
  ·have hp2:¬ ix f.t.to (ix f.ar a)=ix f.ob (ix f.s.to a):=fun h=>hp ⟨hp1,h⟩;simp (disch:=omega) [Q8,B64,hp1,hp2,hi]
  simp (disch:=omega) [Q8,B64,hp1,hi]
 ·simp
 ·rw [Qg (show ¬ f.Is from fun q=>hx q.ends)]
 simp only;refine Q1o f.s.id.length (fun x:Nat=>ix f.ar (ix f.s.id x)=ix f.t.id (ix f.ob x)) (eb:=Sum.inr false) (eg:=Sum.inl ()) (by have:=hs.n8;have:=hs.li;omega) (fun a hi hp=>?_) (fun a hi hp=>?_) ?_ (fun hx=>?_) fun q2=>?_
 ·have:=hs.idn hi;have:=ho a (by have:=hs.li;omega);have:=hs.li;have:=ht.li;have:=hs.n8;simp (disch:=omega) [Q8,B64,hp];omega
 ·have:=hs.idn hi;have:=ho a (by have:=hs.li;omega);have:=hs.li;have:=ht.li;have:=hs.n8;simp (disch:=omega) [Q8,B64,hp];omega
 ·simp [hs.li]
 ·rw [Qg (show ¬ f.Is from fun q=>hx q.ids)]
 simp only;refine Q1o f.s.fr.length (fun a:Nat=>∀ b:Nat,b<f.s.fr.length→ix f.s.to a=ix f.s.fr b→ix f.ar (ix (rx f.s.cs a) b)=ix (rx f.t.cs (ix f.ar a)) (ix f.ar b)) (eb:=Sum.inr false) (eg:=Sum.inl ()) (by have:=hs.m40;omega) (fun a hi hp=>?_) (fun a hi hp=>?_) ?_ (fun hx=>?_) fun q3=>?_;rotate_left 2
 ·simp
 ·rw [Qg (show ¬ f.Is from fun q=>hx q.comp)]
 ·rw [Qn (show f.Is from ⟨h1,h2,h3,by omega,ho,ha,q1,q2,q3⟩)]
 all_goals
  have m40:=hs.m40;have h7:=hs.lt;have h8:=ha a (by omega);have h9:=hs.lc;have h10:=ht.lc;have h11:=hs.row' (j:=a) (by omega) (by omega);have h12:=ht.row' (j:=ix f.ar a) (by omega) (by omega);rw [if_pos (by omega)]
 all_goals
  rw [Option.bind_assoc];refine Q1o f.s.fr.length (fun b:Nat=>ix f.s.to a=ix f.s.fr b→ix f.ar (ix (rx f.s.cs a) b)=ix (rx f.t.cs (ix f.ar a)) (ix f.ar b)) (eb:=Sum.inl false) (eg:=Sum.inr ()) (by omega) (fun b hb hq=>?_) (fun b hb hq=>?_) ?_ (fun hn=>?_) fun hn=>?_
 all_goals first
  | exact absurd hp hn
  | exact absurd hn hp
  | (simp (disch:=omega) [Q8,B64];done)
  | skip
 all_goals
  have h13:=ha b (by omega)
  by_cases h14:ix f.s.to a=ix f.s.fr b
  ·have h15:=hs.cmp (f:=a) (g:=b) (by omega) (by omega) (by omega) (by omega) h14;first
    | (have hq1:=hq h14;simp (disch:=omega) [Q8,B64,h14,hq1,hb])
    | (have hq1:=fun e=>hq (fun _=>e);simp (disch:=omega) [Q8,B64,h14,hq1,hb];exact hq1)
  first
   | (simp (disch:=omega) [Q8,B64,h14,hb];done)
   | exact absurd (fun e=>absurd e h14) hq
attribute [local simp] eL eI QB
noncomputable def Q1J (n_:Int):Option (List Int) :=
 ass (0≤n_∧n_≤1073741824) <|
 (Qx (σ:=List Int × Int) (ε:=List Int) (fun s6 =>
  if s6.2<((List.replicate n_.toNat 0).length:Int) then
   ass (0≤s6.2∧s6.2<(s6.1.length:Int)) <|
   ass (B64 (s6.2+1)) <|
   some (Ctl.next (s6.1.set s6.2.toNat s6.2,s6.2+1))
  else
   some (Ctl.ret s6.1)) fuel (List.replicate n_.toNat 0,0)).bind fun b2 =>
 some b2
theorem Q4T (n_:Int) (r:List Int) (h:Q1J n_=some r):Contract Try.prog 188 [iV n_] (lI r):=by
 refine Qk (rvs:=[.tmp 2]) (rs:=[lI r]) Try.func188 rfl rfl rfl rfl (by simp [Try.f188]) fun F hN hP=>?_;unfold Q1J at h;refine Q5 ?_;refine runQ hN fun K hK=>?_;simp [-Q0,-Q6,-Q1,-Q7,-Q2];repeat refine sdQ ?_
 refine hK _ ?_;clear hK K;refine tn ?_;refine Q9 (st':=⟨[(0,iV n_)],[],0⟩) (wkQ8 []) ?_;refine Q5 ?_;refine runQ hN fun K hK=>?_;replace h:=Q4 h;obtain ⟨a1,h⟩:=h;simp [-Q0,-Q6,-Q1,-Q7,-Q2];repeat refine sdQ ?_
 refine hK _ ?_;clear hK K;refine tn ?_;refine Q9 (st':=⟨[(3,.own 0 0 ((List.replicate n_.toNat 0).length))],[(0,rI (List.replicate n_.toNat 0))],1⟩) (wkQ8 [(0,0)]) ?_;refine Q5 ?_;refine Q5 ?_;refine runQ hN fun K hK=>?_;simp [-Q0,-Q6,-Q1,-Q7,-Q2];repeat refine sdQ ?_
 refine hK _ ?_;clear hK K;refine tn ?_;refine Q9 (st':=⟨[(3,.own 0 0 ((List.replicate n_.toNat 0).length)),(8,iV ((List.replicate n_.toNat 0).length:Int)),(9,iV 0)],[(0,rI (List.replicate n_.toNat 0))],1⟩) (wkQ8 [(0,0)]) ?_;replace h:=bind_some h;obtain ⟨e2,h,h2⟩:=h;refine Qj (fun b2:List Int=>⟨[(3,.own 0 0 b2.length)],[(0,rI b2)],1⟩) (fun b2=>b2=e2) ?_ ?_
 ·refine Qa ?_;refine Qr h (fun s6:List Int × Int=>⟨[(3,.own 0 0 s6.1.length),(8,iV ((List.replicate n_.toNat 0).length:Int)),(9,iV s6.2)],[(0,rI s6.1)],1⟩) (wkQ8 [(0,0)]) ?_;clear h;intro k6 s6 c6 h hk6;refine Q5 ?_;refine runQ hN fun K hK=>?_;simp [-Q0,-Q6,-Q1,-Q7,-Q2];repeat refine sdQ ?_
  refine hK _ ?_;clear hK K;refine tn ?_;refine Q9 (st':=⟨[(3,.own 0 0 s6.1.length),(8,iV ((List.replicate n_.toNat 0).length:Int)),(9,iV s6.2),(10,.val (.bool (decide (s6.2<((List.replicate n_.toNat 0).length:Int)))))],[(0,rI s6.1)],1⟩) (wkQ8 [(0,0)]) ?_;refine Q5 ?_;refine Qc rfl (fun g=>?_) fun g=>?_
  ·have g7:s6.2<((List.replicate n_.toNat 0).length:Int):=gQ;clear g;replace h:=if_l g7 h;refine Qd ?_;refine tn ?_;refine Q5 ?_;refine Qa ?_;refine Q5 ?_;refine runQ hN fun K hK=>?_;simp [-Q0,-Q6,-Q1,-Q7,-Q2];(repeat refine sdQ ?_);refine hK _ ?_;clear hK K;refine tn ?_;refine Q9 (st':=⟨[(3,.own 0 0 s6.1.length),(4,iV s6.2),(8,iV ((List.replicate n_.toNat 0).length:Int)),(9,iV s6.2)],[(0,rI s6.1)],1⟩) (wkQ8 [(0,0)]) ?_;refine runQ hN fun K hK=>?_;replace h:=Q4 h;obtain ⟨a8,h⟩:=h;simp [-Q0,-Q6,-Q1,-Q7,-Q2,at_I a8];(repeat refine sdQ ?_);refine hK _ ?_;clear hK K;refine bn ?_;refine tn ?_;refine Q9 (st':=⟨[(3,.own 0 0 ((s6.1.set s6.2.toNat s6.2).length)),(8,iV ((List.replicate n_.toNat 0).length:Int)),(9,iV s6.2)],[(0,rI (s6.1.set s6.2.toNat s6.2))],1⟩) (wkQ8 [(0,0)]) ?_;refine runQ hN fun K hK=>?_;replace h:=Q4 h;obtain ⟨a9,h⟩:=h;simp [-Q0,-Q6,-Q1,-Q7,-Q2,Qo a9];(repeat refine sdQ ?_);refine hK _ ?_;clear hK K;cases h;exact rn (s':=(s6.1.set s6.2.toNat s6.2,s6.2+1)) hk6 (wkQ8 [(0,0)])
  have g7:¬ (s6.2<((List.replicate n_.toNat 0).length:Int)):=gQ;clear g;replace h:=if_r g7 h;refine Qm ?_;refine tx ?_;refine lx ?_;refine bh ?_;cases h;exact jn (b:=s6.1) hk6 (wkQ8 [(0,0)])
 intro b2 hb2;have h:=h2;try rw [← hb2] at h
 clear h2;try dsimp only at h
 refine Q5 ?_;refine runQ hN fun K hK=>?_;simp [-Q0,-Q6,-Q1,-Q7,-Q2];repeat refine sdQ ?_
 refine hK _ ?_;clear hK K;refine tn ?_;refine Q9 (st':=⟨[(2,.own 0 0 b2.length)],[(0,rI b2)],1⟩) (wkQ8 [(0,0)]) ?_;refine Qh ?_;have hr:=Option.some.inj h;rw [← hr];refine ⟨_,(.tmp .nil),?_⟩;refine ⟨(.one rfl rfl .nil),[lI b2],[0],by simp [UA,U1,IA,I1,LA,L1,BA,B1,EA,E1,E2,eB,eI,eL],by simp,(UpL.refl _)⟩
theorem ix_iota (n:Nat) {j:Int} (h0:0≤j) (h1:j<n):ix (iota n) j=j:=by
 obtain ⟨i,rfl⟩:∃ i:Nat,j=i:=⟨j.toNat,by omega⟩;rw [← Q1A _ _ (show i<(iota n).length by simp [iota];omega)];simp [iota]
theorem set_fill {α:Type} (xs:List α) (k:Nat) (v z:α) {i:Nat} (h:i=xs.length):(xs++List.replicate (k+1) z).set i v=(xs++[v])++List.replicate k z:=by
 subst h;simp [List.replicate_succ]
theorem mem_bnd {f:List Int} {n:Int} (h:∀ j:Nat,j<f.length→0≤ix f j∧ix f j<n):∀ y∈f,0≤y∧y<n:=by
 intro y hy;obtain ⟨i,hi,rfl⟩:=List.getElem_of_mem hy;rw [Q1A _ _ hi];exact h i hi
theorem Cat.Is.ok {c:Cat} (h:c.Is):c.ok:=h.1.size2.1
theorem e_numbers {n:Int} (h0:0≤n) (h1:n≤1048576):Q1J n=some (iota n.toNat):=by
 unfold Q1J;rw [Q8 (by omega)];simp only [List.length_replicate];refine Q5r n.toNat (fun i:Nat=>iota i++List.replicate (n.toNat - i) 0) (e:=iota n.toNat) (by simp [iota]) (by omega) (fun i hi=>?_) (by simp) (by simp);obtain ⟨k,hk⟩:∃ k,n.toNat - i=k+1:=⟨n.toNat - i - 1,by omega⟩;have hl:(iota i).length=i:=by simp [iota]
 have hs:=set_fill (iota i) k (i:Int) 0 (i:=i) (by rw [hl]);rw [iota_succ,hk,show n.toNat - (i+1)=k by omega,← hs];simp (disch:=omega) [Q8,B64,hl];omega
attribute [local simp] eL eI QB Q1y Q2v Cat.cells Fn.cells
noncomputable def Q18 (f_:Fn):Option Bool :=
 (
  if ¬ ((f_.ob.length:Int)=f_.s.n) then
   some true
  else
   (Qw f_.s).bind fun v3 =>
   if ¬ ((f_.ar.length:Int)=v3) then
    some true
   else
    (Q1j f_.ob f_.t.n).bind fun v5 =>
    if ¬ (v5=true) then
     some true
    else
     (Qw f_.t).bind fun v7 =>
     (Q1j f_.ar v7).bind fun v8 =>
     some (!v8):Option (Bool)).bind fun b1 =>
 if b1=true then
  some false
 else
  (Qx (σ:=Int) (ε:=Unit ⊕ Bool) (fun s23 =>
   if s23<(f_.ar.length:Int) then
    ass (0≤s23∧s23<(f_.ar.length:Int)) <|
    (
     ass (0≤ix f_.ar s23∧ix f_.ar s23<(f_.t.fr.length:Int)) <|
     ass (0≤s23∧s23<(f_.s.fr.length:Int)) <|
     ass (0≤ix f_.s.fr s23∧ix f_.s.fr s23<(f_.ob.length:Int)) <|
     if ¬ ((ix f_.t.fr (ix f_.ar s23))=(ix f_.ob (ix f_.s.fr s23))) then
      some true
     else
      ass (0≤ix f_.ar s23∧ix f_.ar s23<(f_.t.to.length:Int)) <|
      ass (0≤s23∧s23<(f_.s.to.length:Int)) <|
      ass (0≤ix f_.s.to s23∧ix f_.s.to s23<(f_.ob.length:Int)) <|
      some ((ix f_.t.to (ix f_.ar s23)) != (ix f_.ob (ix f_.s.to s23))):Option (Bool)).bind fun b26 =>
    if b26=true then
     some (Ctl.ret (Sum.inr false))
    else
     ass (B64 (s23+1)) <|
     some (Ctl.next (s23+1))
   else
    some (Ctl.ret (Sum.inl ()))) fuel 0).bind fun e10 =>
  match e10 with
  | .inl b10 =>
   (Qx (σ:=Int) (ε:=Unit ⊕ Bool) (fun s44 =>
    if s44<(f_.s.id.length:Int) then
     ass (0≤s44∧s44<(f_.s.id.length:Int)) <|
     ass (0≤ix f_.s.id s44∧ix f_.s.id s44<(f_.ar.length:Int)) <|
     ass (0≤s44∧s44<(f_.ob.length:Int)) <|
     ass (0≤ix f_.ob s44∧ix f_.ob s44<(f_.t.id.length:Int)) <|
     if ¬ ((ix f_.ar (ix f_.s.id s44))=(ix f_.t.id (ix f_.ob s44))) then
      some (Ctl.ret (Sum.inr false))
     else
      ass (B64 (s44+1)) <|
      some (Ctl.next (s44+1))
    else
     some (Ctl.ret (Sum.inl ()))) fuel 0).bind fun e36 =>
   match e36 with
   | .inl b36 =>
    (Qx (σ:=Int) (ε:=Unit ⊕ Bool) (fun s78 =>
     if s78<(f_.s.cs.length:Int) then
      (
       ass (0≤s78∧s78<(f_.s.cs.length:Int)) <|
       (Qx (σ:=Int) (ε:=Bool ⊕ Unit) (fun s92 =>
        if s92<((rx f_.s.cs s78).length:Int) then
         ass (0≤s92∧s92<((rx f_.s.cs s78).length:Int)) <|
         (
          if (ix (rx f_.s.cs s78) s92) ≥ 0 then
           ass (0≤ix (rx f_.s.cs s78) s92∧ix (rx f_.s.cs s78) s92<(f_.ar.length:Int)) <|
           ass (0≤s78∧s78<(f_.ar.length:Int)) <|
           ass (0≤s92∧s92<(f_.ar.length:Int)) <|
           (Q13 f_.t (ix f_.ar s78) (ix f_.ar s92)).bind fun v100 =>
           some ((ix f_.ar (ix (rx f_.s.cs s78) s92)) != v100)
          else
           some false:Option (Bool)).bind fun b95 =>
         if b95=true then
          some (Ctl.ret (Sum.inl false))
         else
          ass (B64 (s92+1)) <|
          some (Ctl.next (s92+1))
        else
         some (Ctl.ret (Sum.inr ()))) fuel 0).bind fun e92 =>
       match e92 with
       | .inl p92 =>
        some (Sum.inr p92)
       | .inr p92 =>
        some (Sum.inl p92):Option (Unit ⊕ Bool)).bind fun e80 =>
      match e80 with
      | .inl b80 =>
       ass (B64 (s78+1)) <|
       some (Ctl.next (s78+1))
      | .inr p80 =>
       some (Ctl.ret (Sum.inr p80))
     else
      some (Ctl.ret (Sum.inl ()))) fuel 0).bind fun e52 =>
    match e52 with
    | .inl b52 =>
     some true
    | .inr p52 =>
     some p52
   | .inr p36 =>
    some p36
  | .inr p10 =>
   some p10
theorem Q4m (f_:Fn) (r:Bool) (h:Q18 f_=some r):Contract Try.prog 154 [.rptr (f_.cells true)] (.val (.bool r)):=by
 refine Qk (rvs:=[.tmp 2]) (rs:=[.val (.bool r)]) Try.func154 rfl rfl rfl rfl (by simp [Try.f154]) fun F hN hP=>?_;unfold Q18 at h;refine Q5 ?_;refine runQ hN fun K hK=>?_;simp [-Q0,-Q6,-Q1,-Q7,-Q2];repeat refine sdQ ?_
 refine hK _ ?_;clear hK K;refine tn ?_;refine Q9 (st':=⟨[(0,.rptr (Fn.cells true f_))],[],0⟩) (wkQ8 []) ?_;refine Q5 ?_;refine runQ hN fun K hK=>?_;simp [-Q0,-Q6,-Q1,-Q7,-Q2];repeat refine sdQ ?_
 refine hK _ ?_;clear hK K;refine tn ?_;refine Q9 (st':=⟨[(0,.rptr (Fn.cells true f_)),(3,.rptr (Fn.cells true f_)),(4,.rptr [iV f_.t.n,lI f_.t.fr,lI f_.t.to,lI f_.t.id,.lst true 1 (Ls f_.t.cs),lI f_.ob,lI f_.ar])],[],0⟩) (wkQ8 []) ?_;refine Q5 ?_;refine Q5 ?_;replace h:=bind_some h;obtain ⟨e1,h,h1⟩:=h;refine Qj (fun b1:Bool=>⟨[(0,.rptr (Fn.cells true f_)),(3,.rptr (Fn.cells true f_)),(4,.rptr [iV f_.t.n,lI f_.t.fr,lI f_.t.to,lI f_.t.id,.lst true 1 (Ls f_.t.cs),lI f_.ob,lI f_.ar]),(60,.val (.bool b1))],[],0⟩) (fun b1=>b1=e1) ?_ ?_
 ·refine runQ hN fun K hK=>?_;simp [-Q0,-Q6,-Q1,-Q7,-Q2];repeat with_reducible refine sdQ ?_
  refine Ql (fun g=>?_) (fun g=>?_)
  ·have g2:¬ (¬ ((f_.ob.length:Int)=f_.s.n)):=gQ;clear g;replace h:=if_r g2 h;simp [-Q0,-Q6,-Q1,-Q7,-Q2];(repeat with_reducible refine sdQ ?_);replace h:=bind_some h;obtain ⟨v3,hv3,h⟩:=h;refine Q3 (Q16 _ v3 hv3) (.cons (.preT (by simp [Cat.cells,Fn.cells])) .nil) ?_;simp [-Q0,-Q6,-Q1,-Q7,-Q2,unk,unA,unE,unT,unC,flat];(repeat with_reducible refine sdQ ?_);refine Ql (fun g=>?_) (fun g=>?_)
   ·have g4:¬ (¬ ((f_.ar.length:Int)=v3)):=gQ;clear g;replace h:=if_r g4 h;simp [-Q0,-Q6,-Q1,-Q7,-Q2];(repeat with_reducible refine sdQ ?_);replace h:=bind_some h;obtain ⟨v5,hv5,h⟩:=h;refine Q3 (Q46 _ _ v5 hv5) (.cons .lst (.cons .val .nil)) ?_;simp [-Q0,-Q6,-Q1,-Q7,-Q2,unk,unA,unE,unT,unC,flat];(repeat with_reducible refine sdQ ?_);refine Ql (fun g=>?_) (fun g=>?_)
    ·have g6:¬ (¬ (v5=true)):=gQ;clear g;replace h:=if_r g6 h;simp [-Q0,-Q6,-Q1,-Q7,-Q2];(repeat with_reducible refine sdQ ?_);replace h:=bind_some h;obtain ⟨v7,hv7,h⟩:=h;refine Q3 (Q16 _ v7 hv7) (.cons (.preT (by simp [Cat.cells,Fn.cells])) .nil) ?_;simp [-Q0,-Q6,-Q1,-Q7,-Q2,unk,unA,unE,unT,unC,flat];(repeat with_reducible refine sdQ ?_);replace h:=bind_some h;obtain ⟨v8,hv8,h⟩:=h;refine Q3 (Q46 _ _ v8 hv8) (.cons .lst (.cons .val .nil)) ?_;simp [-Q0,-Q6,-Q1,-Q7,-Q2,unk,unA,unE,unT,unC,flat];(repeat refine sdQ ?_);refine hK _ ?_;exact jn (b:=!v8) (Option.some.inj h) (wkQ8 [])
    have g6:¬ (v5=true):=gQ;clear g;replace h:=if_l g6 h;simp [-Q0,-Q6,-Q1,-Q7,-Q2];(repeat refine sdQ ?_);refine hK _ ?_;exact jn (b:=true) (Option.some.inj h) (wkQ8 [])
   have g4:¬ ((f_.ar.length:Int)=v3):=gQ;clear g;replace h:=if_l g4 h;simp [-Q0,-Q6,-Q1,-Q7,-Q2];(repeat refine sdQ ?_);refine hK _ ?_;exact jn (b:=true) (Option.some.inj h) (wkQ8 [])
  have g2:¬ ((f_.ob.length:Int)=f_.s.n):=gQ;clear g;replace h:=if_l g2 h;simp [-Q0,-Q6,-Q1,-Q7,-Q2];repeat refine sdQ ?_
  refine hK _ ?_;exact jn (b:=true) (Option.some.inj h) (wkQ8 [])
 intro b1 hb1;have h:=h1;try rw [← hb1] at h
 clear h1;try dsimp only at h
 refine Qc rfl (fun g=>?_) fun g=>?_
 ·have g9:b1=true:=gQ;clear g;replace h:=if_l g9 h;refine Q5 ?_;refine runQ hN fun K hK=>?_;simp [-Q0,-Q6,-Q1,-Q7,-Q2];repeat refine sdQ ?_
  refine hK _ ?_;clear hK K;refine tn ?_;refine Q9 (st':=⟨[(2,.val (.bool false))],[],0⟩) (wkQ8 []) ?_;refine Qh ?_;refine tr ?_;have hr:=Option.some.inj h;rw [← hr];refine ⟨_,(.tmp .nil),?_⟩;refine ⟨(.one rfl rfl .nil),[.val (.bool false)],[],by simp [Cat.cells,Fn.cells,UA,U1,IA,I1,LA,L1,BA,B1,EA,E1,E2,eB,eI,eL],by simp,(UpL.refl _)⟩
 have g9:¬ (b1=true):=gQ;clear g;replace h:=if_r g9 h;refine Qd ?_;refine tn ?_;refine Q5 ?_;refine Q5 ?_;refine runQ hN fun K hK=>?_;simp [-Q0,-Q6,-Q1,-Q7,-Q2];repeat refine sdQ ?_
 refine hK _ ?_;clear hK K;refine tn ?_;refine Q9 (st':=⟨[(0,.rptr (Fn.cells true f_)),(3,.rptr (Fn.cells true f_)),(4,.rptr [iV f_.t.n,lI f_.t.fr,lI f_.t.to,lI f_.t.id,.lst true 1 (Ls f_.t.cs),lI f_.ob,lI f_.ar]),(64,lI f_.ar),(65,iV (f_.ar.length:Int)),(66,iV 0)],[],0⟩) (wkQ8 []) ?_;replace h:=bind_some h;obtain ⟨e10,h,h10⟩:=h;refine Qj (fun b10:Unit=>⟨[(0,.rptr (Fn.cells true f_)),(3,.rptr (Fn.cells true f_)),(4,.rptr [iV f_.t.n,lI f_.t.fr,lI f_.t.to,lI f_.t.id,.lst true 1 (Ls f_.t.cs),lI f_.ob,lI f_.ar])],[],0⟩) (fun b10=>Sum.inl b10=e10) ?_ ?_
 ·refine Qa ?_;refine Qr h (fun s23:Int=>⟨[(0,.rptr (Fn.cells true f_)),(3,.rptr (Fn.cells true f_)),(4,.rptr [iV f_.t.n,lI f_.t.fr,lI f_.t.to,lI f_.t.id,.lst true 1 (Ls f_.t.cs),lI f_.ob,lI f_.ar]),(64,lI f_.ar),(65,iV (f_.ar.length:Int)),(66,iV s23)],[],0⟩) (wkQ8 []) ?_;clear h;intro k23 s23 c23 h hk23;refine Q5 ?_;refine runQ hN fun K hK=>?_;simp [-Q0,-Q6,-Q1,-Q7,-Q2];repeat refine sdQ ?_
  refine hK _ ?_;clear hK K;refine tn ?_;refine Q9 (st':=⟨[(0,.rptr (Fn.cells true f_)),(3,.rptr (Fn.cells true f_)),(4,.rptr [iV f_.t.n,lI f_.t.fr,lI f_.t.to,lI f_.t.id,.lst true 1 (Ls f_.t.cs),lI f_.ob,lI f_.ar]),(64,lI f_.ar),(65,iV (f_.ar.length:Int)),(66,iV s23),(67,.val (.bool (decide (s23<(f_.ar.length:Int)))))],[],0⟩) (wkQ8 []) ?_;refine Q5 ?_;refine Qc rfl (fun g=>?_) fun g=>?_
  ·have g24:s23<(f_.ar.length:Int):=gQ;clear g;replace h:=if_l g24 h;refine Qd ?_;refine tn ?_;refine Q5 ?_;refine Qa ?_;refine Q5 ?_;refine runQ hN fun K hK=>?_;replace h:=Q4 h;obtain ⟨a25,h⟩:=h;simp [-Q0,-Q6,-Q1,-Q7,-Q2,at_I a25];(repeat refine sdQ ?_);refine hK _ ?_;clear hK K;refine tn ?_;refine Q9 (st':=⟨[(0,.rptr (Fn.cells true f_)),(3,.rptr (Fn.cells true f_)),(4,.rptr [iV f_.t.n,lI f_.t.fr,lI f_.t.to,lI f_.t.id,.lst true 1 (Ls f_.t.cs),lI f_.ob,lI f_.ar]),(5,iV s23),(6,iV (ix f_.ar s23)),(64,lI f_.ar),(65,iV (f_.ar.length:Int)),(66,iV s23)],[],0⟩) (wkQ8 []) ?_;refine Q5 ?_;replace h:=bind_some h;obtain ⟨e26,h,h26⟩:=h;refine Qj (fun b26:Bool=>⟨[(0,.rptr (Fn.cells true f_)),(3,.rptr (Fn.cells true f_)),(4,.rptr [iV f_.t.n,lI f_.t.fr,lI f_.t.to,lI f_.t.id,.lst true 1 (Ls f_.t.cs),lI f_.ob,lI f_.ar]),(64,lI f_.ar),(65,iV (f_.ar.length:Int)),(66,iV s23),(114,.val (.bool b26))],[],0⟩) (fun b26=>b26=e26) ?_ ?_
   ·refine runQ hN fun K hK=>?_;replace h:=Q4 h;obtain ⟨a27,h⟩:=h;replace h:=Q4 h;obtain ⟨a28,h⟩:=h;replace h:=Q4 h;obtain ⟨a29,h⟩:=h;simp [-Q0,-Q6,-Q1,-Q7,-Q2,at_I a27,at_I a28,at_I a29];(repeat with_reducible refine sdQ ?_);refine Ql (fun g=>?_) (fun g=>?_)
    ·have g30:¬ (¬ ((ix f_.t.fr (ix f_.ar s23))=(ix f_.ob (ix f_.s.fr s23)))):=gQ;clear g;replace h:=if_r g30 h;replace h:=Q4 h;obtain ⟨a31,h⟩:=h;replace h:=Q4 h;obtain ⟨a32,h⟩:=h;replace h:=Q4 h;obtain ⟨a33,h⟩:=h;simp [-Q0,-Q6,-Q1,-Q7,-Q2,at_I a27,at_I a28,at_I a29,at_I a31,at_I a32,at_I a33];(repeat refine sdQ ?_);refine hK _ ?_;exact jn (b:=(ix f_.t.to (ix f_.ar s23)) != (ix f_.ob (ix f_.s.to s23))) (Option.some.inj h) (wkQ8 [])
    have g30:¬ ((ix f_.t.fr (ix f_.ar s23))=(ix f_.ob (ix f_.s.fr s23))):=gQ;clear g;replace h:=if_l g30 h;simp [-Q0,-Q6,-Q1,-Q7,-Q2,at_I a27,at_I a28,at_I a29];(repeat refine sdQ ?_);refine hK _ ?_;exact jn (b:=true) (Option.some.inj h) (wkQ8 [])
   intro b26 hb26;have h:=h26;(try rw [← hb26] at h);clear h26;(try dsimp only at h);refine Qc rfl (fun g=>?_) fun g=>?_
   ·have g34:b26=true:=gQ;clear g;replace h:=if_l g34 h;refine Q5 ?_;refine runQ hN fun K hK=>?_;simp [-Q0,-Q6,-Q1,-Q7,-Q2];(repeat refine sdQ ?_);refine hK _ ?_;clear hK K;refine tn ?_;refine Q9 (st':=⟨[(2,.val (.bool false))],[],0⟩) (wkQ8 []) ?_;refine Qh ?_;refine br ?_;refine tr ?_;refine lr ?_;refine br ?_;refine tr ?_;cases h;have q:_=e10:=hk23;have h:=h10;rw [← q] at h;clear q;(try dsimp only at h);have hr:=Option.some.inj h;rw [← hr];refine ⟨_,(.tmp .nil),?_⟩;refine ⟨(.one rfl rfl .nil),[.val (.bool false)],[],by simp [Cat.cells,Fn.cells,UA,U1,IA,I1,LA,L1,BA,B1,EA,E1,E2,eB,eI,eL],by simp,(UpL.refl _)⟩
   have g34:¬ (b26=true):=gQ;clear g;replace h:=if_r g34 h;refine Qd ?_;refine bn ?_;refine tn ?_;refine runQ hN fun K hK=>?_;replace h:=Q4 h;obtain ⟨a35,h⟩:=h;simp [-Q0,-Q6,-Q1,-Q7,-Q2,Qo a35];(repeat refine sdQ ?_);refine hK _ ?_;clear hK K;cases h;exact rn (s':=s23+1) hk23 (wkQ8 [])
  have g24:¬ (s23<(f_.ar.length:Int)):=gQ;clear g;replace h:=if_r g24 h;refine Qm ?_;refine tx ?_;refine lx ?_;refine bh ?_;cases h;exact jn (b:=()) hk23 (wkQ8 [])
 intro b10 hb10;have h:=h10;try rw [← hb10] at h
 clear h10;try dsimp only at h
 refine Q5 ?_;refine Q5 ?_;refine runQ hN fun K hK=>?_;simp [-Q0,-Q6,-Q1,-Q7,-Q2];repeat refine sdQ ?_
 refine hK _ ?_;clear hK K;refine tn ?_;refine Q9 (st':=⟨[(0,.rptr (Fn.cells true f_)),(3,.rptr (Fn.cells true f_)),(4,.rptr [iV f_.t.n,lI f_.t.fr,lI f_.t.to,lI f_.t.id,.lst true 1 (Ls f_.t.cs),lI f_.ob,lI f_.ar]),(119,lI f_.s.id),(120,iV (f_.s.id.length:Int)),(121,iV 0)],[],0⟩) (wkQ8 []) ?_;replace h:=bind_some h;obtain ⟨e36,h,h36⟩:=h;refine Qj (fun b36:Unit=>⟨[(0,.rptr (Fn.cells true f_)),(3,.rptr (Fn.cells true f_)),(4,.rptr [iV f_.t.n,lI f_.t.fr,lI f_.t.to,lI f_.t.id,.lst true 1 (Ls f_.t.cs),lI f_.ob,lI f_.ar])],[],0⟩) (fun b36=>Sum.inl b36=e36) ?_ ?_
 ·refine Qa ?_;refine Qr h (fun s44:Int=>⟨[(0,.rptr (Fn.cells true f_)),(3,.rptr (Fn.cells true f_)),(4,.rptr [iV f_.t.n,lI f_.t.fr,lI f_.t.to,lI f_.t.id,.lst true 1 (Ls f_.t.cs),lI f_.ob,lI f_.ar]),(119,lI f_.s.id),(120,iV (f_.s.id.length:Int)),(121,iV s44)],[],0⟩) (wkQ8 []) ?_;clear h;intro k44 s44 c44 h hk44;refine Q5 ?_;refine runQ hN fun K hK=>?_;simp [-Q0,-Q6,-Q1,-Q7,-Q2];repeat refine sdQ ?_
  refine hK _ ?_;clear hK K;refine tn ?_;refine Q9 (st':=⟨[(0,.rptr (Fn.cells true f_)),(3,.rptr (Fn.cells true f_)),(4,.rptr [iV f_.t.n,lI f_.t.fr,lI f_.t.to,lI f_.t.id,.lst true 1 (Ls f_.t.cs),lI f_.ob,lI f_.ar]),(119,lI f_.s.id),(120,iV (f_.s.id.length:Int)),(121,iV s44),(122,.val (.bool (decide (s44<(f_.s.id.length:Int)))))],[],0⟩) (wkQ8 []) ?_;refine Q5 ?_;refine Qc rfl (fun g=>?_) fun g=>?_
  ·have g45:s44<(f_.s.id.length:Int):=gQ;clear g;replace h:=if_l g45 h;refine Qd ?_;refine tn ?_;refine Q5 ?_;refine Qa ?_;refine Q5 ?_;refine runQ hN fun K hK=>?_;replace h:=Q4 h;obtain ⟨a46,h⟩:=h;simp [-Q0,-Q6,-Q1,-Q7,-Q2,at_I a46];(repeat refine sdQ ?_);refine hK _ ?_;clear hK K;refine tn ?_;refine Q9 (st':=⟨[(0,.rptr (Fn.cells true f_)),(3,.rptr (Fn.cells true f_)),(4,.rptr [iV f_.t.n,lI f_.t.fr,lI f_.t.to,lI f_.t.id,.lst true 1 (Ls f_.t.cs),lI f_.ob,lI f_.ar]),(7,iV s44),(8,iV (ix f_.s.id s44)),(119,lI f_.s.id),(120,iV (f_.s.id.length:Int)),(121,iV s44)],[],0⟩) (wkQ8 []) ?_;refine Q5 ?_;refine runQ hN fun K hK=>?_;replace h:=Q4 h;obtain ⟨a47,h⟩:=h;replace h:=Q4 h;obtain ⟨a48,h⟩:=h;replace h:=Q4 h;obtain ⟨a49,h⟩:=h;simp [-Q0,-Q6,-Q1,-Q7,-Q2,at_I a47,at_I a48,at_I a49];(repeat refine sdQ ?_);refine hK _ ?_;clear hK K;refine tn ?_;refine Q9 (st':=⟨[(0,.rptr (Fn.cells true f_)),(3,.rptr (Fn.cells true f_)),(4,.rptr [iV f_.t.n,lI f_.t.fr,lI f_.t.to,lI f_.t.id,.lst true 1 (Ls f_.t.cs),lI f_.ob,lI f_.ar]),(119,lI f_.s.id),(120,iV (f_.s.id.length:Int)),(121,iV s44),(146,.val (.bool ((ix f_.ar (ix f_.s.id s44)) != (ix f_.t.id (ix f_.ob s44)))))],[],0⟩) (wkQ8 []) ?_;refine Qc rfl (fun g=>?_) fun g=>?_
   ·have g50:¬ ((ix f_.ar (ix f_.s.id s44))=(ix f_.t.id (ix f_.ob s44))):=gQ;clear g;replace h:=if_l g50 h;refine Q5 ?_;refine runQ hN fun K hK=>?_;simp [-Q0,-Q6,-Q1,-Q7,-Q2];(repeat refine sdQ ?_);refine hK _ ?_;clear hK K;refine tn ?_;refine Q9 (st':=⟨[(2,.val (.bool false))],[],0⟩) (wkQ8 []) ?_;refine Qh ?_;refine br ?_;refine tr ?_;refine lr ?_;refine br ?_;refine tr ?_;cases h;have q:_=e36:=hk44;have h:=h36;rw [← q] at h;clear q;(try dsimp only at h);have hr:=Option.some.inj h;rw [← hr];refine ⟨_,(.tmp .nil),?_⟩;refine ⟨(.one rfl rfl .nil),[.val (.bool false)],[],by simp [Cat.cells,Fn.cells,UA,U1,IA,I1,LA,L1,BA,B1,EA,E1,E2,eB,eI,eL],by simp,(UpL.refl _)⟩
   have g50:¬ (¬ ((ix f_.ar (ix f_.s.id s44))=(ix f_.t.id (ix f_.ob s44)))):=gQ;clear g;replace h:=if_r g50 h;refine Qd ?_;refine bn ?_;refine tn ?_;refine runQ hN fun K hK=>?_;replace h:=Q4 h;obtain ⟨a51,h⟩:=h;simp [-Q0,-Q6,-Q1,-Q7,-Q2,Qo a51];(repeat refine sdQ ?_);refine hK _ ?_;clear hK K;cases h;exact rn (s':=s44+1) hk44 (wkQ8 [])
  have g45:¬ (s44<(f_.s.id.length:Int)):=gQ;clear g;replace h:=if_r g45 h;refine Qm ?_;refine tx ?_;refine lx ?_;refine bh ?_;cases h;exact jn (b:=()) hk44 (wkQ8 [])
 intro b36 hb36;have h:=h36;try rw [← hb36] at h
 clear h36;try dsimp only at h
 refine Q5 ?_;refine Q5 ?_;refine runQ hN fun K hK=>?_;simp [-Q0,-Q6,-Q1,-Q7,-Q2];repeat refine sdQ ?_
 refine hK _ ?_;clear hK K;refine tn ?_;refine Q9 (st':=⟨[(0,.rptr (Fn.cells true f_)),(4,.rptr [iV f_.t.n,lI f_.t.fr,lI f_.t.to,lI f_.t.id,.lst true 1 (Ls f_.t.cs),lI f_.ob,lI f_.ar]),(151,.lst true 1 (Ls f_.s.cs)),(152,iV (f_.s.cs.length:Int)),(153,iV 0)],[],0⟩) (wkQ8 []) ?_;replace h:=bind_some h;obtain ⟨e52,h,h52⟩:=h;refine Qj (fun b52:Unit=>⟨[],[],0⟩) (fun b52=>Sum.inl b52=e52) ?_ ?_
 ·refine Qa ?_;refine Qr h (fun s78:Int=>⟨[(0,.rptr (Fn.cells true f_)),(4,.rptr [iV f_.t.n,lI f_.t.fr,lI f_.t.to,lI f_.t.id,.lst true 1 (Ls f_.t.cs),lI f_.ob,lI f_.ar]),(151,.lst true 1 (Ls f_.s.cs)),(152,iV (f_.s.cs.length:Int)),(153,iV s78)],[],0⟩) (wkQ8 []) ?_;clear h;intro k78 s78 c78 h hk78;refine Q5 ?_;refine runQ hN fun K hK=>?_;simp [-Q0,-Q6,-Q1,-Q7,-Q2];repeat refine sdQ ?_
  refine hK _ ?_;clear hK K;refine tn ?_;refine Q9 (st':=⟨[(0,.rptr (Fn.cells true f_)),(4,.rptr [iV f_.t.n,lI f_.t.fr,lI f_.t.to,lI f_.t.id,.lst true 1 (Ls f_.t.cs),lI f_.ob,lI f_.ar]),(151,.lst true 1 (Ls f_.s.cs)),(152,iV (f_.s.cs.length:Int)),(153,iV s78),(154,.val (.bool (decide (s78<(f_.s.cs.length:Int)))))],[],0⟩) (wkQ8 []) ?_;refine Q5 ?_;refine Qc rfl (fun g=>?_) fun g=>?_
  ·have g79:s78<(f_.s.cs.length:Int):=gQ;clear g;replace h:=if_l g79 h;refine Qd ?_;refine tn ?_;refine Q5 ?_;replace h:=bind_some h;obtain ⟨e80,h,h80⟩:=h;refine Qj (fun b80:Unit=>⟨[(0,.rptr (Fn.cells true f_)),(4,.rptr [iV f_.t.n,lI f_.t.fr,lI f_.t.to,lI f_.t.id,.lst true 1 (Ls f_.t.cs),lI f_.ob,lI f_.ar]),(151,.lst true 1 (Ls f_.s.cs)),(152,iV (f_.s.cs.length:Int)),(153,iV s78)],[],0⟩) (fun b80=>Sum.inl b80=e80) ?_ ?_
   ·refine Qa ?_;refine Q5 ?_;refine runQ hN fun K hK=>?_;replace h:=Q4 h;obtain ⟨a81,h⟩:=h;simp [-Q0,-Q6,-Q1,-Q7,-Q2,at_L a81];(repeat refine sdQ ?_);refine hK _ ?_;clear hK K;refine tn ?_;refine Q9 (st':=⟨[(0,.rptr (Fn.cells true f_)),(4,.rptr [iV f_.t.n,lI f_.t.fr,lI f_.t.to,lI f_.t.id,.lst true 1 (Ls f_.t.cs),lI f_.ob,lI f_.ar]),(9,iV s78),(10,lI (rx f_.s.cs s78)),(151,.lst true 1 (Ls f_.s.cs)),(152,iV (f_.s.cs.length:Int)),(153,iV s78)],[],0⟩) (wkQ8 []) ?_;refine Q5 ?_;refine runQ hN fun K hK=>?_;simp [-Q0,-Q6,-Q1,-Q7,-Q2];(repeat refine sdQ ?_);refine hK _ ?_;clear hK K;refine tn ?_;refine Q9 (st':=⟨[(0,.rptr (Fn.cells true f_)),(4,.rptr [iV f_.t.n,lI f_.t.fr,lI f_.t.to,lI f_.t.id,.lst true 1 (Ls f_.t.cs),lI f_.ob,lI f_.ar]),(9,iV s78),(151,.lst true 1 (Ls f_.s.cs)),(152,iV (f_.s.cs.length:Int)),(153,iV s78),(158,lI (rx f_.s.cs s78)),(159,iV ((rx f_.s.cs s78).length:Int)),(160,iV 0)],[],0⟩) (wkQ8 []) ?_;refine Qa ?_;replace h:=bind_some h;obtain ⟨e92,he92,h92⟩:=h;refine Qr he92 (fun s92:Int=>⟨[(0,.rptr (Fn.cells true f_)),(4,.rptr [iV f_.t.n,lI f_.t.fr,lI f_.t.to,lI f_.t.id,.lst true 1 (Ls f_.t.cs),lI f_.ob,lI f_.ar]),(9,iV s78),(151,.lst true 1 (Ls f_.s.cs)),(152,iV (f_.s.cs.length:Int)),(153,iV s78),(158,lI (rx f_.s.cs s78)),(159,iV ((rx f_.s.cs s78).length:Int)),(160,iV s92)],[],0⟩) (wkQ8 []) ?_;intro k92 s92 c92 h hk92;refine Q5 ?_;refine runQ hN fun K hK=>?_;simp [-Q0,-Q6,-Q1,-Q7,-Q2];(repeat refine sdQ ?_);refine hK _ ?_;clear hK K;refine tn ?_;refine Q9 (st':=⟨[(0,.rptr (Fn.cells true f_)),(4,.rptr [iV f_.t.n,lI f_.t.fr,lI f_.t.to,lI f_.t.id,.lst true 1 (Ls f_.t.cs),lI f_.ob,lI f_.ar]),(9,iV s78),(151,.lst true 1 (Ls f_.s.cs)),(152,iV (f_.s.cs.length:Int)),(153,iV s78),(158,lI (rx f_.s.cs s78)),(159,iV ((rx f_.s.cs s78).length:Int)),(160,iV s92),(161,.val (.bool (decide (s92<((rx f_.s.cs s78).length:Int)))))],[],0⟩) (wkQ8 []) ?_;refine Q5 ?_;refine Qc rfl (fun g=>?_) fun g=>?_
    ·have g93:s92<((rx f_.s.cs s78).length:Int):=gQ;clear g;replace h:=if_l g93 h;refine Qd ?_;refine tn ?_;refine Q5 ?_;refine Qa ?_;refine Q5 ?_;refine runQ hN fun K hK=>?_;replace h:=Q4 h;obtain ⟨a94,h⟩:=h;simp [-Q0,-Q6,-Q1,-Q7,-Q2,at_I a94];(repeat refine sdQ ?_);refine hK _ ?_;clear hK K;refine tn ?_;refine Q9 (st':=⟨[(0,.rptr (Fn.cells true f_)),(4,.rptr [iV f_.t.n,lI f_.t.fr,lI f_.t.to,lI f_.t.id,.lst true 1 (Ls f_.t.cs),lI f_.ob,lI f_.ar]),(9,iV s78),(11,iV s92),(12,iV (ix (rx f_.s.cs s78) s92)),(151,.lst true 1 (Ls f_.s.cs)),(152,iV (f_.s.cs.length:Int)),(153,iV s78),(158,lI (rx f_.s.cs s78)),(159,iV ((rx f_.s.cs s78).length:Int)),(160,iV s92)],[],0⟩) (wkQ8 []) ?_;refine Q5 ?_;replace h:=bind_some h;obtain ⟨e95,h,h95⟩:=h;refine Qj (fun b95:Bool=>⟨[(0,.rptr (Fn.cells true f_)),(4,.rptr [iV f_.t.n,lI f_.t.fr,lI f_.t.to,lI f_.t.id,.lst true 1 (Ls f_.t.cs),lI f_.ob,lI f_.ar]),(9,iV s78),(151,.lst true 1 (Ls f_.s.cs)),(152,iV (f_.s.cs.length:Int)),(153,iV s78),(158,lI (rx f_.s.cs s78)),(159,iV ((rx f_.s.cs s78).length:Int)),(160,iV s92),(192,.val (.bool b95))],[],0⟩) (fun b95=>b95=e95) ?_ ?_
     ·refine runQ hN fun K hK=>?_;simp [-Q0,-Q6,-Q1,-Q7,-Q2];(repeat with_reducible refine sdQ ?_);refine Ql (fun g=>?_) (fun g=>?_)
      ·have g96:(ix (rx f_.s.cs s78) s92) ≥ 0:=gQ;clear g;replace h:=if_l g96 h;replace h:=Q4 h;obtain ⟨a97,h⟩:=h;replace h:=Q4 h;obtain ⟨a98,h⟩:=h;replace h:=Q4 h;obtain ⟨a99,h⟩:=h;simp [-Q0,-Q6,-Q1,-Q7,-Q2,at_I a97,at_I a98,at_I a99];(repeat with_reducible refine sdQ ?_);replace h:=bind_some h;obtain ⟨v100,hv100,h⟩:=h;refine Q3 (Q45 _ _ _ v100 hv100) (.cons (.preT (by simp [Cat.cells,Fn.cells])) (.cons .val (.cons .val .nil))) ?_;simp [-Q0,-Q6,-Q1,-Q7,-Q2,unk,unA,unE,unT,unC,flat,at_I a97,at_I a98,at_I a99];(repeat refine sdQ ?_);refine hK _ ?_;exact jn (b:=(ix f_.ar (ix (rx f_.s.cs s78) s92)) != v100) (Option.some.inj h) (wkQ8 [])
      have g96:¬ ((ix (rx f_.s.cs s78) s92) ≥ 0):=gQ;clear g;replace h:=if_r g96 h;simp [-Q0,-Q6,-Q1,-Q7,-Q2];(repeat refine sdQ ?_);refine hK _ ?_;exact jn (b:=false) (Option.some.inj h) (wkQ8 [])
     intro b95 hb95;have h:=h95;(try rw [← hb95] at h);clear h95;(try dsimp only at h);refine Qc rfl (fun g=>?_) fun g=>?_
     ·have g101:b95=true:=gQ;clear g;replace h:=if_l g101 h;refine Q5 ?_;refine runQ hN fun K hK=>?_;simp [-Q0,-Q6,-Q1,-Q7,-Q2];(repeat refine sdQ ?_);refine hK _ ?_;clear hK K;refine tn ?_;refine Q9 (st':=⟨[(2,.val (.bool false))],[],0⟩) (wkQ8 []) ?_;refine Qh ?_;refine br ?_;refine tr ?_;refine lr ?_;refine br ?_;refine br ?_;refine tr ?_;refine lr ?_;refine br ?_;refine tr ?_;cases h;have q:_=e92:=hk92;have h:=h92;rw [← q] at h;clear q;(try dsimp only at h);cases h;have h:=h80;(try dsimp only at h);cases h;have q:_=e52:=hk78;have h:=h52;rw [← q] at h;clear q;(try dsimp only at h);have hr:=Option.some.inj h;rw [← hr];refine ⟨_,(.tmp .nil),?_⟩;refine ⟨(.one rfl rfl .nil),[.val (.bool false)],[],by simp [Cat.cells,Fn.cells,UA,U1,IA,I1,LA,L1,BA,B1,EA,E1,E2,eB,eI,eL],by simp,(UpL.refl _)⟩
     have g101:¬ (b95=true):=gQ;clear g;replace h:=if_r g101 h;refine Qd ?_;refine bn ?_;refine tn ?_;refine runQ hN fun K hK=>?_;replace h:=Q4 h;obtain ⟨a102,h⟩:=h;simp [-Q0,-Q6,-Q1,-Q7,-Q2,Qo a102];(repeat refine sdQ ?_);refine hK _ ?_;clear hK K;cases h;exact rn (s':=s92+1) hk92 (wkQ8 [])
    have g93:¬ (s92<((rx f_.s.cs s78).length:Int)):=gQ;clear g;replace h:=if_r g93 h;refine Qm ?_;refine tx ?_;refine lx ?_;refine bh ?_;refine bn ?_;cases h;have q:_=e92:=hk92;have h:=h92;rw [← q] at h;clear q;(try dsimp only at h);exact jn (b:=()) (Option.some.inj h) (wkQ8 [])
   intro b80 hb80;have h:=h80;(try rw [← hb80] at h);clear h80;(try dsimp only at h);refine runQ hN fun K hK=>?_;replace h:=Q4 h;obtain ⟨a103,h⟩:=h;simp [-Q0,-Q6,-Q1,-Q7,-Q2,Qo a103];(repeat refine sdQ ?_);refine hK _ ?_;clear hK K;cases h;exact rn (s':=s78+1) hk78 (wkQ8 [])
  have g79:¬ (s78<(f_.s.cs.length:Int)):=gQ;clear g;replace h:=if_r g79 h;refine Qm ?_;refine tx ?_;refine lx ?_;refine bh ?_;cases h;exact jn (b:=()) hk78 (wkQ8 [])
 intro b52 hb52;have h:=h52;try rw [← hb52] at h
 clear h52;try dsimp only at h
 refine Q5 ?_;refine runQ hN fun K hK=>?_;simp [-Q0,-Q6,-Q1,-Q7,-Q2];repeat refine sdQ ?_
 refine hK _ ?_;clear hK K;refine tn ?_;refine Q9 (st':=⟨[(2,.val (.bool true))],[],0⟩) (wkQ8 []) ?_;refine Qh ?_;have hr:=Option.some.inj h;rw [← hr];refine ⟨_,(.tmp .nil),?_⟩;refine ⟨(.one rfl rfl .nil),[.val (.bool true)],[],by simp [Cat.cells,Fn.cells,UA,U1,IA,I1,LA,L1,BA,B1,EA,E1,E2,eB,eI,eL],by simp,(UpL.refl _)⟩
attribute [local simp] eL eI QB Q1y Cat.cells
noncomputable def QO (list_:List Cat):Option Bool :=
 (Qx (σ:=Int) (ε:=Unit ⊕ Bool) (fun s7 =>
  if s7<(list_.length:Int) then
   ass (0≤s7∧s7<(list_.length:Int)) <|
   (QH (gx list_ s7)).bind fun v10 =>
   if ¬ (v10=true) then
    some (Ctl.ret (Sum.inr false))
   else
    ass (B64 (s7+1)) <|
    some (Ctl.next (s7+1))
  else
   some (Ctl.ret (Sum.inl ()))) fuel 0).bind fun e1 =>
 match e1 with
 | .inl b1 =>
  some true
 | .inr p1 =>
  some p1
theorem Q2H (list_:List Cat) (r:Bool) (h:QO list_=some r):Contract Try.prog 153 [.lst true 1 (Es Q1y list_)] (.val (.bool r)):=by
 refine Qk (rvs:=[.tmp 2]) (rs:=[.val (.bool r)]) Try.func153 rfl rfl rfl rfl (by simp [Try.f153]) fun F hN hP=>?_;unfold QO at h;refine Q5 ?_;refine runQ hN fun K hK=>?_;simp [-Q0,-Q6,-Q1,-Q7,-Q2];repeat refine sdQ ?_
 refine hK _ ?_;clear hK K;refine tn ?_;refine Q9 (st':=⟨[(0,.lst true 1 (Es Q1y list_))],[],0⟩) (wkQ8 []) ?_;refine Q5 ?_;refine Q5 ?_;refine runQ hN fun K hK=>?_;simp [-Q0,-Q6,-Q1,-Q7,-Q2];repeat refine sdQ ?_
 refine hK _ ?_;clear hK K;refine tn ?_;refine Q9 (st':=⟨[(5,.lst true 1 (Es Q1y list_)),(6,iV (list_.length:Int)),(7,iV 0)],[],0⟩) (wkQ8 []) ?_;replace h:=bind_some h;obtain ⟨e1,h,h1⟩:=h;refine Qj (fun b1:Unit=>⟨[],[],0⟩) (fun b1=>Sum.inl b1=e1) ?_ ?_
 ·refine Qa ?_;refine Qr h (fun s7:Int=>⟨[(5,.lst true 1 (Es Q1y list_)),(6,iV (list_.length:Int)),(7,iV s7)],[],0⟩) (wkQ8 []) ?_;clear h;intro k7 s7 c7 h hk7;refine Q5 ?_;refine runQ hN fun K hK=>?_;simp [-Q0,-Q6,-Q1,-Q7,-Q2];repeat refine sdQ ?_
  refine hK _ ?_;clear hK K;refine tn ?_;refine Q9 (st':=⟨[(5,.lst true 1 (Es Q1y list_)),(6,iV (list_.length:Int)),(7,iV s7),(8,.val (.bool (decide (s7<(list_.length:Int)))))],[],0⟩) (wkQ8 []) ?_;refine Q5 ?_;refine Qc rfl (fun g=>?_) fun g=>?_
  ·have g8:s7<(list_.length:Int):=gQ;clear g;replace h:=if_l g8 h;refine Qd ?_;refine tn ?_;refine Q5 ?_;refine Qa ?_;refine Q5 ?_;refine runQ hN fun K hK=>?_;replace h:=Q4 h;obtain ⟨a9,h⟩:=h;simp [-Q0,-Q6,-Q1,-Q7,-Q2,at_E (c:=Q1y) a9];(repeat refine sdQ ?_);refine hK _ ?_;clear hK K;refine tn ?_;refine Q9 (st':=⟨[(4,.rptr (Cat.cells true (gx list_ s7))),(5,.lst true 1 (Es Q1y list_)),(6,iV (list_.length:Int)),(7,iV s7)],[],0⟩) (wkQ8 []) ?_;refine Q5 ?_;refine runQ hN fun K hK=>?_;simp [-Q0,-Q6,-Q1,-Q7,-Q2];(repeat with_reducible refine sdQ ?_);replace h:=bind_some h;obtain ⟨v10,hv10,h⟩:=h;refine Q3 (Q2N _ v10 hv10) (.cons (.preT (by simp [Cat.cells])) .nil) ?_;simp [-Q0,-Q6,-Q1,-Q7,-Q2,unk,unA,unE,unT,unC,flat];(repeat refine sdQ ?_);refine hK _ ?_;clear hK K;refine tn ?_;refine Q9 (st':=⟨[(5,.lst true 1 (Es Q1y list_)),(6,iV (list_.length:Int)),(7,iV s7),(13,.val (.bool (!v10)))],[],0⟩) (wkQ8 []) ?_;refine Qc rfl (fun g=>?_) fun g=>?_
   ·have g11:¬ (v10=true):=gQ;clear g;replace h:=if_l g11 h;refine Q5 ?_;refine runQ hN fun K hK=>?_;simp [-Q0,-Q6,-Q1,-Q7,-Q2];(repeat refine sdQ ?_);refine hK _ ?_;clear hK K;refine tn ?_;refine Q9 (st':=⟨[(2,.val (.bool false))],[],0⟩) (wkQ8 []) ?_;refine Qh ?_;refine br ?_;refine tr ?_;refine lr ?_;refine br ?_;refine tr ?_;cases h;have q:_=e1:=hk7;have h:=h1;rw [← q] at h;clear q;(try dsimp only at h);have hr:=Option.some.inj h;rw [← hr];refine ⟨_,(.tmp .nil),?_⟩;refine ⟨(.one rfl rfl .nil),[.val (.bool false)],[],by simp [Cat.cells,UA,U1,IA,I1,LA,L1,BA,B1,EA,E1,E2,eB,eI,eL],by simp,(UpL.refl _)⟩
   have g11:¬ (¬ (v10=true)):=gQ;clear g;replace h:=if_r g11 h;refine Qd ?_;refine bn ?_;refine tn ?_;refine runQ hN fun K hK=>?_;replace h:=Q4 h;obtain ⟨a12,h⟩:=h;simp [-Q0,-Q6,-Q1,-Q7,-Q2,Qo a12];(repeat refine sdQ ?_);refine hK _ ?_;clear hK K;cases h;exact rn (s':=s7+1) hk7 (wkQ8 [])
  have g8:¬ (s7<(list_.length:Int)):=gQ;clear g;replace h:=if_r g8 h;refine Qm ?_;refine tx ?_;refine lx ?_;refine bh ?_;cases h;exact jn (b:=()) hk7 (wkQ8 [])
 intro b1 hb1;have h:=h1;try rw [← hb1] at h
 clear h1;try dsimp only at h
 refine Q5 ?_;refine runQ hN fun K hK=>?_;simp [-Q0,-Q6,-Q1,-Q7,-Q2];repeat refine sdQ ?_
 refine hK _ ?_;clear hK K;refine tn ?_;refine Q9 (st':=⟨[(2,.val (.bool true))],[],0⟩) (wkQ8 []) ?_;refine Qh ?_;have hr:=Option.some.inj h;rw [← hr];refine ⟨_,(.tmp .nil),?_⟩;refine ⟨(.one rfl rfl .nil),[.val (.bool true)],[],by simp [Cat.cells,UA,U1,IA,I1,LA,L1,BA,B1,EA,E1,E2,eB,eI,eL],by simp,(UpL.refl _)⟩
attribute [local simp] eL eI QB Q1y Q2v Cat.cells Fn.cells
noncomputable def QJ (f_:Fn):Option Bool :=
 (
  (QO [f_.s,f_.t]).bind fun v2 =>
  if v2=true then
   (Q18 f_).bind fun v4 =>
   some v4
  else
   some false:Option (Bool)).bind fun b1 =>
 some b1
theorem Q39 (f_:Fn) (r:Bool) (h:QJ f_=some r):Contract Try.prog 103 [.rptr (f_.cells true)] (.val (.bool r)):=by
 refine Qk (rvs:=[.tmp 2]) (rs:=[.val (.bool r)]) Try.func103 rfl rfl rfl rfl (by simp [Try.f103]) fun F hN hP=>?_;unfold QJ at h;refine Q5 ?_;refine runQ hN fun K hK=>?_;simp [-Q0,-Q6,-Q1,-Q7,-Q2];repeat refine sdQ ?_
 refine hK _ ?_;clear hK K;refine tn ?_;refine Q9 (st':=⟨[(0,.rptr (Fn.cells true f_))],[],0⟩) (wkQ8 []) ?_;refine Q5 ?_;replace h:=bind_some h;obtain ⟨e1,h,h1⟩:=h;refine Qj (fun b1:Bool=>⟨[(2,.val (.bool b1))],[],0⟩) (fun b1=>b1=e1) ?_ ?_
 ·refine runQ hN fun K hK=>?_;simp [-Q0,-Q6,-Q1,-Q7,-Q2];repeat with_reducible refine sdQ ?_
  replace h:=bind_some h;obtain ⟨v2,hv2,h⟩:=h;refine Q3 (Q2H _ v2 hv2) (.cons (.lits (es:=_) rfl (.cons rfl (.cons (.preT (by simp [Cat.cells,Fn.cells])) .nil) (.cons rfl (.cons (.preT (by simp [Cat.cells,Fn.cells])) .nil) .nil)) rfl) .nil) ?_;simp [-Q0,-Q6,-Q1,-Q7,-Q2,unk,unA,unE,unT,unC,flat];repeat with_reducible refine sdQ ?_
  refine Ql (fun g=>?_) (fun g=>?_)
  ·have g3:v2=true:=gQ;clear g;replace h:=if_l g3 h;simp [-Q0,-Q6,-Q1,-Q7,-Q2];(repeat with_reducible refine sdQ ?_);replace h:=bind_some h;obtain ⟨v4,hv4,h⟩:=h;refine Q3 (Q4m _ v4 hv4) (.cons (.preT (by simp [Cat.cells,Fn.cells])) .nil) ?_;simp [-Q0,-Q6,-Q1,-Q7,-Q2,unk,unA,unE,unT,unC,flat];(repeat refine sdQ ?_);refine hK _ ?_;exact jn (b:=v4) (Option.some.inj h) (wkQ8 [])
  have g3:¬ (v2=true):=gQ;clear g;replace h:=if_r g3 h;simp [-Q0,-Q6,-Q1,-Q7,-Q2];repeat refine sdQ ?_
  refine hK _ ?_;exact jn (b:=false) (Option.some.inj h) (wkQ8 [])
 intro b1 hb1;have h:=h1;try rw [← hb1] at h
 clear h1;try dsimp only at h
 refine Qh ?_;have hr:=Option.some.inj h;rw [← hr];refine ⟨_,(.tmp .nil),?_⟩;refine ⟨(.one rfl rfl .nil),[.val (.bool b1)],[],by simp [Cat.cells,Fn.cells,UA,U1,IA,I1,LA,L1,BA,B1,EA,E1,E2,eB,eI,eL],by simp,(UpL.refl _)⟩
attribute [local simp] eL eI QB Q2v Fn.cells
noncomputable def Q1e (list_:List Fn):Option Bool :=
 (Qx (σ:=Int) (ε:=Unit ⊕ Bool) (fun s7 =>
  if s7<(list_.length:Int) then
   ass (0≤s7∧s7<(list_.length:Int)) <|
   (QJ (gx list_ s7)).bind fun v10 =>
   if ¬ (v10=true) then
    some (Ctl.ret (Sum.inr false))
   else
    ass (B64 (s7+1)) <|
    some (Ctl.next (s7+1))
  else
   some (Ctl.ret (Sum.inl ()))) fuel 0).bind fun e1 =>
 match e1 with
 | .inl b1 =>
  some true
 | .inr p1 =>
  some p1
theorem Q4R (list_:List Fn) (r:Bool) (h:Q1e list_=some r):Contract Try.prog 77 [.lst true 1 (Es Q2v list_)] (.val (.bool r)):=by
 refine Qk (rvs:=[.tmp 2]) (rs:=[.val (.bool r)]) Try.func77 rfl rfl rfl rfl (by simp [Try.f77]) fun F hN hP=>?_;unfold Q1e at h;refine Q5 ?_;refine runQ hN fun K hK=>?_;simp [-Q0,-Q6,-Q1,-Q7,-Q2];repeat refine sdQ ?_
 refine hK _ ?_;clear hK K;refine tn ?_;refine Q9 (st':=⟨[(0,.lst true 1 (Es Q2v list_))],[],0⟩) (wkQ8 []) ?_;refine Q5 ?_;refine Q5 ?_;refine runQ hN fun K hK=>?_;simp [-Q0,-Q6,-Q1,-Q7,-Q2];repeat refine sdQ ?_
 refine hK _ ?_;clear hK K;refine tn ?_;refine Q9 (st':=⟨[(5,.lst true 1 (Es Q2v list_)),(6,iV (list_.length:Int)),(7,iV 0)],[],0⟩) (wkQ8 []) ?_;replace h:=bind_some h;obtain ⟨e1,h,h1⟩:=h;refine Qj (fun b1:Unit=>⟨[],[],0⟩) (fun b1=>Sum.inl b1=e1) ?_ ?_
 ·refine Qa ?_;refine Qr h (fun s7:Int=>⟨[(5,.lst true 1 (Es Q2v list_)),(6,iV (list_.length:Int)),(7,iV s7)],[],0⟩) (wkQ8 []) ?_;clear h;intro k7 s7 c7 h hk7;refine Q5 ?_;refine runQ hN fun K hK=>?_;simp [-Q0,-Q6,-Q1,-Q7,-Q2];repeat refine sdQ ?_
  refine hK _ ?_;clear hK K;refine tn ?_;refine Q9 (st':=⟨[(5,.lst true 1 (Es Q2v list_)),(6,iV (list_.length:Int)),(7,iV s7),(8,.val (.bool (decide (s7<(list_.length:Int)))))],[],0⟩) (wkQ8 []) ?_;refine Q5 ?_;refine Qc rfl (fun g=>?_) fun g=>?_
  ·have g8:s7<(list_.length:Int):=gQ;clear g;replace h:=if_l g8 h;refine Qd ?_;refine tn ?_;refine Q5 ?_;refine Qa ?_;refine Q5 ?_;refine runQ hN fun K hK=>?_;replace h:=Q4 h;obtain ⟨a9,h⟩:=h;simp [-Q0,-Q6,-Q1,-Q7,-Q2,at_E (c:=Q2v) a9];(repeat refine sdQ ?_);refine hK _ ?_;clear hK K;refine tn ?_;refine Q9 (st':=⟨[(4,.rptr (Fn.cells true (gx list_ s7))),(5,.lst true 1 (Es Q2v list_)),(6,iV (list_.length:Int)),(7,iV s7)],[],0⟩) (wkQ8 []) ?_;refine Q5 ?_;refine runQ hN fun K hK=>?_;simp [-Q0,-Q6,-Q1,-Q7,-Q2];(repeat with_reducible refine sdQ ?_);replace h:=bind_some h;obtain ⟨v10,hv10,h⟩:=h;refine Q3 (Q39 _ v10 hv10) (.cons (.preT (by simp [Fn.cells])) .nil) ?_;simp [-Q0,-Q6,-Q1,-Q7,-Q2,unk,unA,unE,unT,unC,flat];(repeat refine sdQ ?_);refine hK _ ?_;clear hK K;refine tn ?_;refine Q9 (st':=⟨[(5,.lst true 1 (Es Q2v list_)),(6,iV (list_.length:Int)),(7,iV s7),(13,.val (.bool (!v10)))],[],0⟩) (wkQ8 []) ?_;refine Qc rfl (fun g=>?_) fun g=>?_
   ·have g11:¬ (v10=true):=gQ;clear g;replace h:=if_l g11 h;refine Q5 ?_;refine runQ hN fun K hK=>?_;simp [-Q0,-Q6,-Q1,-Q7,-Q2];(repeat refine sdQ ?_);refine hK _ ?_;clear hK K;refine tn ?_;refine Q9 (st':=⟨[(2,.val (.bool false))],[],0⟩) (wkQ8 []) ?_;refine Qh ?_;refine br ?_;refine tr ?_;refine lr ?_;refine br ?_;refine tr ?_;cases h;have q:_=e1:=hk7;have h:=h1;rw [← q] at h;clear q;(try dsimp only at h);have hr:=Option.some.inj h;rw [← hr];refine ⟨_,(.tmp .nil),?_⟩;refine ⟨(.one rfl rfl .nil),[.val (.bool false)],[],by simp [Fn.cells,UA,U1,IA,I1,LA,L1,BA,B1,EA,E1,E2,eB,eI,eL],by simp,(UpL.refl _)⟩
   have g11:¬ (¬ (v10=true)):=gQ;clear g;replace h:=if_r g11 h;refine Qd ?_;refine bn ?_;refine tn ?_;refine runQ hN fun K hK=>?_;replace h:=Q4 h;obtain ⟨a12,h⟩:=h;simp [-Q0,-Q6,-Q1,-Q7,-Q2,Qo a12];(repeat refine sdQ ?_);refine hK _ ?_;clear hK K;cases h;exact rn (s':=s7+1) hk7 (wkQ8 [])
  have g8:¬ (s7<(list_.length:Int)):=gQ;clear g;replace h:=if_r g8 h;refine Qm ?_;refine tx ?_;refine lx ?_;refine bh ?_;cases h;exact jn (b:=()) hk7 (wkQ8 [])
 intro b1 hb1;have h:=h1;try rw [← hb1] at h
 clear h1;try dsimp only at h
 refine Q5 ?_;refine runQ hN fun K hK=>?_;simp [-Q0,-Q6,-Q1,-Q7,-Q2];repeat refine sdQ ?_
 refine hK _ ?_;clear hK K;refine tn ?_;refine Q9 (st':=⟨[(2,.val (.bool true))],[],0⟩) (wkQ8 []) ?_;refine Qh ?_;have hr:=Option.some.inj h;rw [← hr];refine ⟨_,(.tmp .nil),?_⟩;refine ⟨(.one rfl rfl .nil),[.val (.bool true)],[],by simp [Fn.cells,UA,U1,IA,I1,LA,L1,BA,B1,EA,E1,E2,eB,eI,eL],by simp,(UpL.refl _)⟩
structure Para (f g:Fn):Prop where
 hf:f.Is
 hg:g.Is
 s:f.s=g.s
 t:f.t=g.t
theorem e_Cthen {c:Cat} {f g:Int} (h0:0≤f∧f<(c.cs.length:Int)) (h1:0≤g∧g<((rx c.cs f).length:Int)):Q13 c f g=some (ix (rx c.cs f) g):=by
 unfold Q13;rw [Q8 h0.1,Q8 h0.2,Q8 h1.1,Q8 h1.2]
theorem e_fits {f:Fn} (h1:f.s.Is) (h2:f.t.Is):Q18 f=some (bo f.Is):=by
 have hs:=h1.1;have ht:=h2.1;have k0:=hs.n0;have k1:=hs.n8;have k2:=hs.m40;have k3:=hs.li;have k4:=hs.lt;have k5:=hs.lc;have k6:=ht.li;have k7:=ht.lt;have k8:=ht.lc;have k9:=ht.m40;have k10:=ht.n0;have k11:=ht.n8;have b1:B64 (f.t.n - 1):=⟨by omega,by omega⟩;have b2:B64 ((f.t.fr.length:Int) - 1):=⟨by omega,by omega⟩;unfold Q18
 by_cases h3:(f.ob.length:Int)=f.s.n
 case neg=>rw [Qg (show ¬ f.Is from fun q=>h3 q.lo)];simp [h3]
 by_cases h4:(f.ar.length:Int)=f.s.fr.length
 case neg=>rw [Qg (show ¬ f.Is from fun q=>h4 (by rw [q.la]))];simp [Qw,h3,h4]
 by_cases h5:f.ob.all (inR f.t.n)=true
 case neg=>rw [Qg (show ¬ f.Is from fun q=>h5 (all_inR.2 q.ob))];simp [Qw,Q1j,Q8 b1,h3,h4,h5]
 by_cases h6:f.ar.all (inR f.t.fr.length)=true
 case neg=>rw [Qg (show ¬ f.Is from fun q=>h6 (all_inR.2 q.ar))];simp [Qw,Q1j,Q8 b1,Q8 b2,h3,h4,h5,h6]
 have ho:=all_inR.1 h5;have ha:=all_inR.1 h6;simp only [Qw,Q1j,Q8 b1,Q8 b2,h3,h4,h5,h6,Option.bind_some,if_true,if_false,not_true_eq_false,Bool.not_true,Bool.false_eq_true];refine Q1o f.s.fr.length (fun a:Nat=>ix f.t.fr (ix f.ar a)=ix f.ob (ix f.s.fr a)∧ix f.t.to (ix f.ar a)=ix f.ob (ix f.s.to a)) (eb:=Sum.inr false) (eg:=Sum.inl ()) (by omega) (fun a hi hp=>?_) (fun a hi hp=>?_) (by simp) (fun hx=>?_) fun q1=>?_
 ·have:=hs.frn hi;have:=ha a (by omega);simp (disch:=omega) [Q8,B64,hp.1,hp.2,hi]
 ·have:=hs.frn hi;have:=ha a (by omega)
  by_cases hp1:ix f.t.fr (ix f.ar a)=ix f.ob (ix f.s.fr a)
  ·have hp2:¬ ix f.t.to (ix f.ar a)=ix f.ob (ix f.s.to a):=fun h=>hp ⟨hp1,h⟩;simp (disch:=omega) [Q8,B64,hp1,hp2,hi]
  simp (disch:=omega) [Q8,B64,hp1,hi]
 ·rw [Qg (show ¬ f.Is from fun q=>hx q.ends)]
 simp only;refine Q1o f.s.id.length (fun x:Nat=>ix f.ar (ix f.s.id x)=ix f.t.id (ix f.ob x)) (eb:=Sum.inr false) (eg:=Sum.inl ()) (by omega) (fun a hi hp=>?_) (fun a hi hp=>?_) (by simp) (fun hx=>?_) fun q2=>?_
 ·have:=hs.idn hi;have:=ho a (by omega);simp (disch:=omega) [Q8,B64,hp,hi]
 ·have:=hs.idn hi;have:=ho a (by omega);simp (disch:=omega) [Q8,B64,hp,hi]
 ·rw [Qg (show ¬ f.Is from fun q=>hx q.ids)]
 simp only;refine Q1o f.s.fr.length (fun a:Nat=>∀ b:Nat,b<f.s.fr.length→ix f.s.to a=ix f.s.fr b→ix f.ar (ix (rx f.s.cs a) b)=ix (rx f.t.cs (ix f.ar a)) (ix f.ar b)) (eb:=Sum.inr false) (eg:=Sum.inl ()) (by omega) (fun a hi hp=>?_) (fun a hi hp=>?_) (by simp;omega) (fun hx=>?_) fun q3=>?_;rotate_left 2
 ·rw [Qg (show ¬ f.Is from fun q=>hx q.comp)]
 ·rw [Qn (show f.Is from ⟨h1,h2,h3,by omega,ho,ha,q1,q2,q3⟩)]
 all_goals
  have h8:=ha a (by omega);have h11:=hs.row' (j:=a) (by omega) (by omega);have h12:=ht.row' (j:=ix f.ar a) (by omega) (by omega);rw [if_pos (by omega),Q8 (by omega),Option.bind_assoc];refine Q1o f.s.fr.length (fun b:Nat=>ix f.s.to a=ix f.s.fr b→ix f.ar (ix (rx f.s.cs a) b)=ix (rx f.t.cs (ix f.ar a)) (ix f.ar b)) (eb:=Sum.inl false) (eg:=Sum.inr ()) (by omega) (fun b hb hq=>?_) (fun b hb hq=>?_) ?_ (fun hn=>?_) fun hn=>?_
 all_goals first
  | exact absurd hp hn
  | exact absurd hn hp
  | (simp (disch:=omega) [Q8,B64,h11];done)
  | skip
 all_goals
  have h13:=ha b (by omega);have h16:=hs.cell' (f:=a) (g:=b) (by omega) (by omega) (by omega) (by omega)
  by_cases h14:ix f.s.to a=ix f.s.fr b
  ·have h15:=hs.cmp (f:=a) (g:=b) (by omega) (by omega) (by omega) (by omega) h14;have h17:ix (rx f.s.cs a) b ≥ 0:=h15.1;first
    | (have hq1:=hq h14;simp (disch:=omega) [Q8,B64,e_Cthen,h14,hq1,hb,h11,h17];done)
    | (have hq1:=fun e=>hq (fun _=>e);simp (disch:=omega) [Q8,B64,e_Cthen,h14,hq1,hb,h11,h17];exact hq1)
  have h17:=h16.1 h14;first
   | (simp (disch:=omega) [Q8,B64,h14,hb,h11,h17];done)
   | exact absurd (fun e=>absurd e h14) hq
theorem Q7u {α:Type} [Inhabited α] (xs:List α) {i:Nat} (h:i<xs.length):gx xs i=xs[i]:=by simp [gx,List.getD_eq_getElem?_getD,h]
theorem Q5W (cs:List Cat) (hl:cs.length≤1048576):QO cs=some (bo (∀ c∈cs,c.Is)):=by
 unfold QO;refine Q1o cs.length (fun i:Nat=>(gx cs i).Is) (eb:=Sum.inr false) (eg:=Sum.inl ()) (by omega) (fun a hi hp=>?_) (fun a hi hp=>?_) (by simp) (fun hx=>?_) fun q1=>?_
 ·simp (disch:=omega) [Q8,B64,QH,Qn hp,hi]
 ·simp (disch:=omega) [Q8,B64,QH,Qg hp,hi]
 ·rw [Qg (show ¬ ∀ c∈cs,c.Is from fun q=>hx fun i hi=>q _ (by rw [Q7u _ hi];exact List.getElem_mem hi))]
 rw [Qn (show ∀ c∈cs,c.Is from fun c hc=>by obtain ⟨i,hi,rfl⟩:=List.getElem_of_mem hc;have:=q1 i hi;rwa [Q7u _ hi] at this)]
theorem Q4z (f:Fn):QJ f=some (bo f.Is):=by
 unfold QJ;rw [Q5W _ (by simp)]
 by_cases h:f.s.Is∧f.t.Is
 ·rw [Qn (show ∀ c∈[f.s,f.t],c.Is by simpa using h)];simp [e_fits h.1 h.2]
 rw [Qg (show ¬ ∀ c∈[f.s,f.t],c.Is by simpa using h),Qg (show ¬ f.Is from fun q=>h ⟨q.s,q.t⟩)];simp
theorem Q5v (fs:List Fn) (hl:fs.length≤1048576):Q1e fs=some (bo (∀ f∈fs,f.Is)):=by
 unfold Q1e;refine Q1o fs.length (fun i:Nat=>(gx fs i).Is) (eb:=Sum.inr false) (eg:=Sum.inl ()) (by omega) (fun a hi hp=>?_) (fun a hi hp=>?_) (by simp) (fun hx=>?_) fun q1=>?_
 ·simp (disch:=omega) [Q8,B64,Q4z,Qn hp,hi]
 ·simp (disch:=omega) [Q8,B64,Q4z,Qg hp,hi]
 ·rw [Qg (show ¬ ∀ c∈fs,c.Is from fun q=>hx fun i hi=>q _ (by rw [Q7u _ hi];exact List.getElem_mem hi))]
 rw [Qn (show ∀ c∈fs,c.Is from fun c hc=>by obtain ⟨i,hi,rfl⟩:=List.getElem_of_mem hc;have:=q1 i hi;rwa [Q7u _ hi] at this)]
theorem Cat.Is.lcs {c:Cat} (h:c.Is):c.cs.length≤1048576:=by have:=h.1.lc;have:=h.1.m40;omega
theorem Q5Y {c d:Cat} (h:c.Is):QV c d=some (bo (c=d)):=by
 unfold QV;rw [Q8 h.lcs]
def tab {α:Type} (n:Nat) (g:Nat→α):List α:=(List.range n).map g
@[simp] theorem tab_length {α:Type} (n:Nat) (g:Nat→α):(tab n g).length=n:=by simp [tab]
theorem Q7O {α:Type} (n:Nat) (g:Nat→α):tab (n+1) g=tab n g++[g n]:=by simp [tab,List.range_succ]
theorem ix_tab (n:Nat) (g:Nat→Int) {i:Nat} (h:i<n):ix (tab n g) i=g i:=by
 rw [← Q1A _ _ (show i<(tab n g).length by simpa using h)];simp [tab]
theorem Cat.Is.size {c:Cat} (h:c.Is):c.size≤2000:=h.1.size2.2
theorem Cat.Is.two {c:Cat} (h:c.Is) {f g:Int} (f0:0≤f∧f<c.fr.length) (g0:0≤g∧g<c.fr.length) (e:ix c.to f=ix c.fr g):(0≤ix (rx c.cs f) g∧ix (rx c.cs f) g<c.fr.length)∧ix c.fr (ix (rx c.cs f) g)=ix c.fr f∧ix c.to (ix (rx c.cs f) g)=ix c.to g:=by
 have:=(h.1.cell' f0.1 f0.2 g0.1 g0.2).2 e;exact ⟨⟨this.1,this.2.1⟩,this.2.2⟩
end Go.Vc.T
