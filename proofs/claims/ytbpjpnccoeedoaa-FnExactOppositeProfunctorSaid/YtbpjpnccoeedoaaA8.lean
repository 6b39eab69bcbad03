/- A part of the proof: a verified generator of conditions, and what each function of the program does. -/
import Derived.Test.YtbpjpnccoeedoaaA7
set_option maxRecDepth 100000
set_option maxHeartbeats 4000000
set_option linter.unusedSimpArgs false
set_option linter.unusedVariables false

namespace Go.Vc.T
open Go Go.Vc Go.Proofs
def Es {α:Type} (c:α→List AV) (xs:List α):List (List AV):=xs.map c
def gx {α:Type} [Inhabited α] (xs:List α) (j:Int):α:=xs.getD j.toNat default
def eB (b:Bool):List AV:=[.val (.bool b)]
def eI (b:Int):List AV:=[iV b]
def eL (x:List (List Int)):List AV:=[.lst true 1 (Ls x)]
section
variable {α:Type} {c:α→List AV}
@[simp] theorem Es_length (xs:List α):(Es c xs).length=xs.length:=by simp [Es]
@[simp] theorem Es_nil:Es c []=[]:=rfl
theorem Es_append (xs ys:List α):Es c (xs++ys)=Es c xs++Es c ys:=by simp [Es]
theorem Es_set' (xs:List α) (i:Nat) (x:α):Es c (xs.set i x)=(Es c xs).set i (c x):=by simp [Es,List.map_set]
theorem at_E [Inhabited α] {xs:List α} {j:Int} (h:0≤j∧j<(xs.length:Int)):(Es c xs)[j.toNat]? = some (c (gx xs j)):=by
 have h2:j.toNat<xs.length:=by omega
 simp [Es,gx,List.getD_eq_getElem?_getD,h2]
end
@[simp] theorem Ls_nil':Ls []=[]:=rfl
theorem Ls_append (xs ys:List (List Int)):Ls (xs++ys)=Ls xs++Ls ys:=by simp [Ls]
@[simp] theorem Ls_rep0 (n:Nat):Ls (List.replicate n [])=List.replicate n [AV.lst true 1 []]:=by simp [Ls]
theorem at_I {xs:List Int} {j:Int} (h:0≤j∧j<(xs.length:Int)):(Is xs)[j.toNat]? = some [iV (ix xs j)]:=by
 have h2:j.toNat<xs.length:=by omega
 simp [Is,ix,List.getD_eq_getElem?_getD,h2]
theorem at_L {xs:List (List Int)} {j:Int} (h:0≤j∧j<(xs.length:Int)):(Ls xs)[j.toNat]? = some [lI (rx xs j)]:=by
 have h2:j.toNat<xs.length:=by omega
 simp [Ls,rx,List.getD_eq_getElem?_getD,h2]
@[simp] theorem Is_takeE (xs:List Int) (k:Nat):List.take k (Is xs)=Is (xs.take k):=by simp [Is,List.map_take]
@[simp] theorem Ls_takeA (xs:List (List Int)):List.take xs.length (Ls xs)=Ls xs:=List.take_of_length_le (by simp)
@[simp] theorem u8_min:IntKind.u8.min=0:=rfl
@[simp] theorem u8_max:IntKind.u8.max=255:=rfl
@[simp] theorem Es_takeA {α:Type} {c:α→List AV} (xs:List α):List.take xs.length (Es c xs)=Es c xs:=List.take_of_length_le (by simp)
@[simp] theorem Bs_nil':Bs []=[]:=rfl
theorem Bs_append (xs ys:List Bool):Bs (xs++ys)=Bs xs++Bs ys:=by simp [Bs]
theorem IA (xs ys:List Int):Is (xs++ys)=Is xs++Is ys:=Is_append xs ys
theorem I1 (x:Int) (xs:List Int):Is (x :: xs)=[iV x] :: Is xs:=rfl
theorem LA (xs ys:List (List Int)):Ls (xs++ys)=Ls xs++Ls ys:=Ls_append xs ys
theorem L1 (x:List Int) (xs:List (List Int)):Ls (x :: xs)=[lI x] :: Ls xs:=rfl
theorem BA (xs ys:List Bool):Bs (xs++ys)=Bs xs++Bs ys:=Bs_append xs ys
theorem B1 (x:Bool) (xs:List Bool):Bs (x :: xs)=[.val (.bool x)] :: Bs xs:=rfl
theorem EA {α:Type} {c:α→List AV} (xs ys:List α):Es c (xs++ys)=Es c xs++Es c ys:=Es_append xs ys
theorem E1 {α:Type} {c:α→List AV} (x:α) (xs:List α):Es c (x :: xs)=c x :: Es c xs:=rfl
theorem E2 {α:Type} {c:α→List AV} (xs:List α) (i:Nat) (x:α):Es c (xs.set i x)=(Es c xs).set i (c x):=Es_set' xs i x
@[simp] theorem Es_rep0 (n:Nat):Es eL (List.replicate n [])=List.replicate n [AV.lst true 1 []]:=by simp [Es,eL]
theorem Ls_st {xss:List (List Int)} {i:Nat} {x:List Int}:(Ls xss).set i (((Ls xss).getD i []).set 0 (lI x))=Ls (xss.set i x):=by
 by_cases h:i<xss.length
 ·rw [← Ls_set];congr 1;simp [Ls,List.getD_eq_getElem?_getD,h]
 rw [List.set_eq_of_length_le (by simp;omega),List.set_eq_of_length_le (by omega)]
theorem Es_st {α:Type} {c:α→List AV} {xs:List α} {i:Nat} {x:α} {b:AV} (h1:∀ y,(c y).length=1) (h2:c x=[b]):(Es c xs).set i (((Es c xs).getD i []).set 0 b)=Es c (xs.set i x):=by
 by_cases h:i<xs.length
 ·rw [Es_set',h2];congr 1;have h3:=h1 xs[i];simp only [Es,List.getD_eq_getElem?_getD,List.getElem?_map,List.getElem?_eq_getElem h,Option.map_some,Option.getD_some]
  match c xs[i],h3 with
  | [a],_=>rfl
 rw [List.set_eq_of_length_le (by simp;omega),List.set_eq_of_length_le (by omega)]
def Q1o (x:Cat):List AV:=[.rptr (x.cells true)]
instance:Inhabited Cat:=⟨⟨0,[],[],[],[]⟩⟩
structure Ends where
 a:Int
 b:Int
def Ends.cells (u:Bool) (f:Ends):List AV:=[iV f.a,iV f.b]
structure Prf where
 s:Cat
 t:Cat
 sz:List (List Int)
 bf:List (List (List Int))
 bh:List (List (List Int))
def Prf.cells (u:Bool) (f:Prf):List AV:=[iV f.s.n,.lst u 1 (Is f.s.fr),.lst u 1 (Is f.s.to),.lst u 1 (Is f.s.id),.lst u 1 (Ls f.s.cs),iV f.t.n,.lst u 1 (Is f.t.fr),.lst u 1 (Is f.t.to),.lst u 1 (Is f.t.id),.lst u 1 (Ls f.t.cs),.lst u 1 (Ls f.sz),.lst u 1 (Es eL f.bf),.lst u 1 (Es eL f.bh)]
instance:Inhabited Prf:=⟨⟨default,default,default,default,default⟩⟩
def Q23 (x:Prf):List AV:=[.rptr (x.cells true)]
structure XTerm where
 variable_:Int
 arrow_:Int
def XTerm.cells (u:Bool) (f:XTerm):List AV:=[iV f.variable_,iV f.arrow_]
structure XQuery where
 variables_:List Int
 left_:List XTerm
 right_:List XTerm
 output_:List Int
def XQuery.cells (u:Bool) (f:XQuery):List AV:=[.lst u 1 (Is f.variables_),.lst u 2 (Es (XTerm.cells true) f.left_),.lst u 2 (Es (XTerm.cells true) f.right_),.lst u 1 (Is f.output_)]
structure XL20Space where
 c_:Cat
 objects_:List (List Int)
 arrows_:List (List Int)
def XL20Space.cells (u:Bool) (f:XL20Space):List AV:=[iV f.c_.n,.lst u 1 (Is f.c_.fr),.lst u 1 (Is f.c_.to),.lst u 1 (Is f.c_.id),.lst u 1 (Ls f.c_.cs),.lst u 1 (Ls f.objects_),.lst u 1 (Ls f.arrows_)]
structure XPairint64 where
 first_:Int
 second_:Int
def XPairint64.cells (u:Bool) (f:XPairint64):List AV:=[iV f.first_,iV f.second_]
structure XTotal where
 category_:Cat
 objects_:List (List Int)
 arrows_:List (List Int)
def XTotal.cells (u:Bool) (f:XTotal):List AV:=[iV f.category_.n,.lst u 1 (Is f.category_.fr),.lst u 1 (Is f.category_.to),.lst u 1 (Is f.category_.id),.lst u 1 (Ls f.category_.cs),.lst u 1 (Ls f.objects_),.lst u 1 (Ls f.arrows_)]
@[simp] theorem ef_26:elm Try.prog 26=some 23:=by kernel_rfl
@[simp] theorem ef_223:elm Try.prog 223=some 101:=by kernel_rfl
@[simp] theorem ff_28_0:fld Try.prog 28 0=some (0,5,true):=by kernel_rfl
@[simp] theorem ff_28_1:fld Try.prog 28 1=some (5,5,true):=by kernel_rfl
@[simp] theorem ff_28_2:fld Try.prog 28 2=some (10,1,false):=by kernel_rfl
@[simp] theorem ff_28_3:fld Try.prog 28 3=some (11,1,false):=by kernel_rfl
@[simp] theorem ff_28_4:fld Try.prog 28 4=some (12,1,false):=by kernel_rfl
@[simp] theorem ff_32_0:fld Try.prog 32 0=some (0,5,true):=by kernel_rfl
@[simp] theorem ff_32_1:fld Try.prog 32 1=some (5,5,true):=by kernel_rfl
@[simp] theorem ff_32_2:fld Try.prog 32 2=some (10,1,false):=by kernel_rfl
@[simp] theorem ff_32_3:fld Try.prog 32 3=some (11,1,false):=by kernel_rfl
@[simp] theorem ff_32_4:fld Try.prog 32 4=some (12,1,false):=by kernel_rfl
@[simp] theorem pf_32:Q40 Try.prog 32=some [(0,5),(5,5),(10,1),(11,1),(12,1)]:=by kernel_rfl
@[simp] theorem tf_22:tyi Try.prog 22=some ⟨false,1,24,[.slice none 0 0]⟩:=by kernel_rfl
@[simp] theorem tf_23:tyi Try.prog 23=some ⟨false,1,24,[.slice none 0 0]⟩:=by kernel_rfl
@[simp] theorem tf_26:tyi Try.prog 26=some ⟨false,1,24,[.slice none 0 0]⟩:=by kernel_rfl
@[simp] theorem tf_30:tyi Try.prog 30=some ⟨true,5,104,[.int .i64 0,.slice none 0 0,.slice none 0 0,.slice none 0 0,.slice none 0 0]⟩:=by kernel_rfl
@[simp] theorem Q6e:tyi Try.prog 32=some ⟨true,13,280,[.int .i64 0,.slice none 0 0,.slice none 0 0,.slice none 0 0,.slice none 0 0,.int .i64 0,.slice none 0 0,.slice none 0 0,.slice none 0 0,.slice none 0 0,.slice none 0 0,.slice none 0 0,.slice none 0 0]⟩:=by kernel_rfl
@[simp] theorem tf_101:tyi Try.prog 101=some ⟨false,1,8,[.pointer none]⟩:=by kernel_rfl
noncomputable def Q2i (xs:List Int) (ys:List Int):Option (Bool) :=
 some ((decide (xs=ys)))
theorem Q6h (xs:List Int) (ys:List Int) (r:Bool) (h:Q2i xs ys=some r):Contract Try.prog 49 [lI xs,lI ys] (.val (.bool r)):=by
 unfold Q2i at h;cases h;exact c29 true true xs ys
noncomputable def Q3a (xs:List Int) (n:Int):Option (Bool) :=
 ass (B64 (n - 1)) <| some ((xs.all (inR n)))
theorem Q8a (xs:List Int) (n:Int) (r:Bool) (h:Q3a xs n=some r):Contract Try.prog 186 [lI xs,iV n] (.val (.bool r)):=by
 unfold Q3a at h;replace h:=Q4 h;obtain ⟨hn,h⟩:=h;cases h;exact c22 true xs n hn
noncomputable def Q1E (xs:List Int) (k:Int):Option (Int) :=
 ass (xs.length≤1048576) <| ass (0≤k) <| ass (k≤1152921504606846976) <| some ((held k xs))
theorem Q4P (xs:List Int) (k:Int) (r:Int) (h:Q1E xs k=some r):Contract Try.prog 55 [lI xs,iV k] (iV r):=by
 unfold Q1E at h;replace h:=Q4 h;obtain ⟨h1,h⟩:=h;replace h:=Q4 h;obtain ⟨h2,h⟩:=h;replace h:=Q4 h;obtain ⟨h3,h⟩:=h;cases h;exact c53 true xs k h1 h2 h3
noncomputable def Q1Y (xss:List (List Int)):Option (List (List Int)) :=
 ass (xss.length≤1048576) <| ass (∀ xs∈xss,xs.length≤1048576) <| some (xss)
theorem Q5A (xss:List (List Int)) (r:List (List Int)) (h:Q1Y xss=some r):Contract Try.prog 60 [.lst true 1 (Ls xss)] (.lst true 1 (Ls r)):=by
 unfold Q1Y at h;replace h:=Q4 h;obtain ⟨hx,h⟩:=h;replace h:=Q4 h;obtain ⟨hx',h⟩:=h;cases h;exact c20 true xss hx hx'
noncomputable def Q1X (xss:List (List Int)) (l:Int):Option (Int) :=
 ass (0≤l) <| ass (l≤1048576) <| some ((Q11 l xss))
theorem Q5z (xss:List (List Int)) (l:Int) (r:Int) (h:Q1X xss l=some r):Contract Try.prog 56 [.lst true 1 (Ls xss),iV l] (iV r):=by
 unfold Q1X at h;replace h:=Q4 h;obtain ⟨h1,h⟩:=h;replace h:=Q4 h;obtain ⟨h2,h⟩:=h;cases h;exact c15 true xss l h1 h2
noncomputable def Q3C (x:Int) (a:Int) (b:Int):Option (Bool) :=
 some ((decide (a≤x) && decide (x≤b)))
theorem w_s_l01In (x:Int) (a:Int) (b:Int) (r:Bool) (h:Q3C x a b=some r):Contract Try.prog 182 [iV x,iV a,iV b] (.val (.bool r)):=by
 unfold Q3C at h;cases h;exact c56 x a b
noncomputable def Q1Z (n:Int) (xs:List Int):Option (Bool) :=
 some ((xs.all (inR n)))
theorem Q5c (n:Int) (xs:List Int) (r:Bool) (h:Q1Z n xs=some r):Contract Try.prog 130 [iV n,lI xs] (.val (.bool r)):=by
 unfold Q1Z at h;cases h;exact c57 true xs n
noncomputable def Q20 (xs:List Int):Option (List Int) :=
 ass (xs.length≤1048576) <| some (xs)
theorem Q3T (xs:List Int) (r:List Int) (h:Q20 xs=some r):Contract Try.prog 134 [lI xs] (lI r):=by
 unfold Q20 at h;replace h:=Q4 h;obtain ⟨hx,h⟩:=h;cases h;exact c58 true xs hx
noncomputable def Q18 (xs:List Int):Option (List Int) :=
 ass (xs.length≤1048576) <| some (xs)
theorem Q33 (xs:List Int) (r:List Int) (h:Q18 xs=some r):Contract Try.prog 67 [lI xs] (lI r):=by
 unfold Q18 at h;replace h:=Q4 h;obtain ⟨hx,h⟩:=h;cases h;exact c47 true xs hx
noncomputable def Q2G (xs:List (List Int)):Option (List (List Int)) :=
 ass (xs.length≤1048576) <| ass (∀ x∈xs,x.length≤1048576) <| some (xs)
theorem Q6X (xs:List (List Int)) (r:List (List Int)) (h:Q2G xs=some r):Contract Try.prog 185 [.lst true 1 (Ls xs)] (.lst true 1 (Ls r)):=by
 unfold Q2G at h;replace h:=Q4 h;obtain ⟨hx,h⟩:=h;replace h:=Q4 h;obtain ⟨hx',h⟩:=h;cases h;exact c59 true xs hx hx'
noncomputable def QD (c:Cat):Option (Int) :=
 some (c.fr.length)
theorem Q1g (c:Cat) (r:Int) (h:QD c=some r):Contract Try.prog 143 [.rptr (c.cells true)] (iV r):=by
 unfold QD at h;cases h;have q:=c61 true c [];simp only [List.append_nil] at q;exact q
noncomputable def Q1x (xs:List Int) (m:Int) (n:Int):Option (Bool) :=
 ass (B64 (n - 1)) <| some ((decide ((xs.length:Int)=m) && xs.all (inR n)))
theorem Q4D (xs:List Int) (m:Int) (n:Int) (r:Bool) (h:Q1x xs m n=some r):Contract Try.prog 187 [lI xs,iV m,iV n] (.val (.bool r)):=by
 unfold Q1x at h;replace h:=Q4 h;obtain ⟨hn,h⟩:=h;cases h;exact c62 true xs m n hn
noncomputable def QV (c:Cat):Option (Cat) :=
 ass (c.ok) <| some (c)
theorem Q2y (c:Cat) (r:Cat) (h:QV c=some r):Contract Try.prog 129 [.rptr (c.cells true)] (.agg (r.cells true)):=by
 unfold QV at h;replace h:=Q4 h;obtain ⟨hc,h⟩:=h;cases h;have q:=c23 true c [] hc;simp only [List.append_nil] at q;exact q
noncomputable def Q15 (c:Cat) (f:Int) (g:Int):Option (Int) :=
 ass (0≤f) <| ass (f<c.cs.length) <| ass (0≤g) <| ass (g<(rx c.cs f).length) <| some ((ix (rx c.cs f) g))
theorem Q3R (c:Cat) (f:Int) (g:Int) (r:Int) (h:Q15 c f g=some r):Contract Try.prog 128 [.rptr (c.cells true),iV f,iV g] (iV r):=by
 unfold Q15 at h;replace h:=Q4 h;obtain ⟨h1,h⟩:=h;replace h:=Q4 h;obtain ⟨h2,h⟩:=h;replace h:=Q4 h;obtain ⟨h3,h⟩:=h;replace h:=Q4 h;obtain ⟨h4,h⟩:=h;cases h;have q:=c69 true c [] f g h1 h2 h3 h4;simp only [List.append_nil] at q;exact q
noncomputable def Q2Y (c:Cat):Option (Bool) :=
 some ((bo c.Is))
theorem Q6i (c:Cat) (r:Bool) (h:Q2Y c=some r):Contract Try.prog 116 [.agg (c.cells true)] (.val (.bool r)):=by
 unfold Q2Y at h;cases h;exact c55 true c
noncomputable def QE (c:Cat):Option (Bool) :=
 some ((bo c.Is))
theorem Q2H (c:Cat) (r:Bool) (h:QE c=some r):Contract Try.prog 142 [.rptr (c.cells true)] (.val (.bool r)):=by
 unfold QE at h;cases h;have q:=c60 true c [];simp only [List.append_nil] at q;exact q
noncomputable def Q14 (xs:List Int) (ys:List Int):Option (Bool) :=
 some ((decide (xs=ys)))
theorem Q3t (xs:List Int) (ys:List Int) (r:Bool) (h:Q14 xs ys=some r):Contract Try.prog 131 [lI xs,lI ys] (.val (.bool r)):=by
 unfold Q14 at h;cases h;exact n54 true true xs ys
noncomputable def QH (f:List Int) (g:List Int):Option (List Int) :=
 ass (f.length≤1048576) <| ass (∀ y∈f,0≤y∧y<(g.length:Int)) <| some ((QO f g))
theorem Q2I (f:List Int) (g:List Int) (r:List Int) (h:QH f g=some r):Contract Try.prog 184 [lI f,lI g] (lI r):=by
 unfold QH at h;replace h:=Q4 h;obtain ⟨hx,h⟩:=h;replace h:=Q4 h;obtain ⟨hg,h⟩:=h;cases h;exact n58 true true f g hx hg
noncomputable def Q1c (f:List Int) (g:List Int):Option (List Int) :=
 ass (f.length≤1048576) <| ass (∀ y∈f,0≤y∧y<(g.length:Int)) <| some ((QO f g))
theorem Q4i (f:List Int) (g:List Int) (r:List Int) (h:Q1c f g=some r):Contract Try.prog 124 [lI f,lI g] (lI r):=by
 unfold Q1c at h;replace h:=Q4 h;obtain ⟨hx,h⟩:=h;replace h:=Q4 h;obtain ⟨hg,h⟩:=h;cases h;exact n65 true true f g hx hg
noncomputable def Q1p (xs:List Int) (ys:List Int):Option (Bool) :=
 some ((decide (xs=ys)))
theorem Q3F (xs:List Int) (ys:List Int) (r:Bool) (h:Q1p xs ys=some r):Contract Try.prog 125 [lI xs,lI ys] (.val (.bool r)):=by
 unfold Q1p at h;cases h;exact n62 true true xs ys
@[simp] theorem ass_true {α:Type} {k:Option α}:ass True k=k:=Q6 trivial
theorem Qq {p:Prop} (h:p):bo p=true:=by simp [bo,h]
theorem Qh {p:Prop} (h:¬ p):bo p=false:=by simp [bo,h]
theorem Q3H {p q:Prop} (h:p↔q):bo p=bo q:=by simp [bo,h]
theorem loop_go {σ ε:Type} {body:σ→Option (Ctl σ ε)} (g:Nat→σ) (m:Nat):∀ (k:Nat),m≤k→(∀ i,i<m→body (g i)=some (.next (g (i+1))))→Qx body k (g 0)=Qx body (k - m) (g m):=by
 induction m with
 | zero=>intro k _ _;rfl
 | succ m ih =>
  intro k hk h;rw [ih k (by omega) fun i hi=>h i (by omega)];obtain ⟨j,hj⟩:∃ j,k - m=j+1:=⟨k - m - 1,by omega⟩;rw [hj,show k - (m+1)=j by omega];simp only [Qx,h m (by omega)]
theorem Q4e {σ ε:Type} {body:σ→Option (Ctl σ ε)} (g:Nat→σ) (n:Nat) {e:ε} {s0:σ} (h0:s0=g 0) (hn:n<4611686018427387904) (h:∀ i,i<n→body (g i)=some (.next (g (i+1)))) (he:body (g n)=some (.ret e)):Qx body fuel s0=some e:=by
 subst h0;rw [loop_go g n fuel (by unfold fuel;omega) h];obtain ⟨j,hj⟩:∃ j,fuel - n=j+1:=⟨fuel - n - 1,by unfold fuel;omega⟩;rw [hj];simp only [Qx,he]
theorem Q7j {ε:Type} {body:Int→Option (Ctl Int ε)} (n:Nat) (p:Nat→Prop) {eb eg:ε} (hn:n<4611686018427387904) (h1:∀ i:Nat,i<n→p i→body (i:Int)=some (.next ((i:Int)+1))) (h2:∀ i:Nat,i<n→¬ p i→body (i:Int)=some (.ret eb)) (h3:body (n:Int)=some (.ret eg)) :
  Qx body fuel 0=some (@ite _ (∀ i:Nat,i<n→p i) (Classical.propDecidable _) eg eb):=by
 by_cases hall:∀ i:Nat,i<n→p i
 ·rw [if_pos hall];exact Q4e (fun i:Nat=>(i:Int)) n rfl hn (fun i hi=>h1 i hi (hall i hi)) h3
 rw [if_neg hall];have hex:∃ i,i<n∧¬ p i:=Classical.byContradiction fun hx=>hall fun i hi=>Classical.byContradiction fun hp=>hx ⟨i,hi,hp⟩;obtain ⟨m,⟨hm,hp⟩,hmin⟩:∃ m,(m<n∧¬ p m)∧∀ k,k<m→¬ (k<n∧¬ p k):=by
  obtain ⟨i,hi⟩:=hex
  induction i using Nat.strongRecOn with
  | _ i ih =>
   by_cases h:∃ k,k<i∧k<n∧¬ p k
   ·obtain ⟨k,h1,h2⟩:=h;exact ih k h1 h2
   exact ⟨i,hi,fun k hk hh=>h ⟨k,hk,hh⟩⟩
 exact Q4e (fun i:Nat=>(i:Int)) m rfl (by omega) (fun i hi=>h1 i (by omega) (Classical.byContradiction fun hh=>hmin i hi ⟨by omega,hh⟩)) (h2 m hm hp)
theorem loop_acc {α ε:Type} {body:α × Int→Option (Ctl (α × Int) ε)} (g:Nat→α) (n:Nat) {e:ε} {a0:α} (h0:a0=g 0) (hn:n<4611686018427387904) (h:∀ i:Nat,i<n→body (g i,(i:Int))=some (.next (g (i+1),(i:Int)+1))) (he:body (g n,(n:Int))=some (.ret e)):Qx body fuel (a0,0)=some e:=by
 subst h0;exact Q4e (fun i:Nat=>(g i,(i:Int))) n rfl hn h he
theorem all_inR {xs:List Int} {n:Int}:xs.all (inR n)=true↔∀ j:Nat,j<xs.length→0≤ix xs j∧ix xs j<n:=by
 rw [List.all_eq_true];constructor
 ·intro h j hj;have:=h _ (List.getElem_mem hj);rw [Q1k _ _ hj] at this;simp only [inR,Bool.and_eq_true,decide_eq_true_eq] at this;omega
 intro h x hx;obtain ⟨i,hi,rfl⟩:=List.getElem_of_mem hx;rw [Q1k _ _ hi];have:=h i hi;simp only [inR,Bool.and_eq_true,decide_eq_true_eq];omega
theorem Q5d {ε β:Type} {body:Int→Option (Ctl Int ε)} {K:ε→Option β} {r:β} (n:Nat) (p:Nat→Prop) {eb eg:ε} (hn:n<4611686018427387904) (h1:∀ i:Nat,i<n→p i→body (i:Int)=some (.next ((i:Int)+1))) (h2:∀ i:Nat,i<n→¬ p i→body (i:Int)=some (.ret eb)) (h3:body (n:Int)=some (.ret eg))
  (hb:(¬ ∀ i:Nat,i<n→p i)→K eb=some r) (hg:(∀ i:Nat,i<n→p i)→K eg=some r):(Qx body fuel 0).bind K=some r:=by
 rw [Q7j n p hn h1 h2 h3]
 by_cases h:∀ i:Nat,i<n→p i
 ·rw [if_pos h];exact hg h
 rw [if_neg h];exact hb h
theorem Q2z {α ε β:Type} {body:α × Int→Option (Ctl (α × Int) ε)} {K:ε→Option β} {r:Option β} {a0:α} (n:Nat) (g:Nat→α) {e:ε} (h0:a0=g 0) (hn:n<4611686018427387904) (h:∀ i:Nat,i<n→body (g i,(i:Int))=some (.next (g (i+1),(i:Int)+1))) (he:body (g n,(n:Int))=some (.ret e)) (hk:K e=r):(Qx body fuel (a0,0)).bind K=r:=by
 rw [loop_acc g n h0 hn h he];exact hk
attribute [local simp] eL eI Qw
noncomputable def Q1q (a_:List (List Int)) (b_:List (List Int)):Option Bool :=
 if ¬ ((a_.length:Int)=(b_.length:Int)) then
  some false
 else
  (Qx (σ:=Int) (ε:=Unit ⊕ Bool) (fun s9 =>
   if s9<(a_.length:Int) then
    ass (0≤s9∧s9<(a_.length:Int)) <|
    ass (0≤s9∧s9<(b_.length:Int)) <|
    (Q2i (rx a_ s9) (rx b_ s9)).bind fun v13 =>
    if ¬ (v13=true) then
     some (Ctl.ret (Sum.inr false))
    else
     ass (B64 (s9+1)) <|
     some (Ctl.next (s9+1))
   else
    some (Ctl.ret (Sum.inl ()))) fuel 0).bind fun e2 =>
  match e2 with
  | .inl b2 =>
   some true
  | .inr p2 =>
   some p2
theorem wkQ8 {F : Fx} {st st' : St} (m : List (Nat × Nat)) (h : (m.map Prod.fst).Nodup ∧ (m.map Prod.snd).Nodup ∧ (∀ id, id < F.pins → look id m = some id) ∧ (∀ p ∈ m, p.2 < st'.n) ∧ (∀ p ∈ st'.h, p.1 < st'.n) ∧ (∀ p ∈ st'.s, p.2 = rl m (st.get p.1) ∨ p.2 = .bot) ∧ ∀ p ∈ st'.h, hhOk m st.h p.1 p.2 := by simp [hP, hhOk, back, UA, U1, IA, I1, LA, L1, BA, B1, EA, E1, E2, eB, eI, eL, Cat.cells, Prf.cells]) : Wk F st st' := Wk.r1 m h
theorem Q5y (a_:List (List Int)) (b_:List (List Int)) (r:Bool) (h:Q1q a_ b_=some r):Contract Try.prog 31 [.lst true 1 (Ls a_),.lst true 1 (Ls b_)] (.val (.bool r)):=by
 refine Qg (rvs:=[.tmp 4]) (rs:=[.val (.bool r)]) Try.func31 rfl rfl rfl rfl (by simp [Try.f31]) fun F hN hP=>?_;unfold Q1q at h;refine Q5 ?_;refine runQ hN fun K hK=>?_;simp [-Q0,-Q7,-Q1,-Q8,-Q2];repeat refine sdQ ?_
 refine hK _ ?_;clear hK K;refine tn ?_;refine Q9 (st':=⟨[(0,.lst true 1 (Ls a_)),(1,.lst true 1 (Ls b_))],[],0⟩) (wkQ8 []) ?_;refine Q5 ?_;refine Q5 ?_;refine runQ hN fun K hK=>?_;simp [-Q0,-Q7,-Q1,-Q8,-Q2];repeat refine sdQ ?_
 refine hK _ ?_;clear hK K;refine tn ?_;refine Q9 (st':=⟨[(0,.lst true 1 (Ls a_)),(1,.lst true 1 (Ls b_)),(10,.val (.bool ((a_.length:Int) != (b_.length:Int))))],[],0⟩) (wkQ8 []) ?_;refine Qc rfl (fun g=>?_) fun g=>?_
 ·have g1:¬ ((a_.length:Int)=(b_.length:Int)):=gQ;clear g;replace h:=if_l g1 h;refine Q5 ?_;refine runQ hN fun K hK=>?_;simp [-Q0,-Q7,-Q1,-Q8,-Q2];repeat refine sdQ ?_
  refine hK _ ?_;clear hK K;refine tn ?_;refine Q9 (st':=⟨[(4,.val (.bool false))],[],0⟩) (wkQ8 []) ?_;refine Qi ?_;refine tr ?_;have hr:=Option.some.inj h;rw [← hr];refine ⟨_,(.tmp .nil),?_⟩;refine ⟨(.one rfl rfl .nil),[.val (.bool false)],[],by simp [UA,U1,IA,I1,LA,L1,BA,B1,EA,E1,E2,eB,eI,eL],by simp,(UpL.refl _)⟩
 have g1:¬ (¬ ((a_.length:Int)=(b_.length:Int))):=gQ;clear g;replace h:=if_r g1 h;refine Qe ?_;refine tn ?_;refine Q5 ?_;refine Q5 ?_;refine runQ hN fun K hK=>?_;simp [-Q0,-Q7,-Q1,-Q8,-Q2];repeat refine sdQ ?_
 refine hK _ ?_;clear hK K;refine tn ?_;refine Q9 (st':=⟨[(0,.lst true 1 (Ls a_)),(1,.lst true 1 (Ls b_)),(5,iV 0)],[],0⟩) (wkQ8 []) ?_;replace h:=bind_some h;obtain ⟨e2,h,h2⟩:=h;refine Ql (fun b2:Unit=>⟨[],[],0⟩) (fun b2=>Sum.inl b2=e2) ?_ ?_
 ·refine Qa ?_;refine Qs h (fun s9:Int=>⟨[(0,.lst true 1 (Ls a_)),(1,.lst true 1 (Ls b_)),(5,iV s9)],[],0⟩) (wkQ8 []) ?_;clear h;intro k9 s9 c9 h hk9;refine Q5 ?_;refine Q5 ?_;refine runQ hN fun K hK=>?_;simp [-Q0,-Q7,-Q1,-Q8,-Q2];repeat refine sdQ ?_
  refine hK _ ?_;clear hK K;refine tn ?_;refine Q9 (st':=⟨[(0,.lst true 1 (Ls a_)),(1,.lst true 1 (Ls b_)),(5,iV s9),(14,.val (.bool (decide (s9<(a_.length:Int)))))],[],0⟩) (wkQ8 []) ?_;refine Qc rfl (fun g=>?_) fun g=>?_
  ·have g10:s9<(a_.length:Int):=gQ;clear g;replace h:=if_l g10 h;refine Qe ?_;refine tn ?_;refine Q5 ?_;refine Qa ?_;refine Q5 ?_;refine runQ hN fun K hK=>?_;replace h:=Q4 h;obtain ⟨a11,h⟩:=h;replace h:=Q4 h;obtain ⟨a12,h⟩:=h;simp [-Q0,-Q7,-Q1,-Q8,-Q2,at_L a11,at_L a12];(repeat with_reducible refine sdQ ?_);replace h:=bind_some h;obtain ⟨v13,hv13,h⟩:=h;refine Q3 (Q6h _ _ v13 hv13) (.cons .lst (.cons .lst .nil)) ?_;simp [-Q0,-Q7,-Q1,-Q8,-Q2,unk,unA,unE,unT,unC,flat,at_L a11,at_L a12];(repeat refine sdQ ?_);refine hK _ ?_;clear hK K;refine tn ?_;refine Q9 (st':=⟨[(0,.lst true 1 (Ls a_)),(1,.lst true 1 (Ls b_)),(5,iV s9),(26,.val (.bool (!v13)))],[],0⟩) (wkQ8 []) ?_;refine Qc rfl (fun g=>?_) fun g=>?_
   ·have g14:¬ (v13=true):=gQ;clear g;replace h:=if_l g14 h;refine Q5 ?_;refine runQ hN fun K hK=>?_;simp [-Q0,-Q7,-Q1,-Q8,-Q2];(repeat refine sdQ ?_);refine hK _ ?_;clear hK K;refine tn ?_;refine Q9 (st':=⟨[(4,.val (.bool false))],[],0⟩) (wkQ8 []) ?_;refine Qi ?_;refine br ?_;refine tr ?_;refine lr ?_;refine br ?_;refine tr ?_;cases h;have q:_=e2:=hk9;have h:=h2;rw [← q] at h;clear q;(try dsimp only at h);have hr:=Option.some.inj h;rw [← hr];refine ⟨_,(.tmp .nil),?_⟩;refine ⟨(.one rfl rfl .nil),[.val (.bool false)],[],by simp [UA,U1,IA,I1,LA,L1,BA,B1,EA,E1,E2,eB,eI,eL],by simp,(UpL.refl _)⟩
   have g14:¬ (¬ (v13=true)):=gQ;clear g;replace h:=if_r g14 h;refine Qe ?_;refine bn ?_;refine tn ?_;refine runQ hN fun K hK=>?_;replace h:=Q4 h;obtain ⟨a15,h⟩:=h;simp [-Q0,-Q7,-Q1,-Q8,-Q2,Qo a15];(repeat refine sdQ ?_);refine hK _ ?_;clear hK K;cases h;exact rn (s':=s9+1) hk9 (wkQ8 [])
  have g10:¬ (s9<(a_.length:Int)):=gQ;clear g;replace h:=if_r g10 h;refine Qk ?_;refine tx ?_;refine lx ?_;refine bh ?_;cases h;exact jn (b:=()) hk9 (wkQ8 [])
 intro b2 hb2;have h:=h2;try rw [← hb2] at h
 clear h2;try dsimp only at h
 refine Q5 ?_;refine runQ hN fun K hK=>?_;simp [-Q0,-Q7,-Q1,-Q8,-Q2];repeat refine sdQ ?_
 refine hK _ ?_;clear hK K;refine tn ?_;refine Q9 (st':=⟨[(4,.val (.bool true))],[],0⟩) (wkQ8 []) ?_;refine Qi ?_;have hr:=Option.some.inj h;rw [← hr];refine ⟨_,(.tmp .nil),?_⟩;refine ⟨(.one rfl rfl .nil),[.val (.bool true)],[],by simp [UA,U1,IA,I1,LA,L1,BA,B1,EA,E1,E2,eB,eI,eL],by simp,(UpL.refl _)⟩
attribute [local simp] eL eI Qw
noncomputable def Q1D (a_:List (List (List Int))) (b_:List (List (List Int))):Option Bool :=
 if ¬ ((a_.length:Int)=(b_.length:Int)) then
  some false
 else
  (Qx (σ:=Int) (ε:=Unit ⊕ Bool) (fun s9 =>
   if s9<(a_.length:Int) then
    ass (0≤s9∧s9<(a_.length:Int)) <|
    ass (0≤s9∧s9<(b_.length:Int)) <|
    (Q1q (gx a_ s9) (gx b_ s9)).bind fun v13 =>
    if ¬ (v13=true) then
     some (Ctl.ret (Sum.inr false))
    else
     ass (B64 (s9+1)) <|
     some (Ctl.next (s9+1))
   else
    some (Ctl.ret (Sum.inl ()))) fuel 0).bind fun e2 =>
  match e2 with
  | .inl b2 =>
   some true
  | .inr p2 =>
   some p2
theorem Q4O (a_:List (List (List Int))) (b_:List (List (List Int))) (r:Bool) (h:Q1D a_ b_=some r):Contract Try.prog 69 [.lst true 1 (Es eL a_),.lst true 1 (Es eL b_)] (.val (.bool r)):=by
 refine Qg (rvs:=[.tmp 4]) (rs:=[.val (.bool r)]) Try.func69 rfl rfl rfl rfl (by simp [Try.f69]) fun F hN hP=>?_;unfold Q1D at h;refine Q5 ?_;refine runQ hN fun K hK=>?_;simp [-Q0,-Q7,-Q1,-Q8,-Q2];repeat refine sdQ ?_
 refine hK _ ?_;clear hK K;refine tn ?_;refine Q9 (st':=⟨[(0,.lst true 1 (Es eL a_)),(1,.lst true 1 (Es eL b_))],[],0⟩) (wkQ8 []) ?_;refine Q5 ?_;refine Q5 ?_;refine runQ hN fun K hK=>?_;simp [-Q0,-Q7,-Q1,-Q8,-Q2];repeat refine sdQ ?_
 refine hK _ ?_;clear hK K;refine tn ?_;refine Q9 (st':=⟨[(0,.lst true 1 (Es eL a_)),(1,.lst true 1 (Es eL b_)),(10,.val (.bool ((a_.length:Int) != (b_.length:Int))))],[],0⟩) (wkQ8 []) ?_;refine Qc rfl (fun g=>?_) fun g=>?_
 ·have g1:¬ ((a_.length:Int)=(b_.length:Int)):=gQ;clear g;replace h:=if_l g1 h;refine Q5 ?_;refine runQ hN fun K hK=>?_;simp [-Q0,-Q7,-Q1,-Q8,-Q2];repeat refine sdQ ?_
  refine hK _ ?_;clear hK K;refine tn ?_;refine Q9 (st':=⟨[(4,.val (.bool false))],[],0⟩) (wkQ8 []) ?_;refine Qi ?_;refine tr ?_;have hr:=Option.some.inj h;rw [← hr];refine ⟨_,(.tmp .nil),?_⟩;refine ⟨(.one rfl rfl .nil),[.val (.bool false)],[],by simp [UA,U1,IA,I1,LA,L1,BA,B1,EA,E1,E2,eB,eI,eL],by simp,(UpL.refl _)⟩
 have g1:¬ (¬ ((a_.length:Int)=(b_.length:Int))):=gQ;clear g;replace h:=if_r g1 h;refine Qe ?_;refine tn ?_;refine Q5 ?_;refine Q5 ?_;refine runQ hN fun K hK=>?_;simp [-Q0,-Q7,-Q1,-Q8,-Q2];repeat refine sdQ ?_
 refine hK _ ?_;clear hK K;refine tn ?_;refine Q9 (st':=⟨[(0,.lst true 1 (Es eL a_)),(1,.lst true 1 (Es eL b_)),(5,iV 0)],[],0⟩) (wkQ8 []) ?_;replace h:=bind_some h;obtain ⟨e2,h,h2⟩:=h;refine Ql (fun b2:Unit=>⟨[],[],0⟩) (fun b2=>Sum.inl b2=e2) ?_ ?_
 ·refine Qa ?_;refine Qs h (fun s9:Int=>⟨[(0,.lst true 1 (Es eL a_)),(1,.lst true 1 (Es eL b_)),(5,iV s9)],[],0⟩) (wkQ8 []) ?_;clear h;intro k9 s9 c9 h hk9;refine Q5 ?_;refine Q5 ?_;refine runQ hN fun K hK=>?_;simp [-Q0,-Q7,-Q1,-Q8,-Q2];repeat refine sdQ ?_
  refine hK _ ?_;clear hK K;refine tn ?_;refine Q9 (st':=⟨[(0,.lst true 1 (Es eL a_)),(1,.lst true 1 (Es eL b_)),(5,iV s9),(14,.val (.bool (decide (s9<(a_.length:Int)))))],[],0⟩) (wkQ8 []) ?_;refine Qc rfl (fun g=>?_) fun g=>?_
  ·have g10:s9<(a_.length:Int):=gQ;clear g;replace h:=if_l g10 h;refine Qe ?_;refine tn ?_;refine Q5 ?_;refine Qa ?_;refine Q5 ?_;refine runQ hN fun K hK=>?_;replace h:=Q4 h;obtain ⟨a11,h⟩:=h;replace h:=Q4 h;obtain ⟨a12,h⟩:=h;simp [-Q0,-Q7,-Q1,-Q8,-Q2,at_E (c:=eL) a11,at_E (c:=eL) a12];(repeat with_reducible refine sdQ ?_);replace h:=bind_some h;obtain ⟨v13,hv13,h⟩:=h;refine Q3 (Q5y _ _ v13 hv13) (.cons .lst (.cons .lst .nil)) ?_;simp [-Q0,-Q7,-Q1,-Q8,-Q2,unk,unA,unE,unT,unC,flat,at_E (c:=eL) a11,at_E (c:=eL) a12];(repeat refine sdQ ?_);refine hK _ ?_;clear hK K;refine tn ?_;refine Q9 (st':=⟨[(0,.lst true 1 (Es eL a_)),(1,.lst true 1 (Es eL b_)),(5,iV s9),(26,.val (.bool (!v13)))],[],0⟩) (wkQ8 []) ?_;refine Qc rfl (fun g=>?_) fun g=>?_
   ·have g14:¬ (v13=true):=gQ;clear g;replace h:=if_l g14 h;refine Q5 ?_;refine runQ hN fun K hK=>?_;simp [-Q0,-Q7,-Q1,-Q8,-Q2];(repeat refine sdQ ?_);refine hK _ ?_;clear hK K;refine tn ?_;refine Q9 (st':=⟨[(4,.val (.bool false))],[],0⟩) (wkQ8 []) ?_;refine Qi ?_;refine br ?_;refine tr ?_;refine lr ?_;refine br ?_;refine tr ?_;cases h;have q:_=e2:=hk9;have h:=h2;rw [← q] at h;clear q;(try dsimp only at h);have hr:=Option.some.inj h;rw [← hr];refine ⟨_,(.tmp .nil),?_⟩;refine ⟨(.one rfl rfl .nil),[.val (.bool false)],[],by simp [UA,U1,IA,I1,LA,L1,BA,B1,EA,E1,E2,eB,eI,eL],by simp,(UpL.refl _)⟩
   have g14:¬ (¬ (v13=true)):=gQ;clear g;replace h:=if_r g14 h;refine Qe ?_;refine bn ?_;refine tn ?_;refine runQ hN fun K hK=>?_;replace h:=Q4 h;obtain ⟨a15,h⟩:=h;simp [-Q0,-Q7,-Q1,-Q8,-Q2,Qo a15];(repeat refine sdQ ?_);refine hK _ ?_;clear hK K;cases h;exact rn (s':=s9+1) hk9 (wkQ8 [])
  have g10:¬ (s9<(a_.length:Int)):=gQ;clear g;replace h:=if_r g10 h;refine Qk ?_;refine tx ?_;refine lx ?_;refine bh ?_;cases h;exact jn (b:=()) hk9 (wkQ8 [])
 intro b2 hb2;have h:=h2;try rw [← hb2] at h
 clear h2;try dsimp only at h
 refine Q5 ?_;refine runQ hN fun K hK=>?_;simp [-Q0,-Q7,-Q1,-Q8,-Q2];repeat refine sdQ ?_
 refine hK _ ?_;clear hK K;refine tn ?_;refine Q9 (st':=⟨[(4,.val (.bool true))],[],0⟩) (wkQ8 []) ?_;refine Qi ?_;have hr:=Option.some.inj h;rw [← hr];refine ⟨_,(.tmp .nil),?_⟩;refine ⟨(.one rfl rfl .nil),[.val (.bool true)],[],by simp [UA,U1,IA,I1,LA,L1,BA,B1,EA,E1,E2,eB,eI,eL],by simp,(UpL.refl _)⟩
attribute [local simp] eL eI Qw
noncomputable def Q13 (a_:List (List Int)) (k_:Int):Option Int :=
 (Qx (σ:=Int × Int) (ε:=Int ⊕ Int) (fun s7 =>
  if s7.2<(a_.length:Int) then
   ass (0≤s7.2∧s7.2<(a_.length:Int)) <|
   (Q1E (rx a_ s7.2) s7.1).bind fun v10 =>
   if v10<0 then
    some (Ctl.ret (Sum.inr (-1)))
   else
    ass (B64 (s7.2+1)) <|
    some (Ctl.next (v10,s7.2+1))
  else
   some (Ctl.ret (Sum.inl s7.1))) fuel (k_,0)).bind fun e1 =>
 match e1 with
 | .inl b1 =>
  some b1
 | .inr p1 =>
  some p1
theorem Q4F (a_:List (List Int)) (k_:Int) (r:Int) (h:Q13 a_ k_=some r):Contract Try.prog 37 [.lst true 1 (Ls a_),iV k_] (iV r):=by
 refine Qg (rvs:=[.tmp 4]) (rs:=[iV r]) Try.func37 rfl rfl rfl rfl (by simp [Try.f37]) fun F hN hP=>?_;unfold Q13 at h;refine Q5 ?_;refine runQ hN fun K hK=>?_;simp [-Q0,-Q7,-Q1,-Q8,-Q2];repeat refine sdQ ?_
 refine hK _ ?_;clear hK K;refine tn ?_;refine Q9 (st':=⟨[(0,.lst true 1 (Ls a_)),(1,iV k_)],[],0⟩) (wkQ8 []) ?_;refine Q5 ?_;refine Q5 ?_;refine runQ hN fun K hK=>?_;simp [-Q0,-Q7,-Q1,-Q8,-Q2];repeat refine sdQ ?_
 refine hK _ ?_;clear hK K;refine tn ?_;refine Q9 (st':=⟨[(0,.lst true 1 (Ls a_)),(1,iV k_),(5,iV 0)],[],0⟩) (wkQ8 []) ?_;replace h:=bind_some h;obtain ⟨e1,h,h1⟩:=h;refine Ql (fun b1:Int=>⟨[(1,iV b1)],[],0⟩) (fun b1=>Sum.inl b1=e1) ?_ ?_
 ·refine Qa ?_;refine Qs h (fun s7:Int × Int=>⟨[(0,.lst true 1 (Ls a_)),(1,iV s7.1),(5,iV s7.2)],[],0⟩) (wkQ8 []) ?_;clear h;intro k7 s7 c7 h hk7;refine Q5 ?_;refine Q5 ?_;refine runQ hN fun K hK=>?_;simp [-Q0,-Q7,-Q1,-Q8,-Q2];repeat refine sdQ ?_
  refine hK _ ?_;clear hK K;refine tn ?_;refine Q9 (st':=⟨[(0,.lst true 1 (Ls a_)),(1,iV s7.1),(5,iV s7.2),(9,.val (.bool (decide (s7.2<(a_.length:Int)))))],[],0⟩) (wkQ8 []) ?_;refine Qc rfl (fun g=>?_) fun g=>?_
  ·have g8:s7.2<(a_.length:Int):=gQ;clear g;replace h:=if_l g8 h;refine Qe ?_;refine tn ?_;refine Q5 ?_;refine Qa ?_;refine Q5 ?_;refine runQ hN fun K hK=>?_;replace h:=Q4 h;obtain ⟨a9,h⟩:=h;simp [-Q0,-Q7,-Q1,-Q8,-Q2,at_L a9];(repeat with_reducible refine sdQ ?_);replace h:=bind_some h;obtain ⟨v10,hv10,h⟩:=h;refine Q3 (Q4P _ _ v10 hv10) (.cons .lst (.cons .val .nil)) ?_;simp [-Q0,-Q7,-Q1,-Q8,-Q2,unk,unA,unE,unT,unC,flat,at_L a9];(repeat refine sdQ ?_);refine hK _ ?_;clear hK K;refine tn ?_;refine Q9 (st':=⟨[(0,.lst true 1 (Ls a_)),(1,iV v10),(5,iV s7.2)],[],0⟩) (wkQ8 []) ?_;refine Q5 ?_;refine runQ hN fun K hK=>?_;simp [-Q0,-Q7,-Q1,-Q8,-Q2];(repeat refine sdQ ?_);refine hK _ ?_;clear hK K;refine tn ?_;refine Q9 (st':=⟨[(0,.lst true 1 (Ls a_)),(1,iV v10),(5,iV s7.2),(19,.val (.bool (decide (v10<0))))],[],0⟩) (wkQ8 []) ?_;refine Qc rfl (fun g=>?_) fun g=>?_
   ·have g11:v10<0:=gQ;clear g;replace h:=if_l g11 h;refine Q5 ?_;refine runQ hN fun K hK=>?_;simp [-Q0,-Q7,-Q1,-Q8,-Q2];(repeat refine sdQ ?_);refine hK _ ?_;clear hK K;refine tn ?_;refine Q9 (st':=⟨[(4,iV (-1))],[],0⟩) (wkQ8 []) ?_;refine Qi ?_;refine br ?_;refine tr ?_;refine lr ?_;refine br ?_;refine tr ?_;cases h;have q:_=e1:=hk7;have h:=h1;rw [← q] at h;clear q;(try dsimp only at h);have hr:=Option.some.inj h;rw [← hr];refine ⟨_,(.tmp .nil),?_⟩;refine ⟨(.one rfl rfl .nil),[iV (-1)],[],by simp [UA,U1,IA,I1,LA,L1,BA,B1,EA,E1,E2,eB,eI,eL],by simp,(UpL.refl _)⟩
   have g11:¬ (v10<0):=gQ;clear g;replace h:=if_r g11 h;refine Qe ?_;refine bn ?_;refine tn ?_;refine runQ hN fun K hK=>?_;replace h:=Q4 h;obtain ⟨a12,h⟩:=h;simp [-Q0,-Q7,-Q1,-Q8,-Q2,Qo a12];(repeat refine sdQ ?_);refine hK _ ?_;clear hK K;cases h;exact rn (s':=(v10,s7.2+1)) hk7 (wkQ8 [])
  have g8:¬ (s7.2<(a_.length:Int)):=gQ;clear g;replace h:=if_r g8 h;refine Qk ?_;refine tx ?_;refine lx ?_;refine bh ?_;cases h;exact jn (b:=s7.1) hk7 (wkQ8 [])
 intro b1 hb1;have h:=h1;try rw [← hb1] at h
 clear h1;try dsimp only at h
 refine Q5 ?_;refine runQ hN fun K hK=>?_;simp [-Q0,-Q7,-Q1,-Q8,-Q2];repeat refine sdQ ?_
 refine hK _ ?_;clear hK K;refine tn ?_;refine Q9 (st':=⟨[(4,iV b1)],[],0⟩) (wkQ8 []) ?_;refine Qi ?_;have hr:=Option.some.inj h;rw [← hr];refine ⟨_,(.tmp .nil),?_⟩;refine ⟨(.one rfl rfl .nil),[iV b1],[],by simp [UA,U1,IA,I1,LA,L1,BA,B1,EA,E1,E2,eB,eI,eL],by simp,(UpL.refl _)⟩
attribute [local simp] eL eI Qw
noncomputable def Q1d (a_:List (List (List Int))) (k_:Int):Option Int :=
 (Qx (σ:=Int × Int) (ε:=Int ⊕ Int) (fun s7 =>
  if s7.2<(a_.length:Int) then
   ass (0≤s7.2∧s7.2<(a_.length:Int)) <|
   (Q13 (gx a_ s7.2) s7.1).bind fun v10 =>
   if v10<0 then
    some (Ctl.ret (Sum.inr (-1)))
   else
    ass (B64 (s7.2+1)) <|
    some (Ctl.next (v10,s7.2+1))
  else
   some (Ctl.ret (Sum.inl s7.1))) fuel (k_,0)).bind fun e1 =>
 match e1 with
 | .inl b1 =>
  some b1
 | .inr p1 =>
  some p1
theorem Q4c (a_:List (List (List Int))) (k_:Int) (r:Int) (h:Q1d a_ k_=some r):Contract Try.prog 71 [.lst true 1 (Es eL a_),iV k_] (iV r):=by
 refine Qg (rvs:=[.tmp 4]) (rs:=[iV r]) Try.func71 rfl rfl rfl rfl (by simp [Try.f71]) fun F hN hP=>?_;unfold Q1d at h;refine Q5 ?_;refine runQ hN fun K hK=>?_;simp [-Q0,-Q7,-Q1,-Q8,-Q2];repeat refine sdQ ?_
 refine hK _ ?_;clear hK K;refine tn ?_;refine Q9 (st':=⟨[(0,.lst true 1 (Es eL a_)),(1,iV k_)],[],0⟩) (wkQ8 []) ?_;refine Q5 ?_;refine Q5 ?_;refine runQ hN fun K hK=>?_;simp [-Q0,-Q7,-Q1,-Q8,-Q2];repeat refine sdQ ?_
 refine hK _ ?_;clear hK K;refine tn ?_;refine Q9 (st':=⟨[(0,.lst true 1 (Es eL a_)),(1,iV k_),(5,iV 0)],[],0⟩) (wkQ8 []) ?_;replace h:=bind_some h;obtain ⟨e1,h,h1⟩:=h;refine Ql (fun b1:Int=>⟨[(1,iV b1)],[],0⟩) (fun b1=>Sum.inl b1=e1) ?_ ?_
 ·refine Qa ?_;refine Qs h (fun s7:Int × Int=>⟨[(0,.lst true 1 (Es eL a_)),(1,iV s7.1),(5,iV s7.2)],[],0⟩) (wkQ8 []) ?_;clear h;intro k7 s7 c7 h hk7;refine Q5 ?_;refine Q5 ?_;refine runQ hN fun K hK=>?_;simp [-Q0,-Q7,-Q1,-Q8,-Q2];repeat refine sdQ ?_
  refine hK _ ?_;clear hK K;refine tn ?_;refine Q9 (st':=⟨[(0,.lst true 1 (Es eL a_)),(1,iV s7.1),(5,iV s7.2),(9,.val (.bool (decide (s7.2<(a_.length:Int)))))],[],0⟩) (wkQ8 []) ?_;refine Qc rfl (fun g=>?_) fun g=>?_
  ·have g8:s7.2<(a_.length:Int):=gQ;clear g;replace h:=if_l g8 h;refine Qe ?_;refine tn ?_;refine Q5 ?_;refine Qa ?_;refine Q5 ?_;refine runQ hN fun K hK=>?_;replace h:=Q4 h;obtain ⟨a9,h⟩:=h;simp [-Q0,-Q7,-Q1,-Q8,-Q2,at_E (c:=eL) a9];(repeat with_reducible refine sdQ ?_);replace h:=bind_some h;obtain ⟨v10,hv10,h⟩:=h;refine Q3 (Q4F _ _ v10 hv10) (.cons .lst (.cons .val .nil)) ?_;simp [-Q0,-Q7,-Q1,-Q8,-Q2,unk,unA,unE,unT,unC,flat,at_E (c:=eL) a9];(repeat refine sdQ ?_);refine hK _ ?_;clear hK K;refine tn ?_;refine Q9 (st':=⟨[(0,.lst true 1 (Es eL a_)),(1,iV v10),(5,iV s7.2)],[],0⟩) (wkQ8 []) ?_;refine Q5 ?_;refine runQ hN fun K hK=>?_;simp [-Q0,-Q7,-Q1,-Q8,-Q2];(repeat refine sdQ ?_);refine hK _ ?_;clear hK K;refine tn ?_;refine Q9 (st':=⟨[(0,.lst true 1 (Es eL a_)),(1,iV v10),(5,iV s7.2),(19,.val (.bool (decide (v10<0))))],[],0⟩) (wkQ8 []) ?_;refine Qc rfl (fun g=>?_) fun g=>?_
   ·have g11:v10<0:=gQ;clear g;replace h:=if_l g11 h;refine Q5 ?_;refine runQ hN fun K hK=>?_;simp [-Q0,-Q7,-Q1,-Q8,-Q2];(repeat refine sdQ ?_);refine hK _ ?_;clear hK K;refine tn ?_;refine Q9 (st':=⟨[(4,iV (-1))],[],0⟩) (wkQ8 []) ?_;refine Qi ?_;refine br ?_;refine tr ?_;refine lr ?_;refine br ?_;refine tr ?_;cases h;have q:_=e1:=hk7;have h:=h1;rw [← q] at h;clear q;(try dsimp only at h);have hr:=Option.some.inj h;rw [← hr];refine ⟨_,(.tmp .nil),?_⟩;refine ⟨(.one rfl rfl .nil),[iV (-1)],[],by simp [UA,U1,IA,I1,LA,L1,BA,B1,EA,E1,E2,eB,eI,eL],by simp,(UpL.refl _)⟩
   have g11:¬ (v10<0):=gQ;clear g;replace h:=if_r g11 h;refine Qe ?_;refine bn ?_;refine tn ?_;refine runQ hN fun K hK=>?_;replace h:=Q4 h;obtain ⟨a12,h⟩:=h;simp [-Q0,-Q7,-Q1,-Q8,-Q2,Qo a12];(repeat refine sdQ ?_);refine hK _ ?_;clear hK K;cases h;exact rn (s':=(v10,s7.2+1)) hk7 (wkQ8 [])
  have g8:¬ (s7.2<(a_.length:Int)):=gQ;clear g;replace h:=if_r g8 h;refine Qk ?_;refine tx ?_;refine lx ?_;refine bh ?_;cases h;exact jn (b:=s7.1) hk7 (wkQ8 [])
 intro b1 hb1;have h:=h1;try rw [← hb1] at h
 clear h1;try dsimp only at h
 refine Q5 ?_;refine runQ hN fun K hK=>?_;simp [-Q0,-Q7,-Q1,-Q8,-Q2];repeat refine sdQ ?_
 refine hK _ ?_;clear hK K;refine tn ?_;refine Q9 (st':=⟨[(4,iV b1)],[],0⟩) (wkQ8 []) ?_;refine Qi ?_;have hr:=Option.some.inj h;rw [← hr];refine ⟨_,(.tmp .nil),?_⟩;refine ⟨(.one rfl rfl .nil),[iV b1],[],by simp [UA,U1,IA,I1,LA,L1,BA,B1,EA,E1,E2,eB,eI,eL],by simp,(UpL.refl _)⟩
attribute [local simp] eL eI Qw
noncomputable def Q1F (a_:List (List (List Int))) (left_:Int):Option Int :=
 ass (B64 (left_ - (a_.length:Int))) <|
 if (left_ - (a_.length:Int))<0 then
  some (-1)
 else
  (Qx (σ:=Int × Int) (ε:=Int ⊕ Int) (fun s9 =>
   if s9.2<(a_.length:Int) then
    ass (0≤s9.2∧s9.2<(a_.length:Int)) <|
    (Q1X (gx a_ s9.2) s9.1).bind fun v12 =>
    if v12<0 then
     some (Ctl.ret (Sum.inr (-1)))
    else
     ass (B64 (s9.2+1)) <|
     some (Ctl.next (v12,s9.2+1))
   else
    some (Ctl.ret (Sum.inl s9.1))) fuel (left_ - (a_.length:Int),0)).bind fun e3 =>
  match e3 with
  | .inl b3 =>
   some b3
  | .inr p3 =>
   some p3
theorem Q4Q (a_:List (List (List Int))) (left_:Int) (r:Int) (h:Q1F a_ left_=some r):Contract Try.prog 57 [.lst true 1 (Es eL a_),iV left_] (iV r):=by
 refine Qg (rvs:=[.tmp 4]) (rs:=[iV r]) Try.func57 rfl rfl rfl rfl (by simp [Try.f57]) fun F hN hP=>?_;unfold Q1F at h;refine Q5 ?_;refine runQ hN fun K hK=>?_;simp [-Q0,-Q7,-Q1,-Q8,-Q2];repeat refine sdQ ?_
 refine hK _ ?_;clear hK K;refine tn ?_;refine Q9 (st':=⟨[(0,.lst true 1 (Es eL a_)),(1,iV left_)],[],0⟩) (wkQ8 []) ?_;refine Q5 ?_;refine runQ hN fun K hK=>?_;replace h:=Q4 h;obtain ⟨a1,h⟩:=h;simp [-Q0,-Q7,-Q1,-Q8,-Q2,Qo a1];repeat refine sdQ ?_
 refine hK _ ?_;clear hK K;refine tn ?_;refine Q9 (st':=⟨[(0,.lst true 1 (Es eL a_)),(1,iV (left_ - (a_.length:Int)))],[],0⟩) (wkQ8 []) ?_;refine Q5 ?_;refine Q5 ?_;refine runQ hN fun K hK=>?_;simp [-Q0,-Q7,-Q1,-Q8,-Q2];repeat refine sdQ ?_
 refine hK _ ?_;clear hK K;refine tn ?_;refine Q9 (st':=⟨[(0,.lst true 1 (Es eL a_)),(1,iV (left_ - (a_.length:Int))),(11,.val (.bool (decide ((left_ - (a_.length:Int))<0))))],[],0⟩) (wkQ8 []) ?_;refine Qc rfl (fun g=>?_) fun g=>?_
 ·have g2:(left_ - (a_.length:Int))<0:=gQ;clear g;replace h:=if_l g2 h;refine Q5 ?_;refine runQ hN fun K hK=>?_;simp [-Q0,-Q7,-Q1,-Q8,-Q2];repeat refine sdQ ?_
  refine hK _ ?_;clear hK K;refine tn ?_;refine Q9 (st':=⟨[(4,iV (-1))],[],0⟩) (wkQ8 []) ?_;refine Qi ?_;refine tr ?_;have hr:=Option.some.inj h;rw [← hr];refine ⟨_,(.tmp .nil),?_⟩;refine ⟨(.one rfl rfl .nil),[iV (-1)],[],by simp [UA,U1,IA,I1,LA,L1,BA,B1,EA,E1,E2,eB,eI,eL],by simp,(UpL.refl _)⟩
 have g2:¬ ((left_ - (a_.length:Int))<0):=gQ;clear g;replace h:=if_r g2 h;refine Qe ?_;refine tn ?_;refine Q5 ?_;refine Q5 ?_;refine runQ hN fun K hK=>?_;simp [-Q0,-Q7,-Q1,-Q8,-Q2];repeat refine sdQ ?_
 refine hK _ ?_;clear hK K;refine tn ?_;refine Q9 (st':=⟨[(0,.lst true 1 (Es eL a_)),(1,iV (left_ - (a_.length:Int))),(5,iV 0)],[],0⟩) (wkQ8 []) ?_;replace h:=bind_some h;obtain ⟨e3,h,h3⟩:=h;refine Ql (fun b3:Int=>⟨[(1,iV b3)],[],0⟩) (fun b3=>Sum.inl b3=e3) ?_ ?_
 ·refine Qa ?_;refine Qs h (fun s9:Int × Int=>⟨[(0,.lst true 1 (Es eL a_)),(1,iV s9.1),(5,iV s9.2)],[],0⟩) (wkQ8 []) ?_;clear h;intro k9 s9 c9 h hk9;refine Q5 ?_;refine Q5 ?_;refine runQ hN fun K hK=>?_;simp [-Q0,-Q7,-Q1,-Q8,-Q2];repeat refine sdQ ?_
  refine hK _ ?_;clear hK K;refine tn ?_;refine Q9 (st':=⟨[(0,.lst true 1 (Es eL a_)),(1,iV s9.1),(5,iV s9.2),(15,.val (.bool (decide (s9.2<(a_.length:Int)))))],[],0⟩) (wkQ8 []) ?_;refine Qc rfl (fun g=>?_) fun g=>?_
  ·have g10:s9.2<(a_.length:Int):=gQ;clear g;replace h:=if_l g10 h;refine Qe ?_;refine tn ?_;refine Q5 ?_;refine Qa ?_;refine Q5 ?_;refine runQ hN fun K hK=>?_;replace h:=Q4 h;obtain ⟨a11,h⟩:=h;simp [-Q0,-Q7,-Q1,-Q8,-Q2,at_E (c:=eL) a11];(repeat with_reducible refine sdQ ?_);replace h:=bind_some h;obtain ⟨v12,hv12,h⟩:=h;refine Q3 (Q5z _ _ v12 hv12) (.cons .lst (.cons .val .nil)) ?_;simp [-Q0,-Q7,-Q1,-Q8,-Q2,unk,unA,unE,unT,unC,flat,at_E (c:=eL) a11];(repeat refine sdQ ?_);refine hK _ ?_;clear hK K;refine tn ?_;refine Q9 (st':=⟨[(0,.lst true 1 (Es eL a_)),(1,iV v12),(5,iV s9.2)],[],0⟩) (wkQ8 []) ?_;refine Q5 ?_;refine runQ hN fun K hK=>?_;simp [-Q0,-Q7,-Q1,-Q8,-Q2];(repeat refine sdQ ?_);refine hK _ ?_;clear hK K;refine tn ?_;refine Q9 (st':=⟨[(0,.lst true 1 (Es eL a_)),(1,iV v12),(5,iV s9.2),(25,.val (.bool (decide (v12<0))))],[],0⟩) (wkQ8 []) ?_;refine Qc rfl (fun g=>?_) fun g=>?_
   ·have g13:v12<0:=gQ;clear g;replace h:=if_l g13 h;refine Q5 ?_;refine runQ hN fun K hK=>?_;simp [-Q0,-Q7,-Q1,-Q8,-Q2];(repeat refine sdQ ?_);refine hK _ ?_;clear hK K;refine tn ?_;refine Q9 (st':=⟨[(4,iV (-1))],[],0⟩) (wkQ8 []) ?_;refine Qi ?_;refine br ?_;refine tr ?_;refine lr ?_;refine br ?_;refine tr ?_;cases h;have q:_=e3:=hk9;have h:=h3;rw [← q] at h;clear q;(try dsimp only at h);have hr:=Option.some.inj h;rw [← hr];refine ⟨_,(.tmp .nil),?_⟩;refine ⟨(.one rfl rfl .nil),[iV (-1)],[],by simp [UA,U1,IA,I1,LA,L1,BA,B1,EA,E1,E2,eB,eI,eL],by simp,(UpL.refl _)⟩
   have g13:¬ (v12<0):=gQ;clear g;replace h:=if_r g13 h;refine Qe ?_;refine bn ?_;refine tn ?_;refine runQ hN fun K hK=>?_;replace h:=Q4 h;obtain ⟨a14,h⟩:=h;simp [-Q0,-Q7,-Q1,-Q8,-Q2,Qo a14];(repeat refine sdQ ?_);refine hK _ ?_;clear hK K;cases h;exact rn (s':=(v12,s9.2+1)) hk9 (wkQ8 [])
  have g10:¬ (s9.2<(a_.length:Int)):=gQ;clear g;replace h:=if_r g10 h;refine Qk ?_;refine tx ?_;refine lx ?_;refine bh ?_;cases h;exact jn (b:=s9.1) hk9 (wkQ8 [])
 intro b3 hb3;have h:=h3;try rw [← hb3] at h
 clear h3;try dsimp only at h
 refine Q5 ?_;refine runQ hN fun K hK=>?_;simp [-Q0,-Q7,-Q1,-Q8,-Q2];repeat refine sdQ ?_
 refine hK _ ?_;clear hK K;refine tn ?_;refine Q9 (st':=⟨[(4,iV b3)],[],0⟩) (wkQ8 []) ?_;refine Qi ?_;have hr:=Option.some.inj h;rw [← hr];refine ⟨_,(.tmp .nil),?_⟩;refine ⟨(.one rfl rfl .nil),[iV b3],[],by simp [UA,U1,IA,I1,LA,L1,BA,B1,EA,E1,E2,eB,eI,eL],by simp,(UpL.refl _)⟩
attribute [local simp] eL eI Qw
noncomputable def Q1G (a_:List (List (List Int))):Option (List (List (List Int))) :=
 ass (0≤(a_.length:Int)∧(a_.length:Int)≤1073741824) <|
 (Qx (σ:=List (List (List Int)) × Int) (ε:=List (List (List Int))) (fun s8 =>
  if s8.2<(a_.length:Int) then
   ass (0≤s8.2∧s8.2<(a_.length:Int)) <|
   (Q1Y (gx a_ s8.2)).bind fun v11 =>
   ass (0≤s8.2∧s8.2<(s8.1.length:Int)) <|
   ass (B64 (s8.2+1)) <|
   some (Ctl.next (s8.1.set s8.2.toNat v11,s8.2+1))
  else
   some (Ctl.ret s8.1)) fuel (List.replicate ((a_.length:Int).toNat) ([]:List (List Int)),0)).bind fun b2 =>
 some b2
theorem Q4R (a_:List (List (List Int))) (r:List (List (List Int))) (h:Q1G a_=some r):Contract Try.prog 61 [.lst true 1 (Es eL a_)] (.lst true 1 (Es eL r)):=by
 refine Qg (rvs:=[.tmp 2]) (rs:=[.lst true 1 (Es eL r)]) Try.func61 rfl rfl rfl rfl (by simp [Try.f61]) fun F hN hP=>?_;unfold Q1G at h;refine Q5 ?_;refine runQ hN fun K hK=>?_;simp [-Q0,-Q7,-Q1,-Q8,-Q2];repeat refine sdQ ?_
 refine hK _ ?_;clear hK K;refine tn ?_;refine Q9 (st':=⟨[(0,.lst true 1 (Es eL a_))],[],0⟩) (wkQ8 []) ?_;refine Q5 ?_;refine Q1v [7] mo (by rw [hN];decide) fun K hK=>?_;replace h:=Q4 h;obtain ⟨a1,h⟩:=h;simp [-Q0,-Q7,-Q1,-Q8,-Q2];repeat refine sdQ ?_
 refine hK _ ?_;clear hK K;refine tn ?_;refine Q9 (st':=⟨[(0,.lst true 1 (Es eL a_)),(3,.own 0 0 ((List.replicate ((a_.length:Int).toNat) ([]:List (List Int))).length))],[(0,.row 1 (Es eL (List.replicate ((a_.length:Int).toNat) ([]:List (List Int)))))],1⟩) (wkQ8 [(0,0)]) ?_;refine Q5 ?_;refine Q5 ?_;refine runQ hN fun K hK=>?_;simp [-Q0,-Q7,-Q1,-Q8,-Q2];repeat refine sdQ ?_
 refine hK _ ?_;clear hK K;refine tn ?_;refine Q9 (st':=⟨[(0,.lst true 1 (Es eL a_)),(3,.own 0 0 ((List.replicate ((a_.length:Int).toNat) ([]:List (List Int))).length)),(4,iV 0)],[(0,.row 1 (Es eL (List.replicate ((a_.length:Int).toNat) ([]:List (List Int)))))],1⟩) (wkQ8 [(0,0)]) ?_;replace h:=bind_some h;obtain ⟨e2,h,h2⟩:=h;refine Ql (fun b2:List (List (List Int))=>⟨[(3,.own 0 0 b2.length)],[(0,.row 1 (Es eL b2))],1⟩) (fun b2=>b2=e2) ?_ ?_
 ·refine Qa ?_;refine Qs h (fun s8:List (List (List Int)) × Int=>⟨[(0,.lst true 1 (Es eL a_)),(3,.own 0 0 s8.1.length),(4,iV s8.2)],[(0,.row 1 (Es eL s8.1))],1⟩) (wkQ8 [(0,0)]) ?_;clear h;intro k8 s8 c8 h hk8;refine Q5 ?_;refine Q5 ?_;refine runQ hN fun K hK=>?_;simp [-Q0,-Q7,-Q1,-Q8,-Q2];repeat refine sdQ ?_
  refine hK _ ?_;clear hK K;refine tn ?_;refine Q9 (st':=⟨[(0,.lst true 1 (Es eL a_)),(3,.own 0 0 s8.1.length),(4,iV s8.2),(11,.val (.bool (decide (s8.2<(a_.length:Int)))))],[(0,.row 1 (Es eL s8.1))],1⟩) (wkQ8 [(0,0)]) ?_;refine Qc rfl (fun g=>?_) fun g=>?_
  ·have g9:s8.2<(a_.length:Int):=gQ;clear g;replace h:=if_l g9 h;refine Qe ?_;refine tn ?_;refine Q5 ?_;refine Qa ?_;refine Q1v [] mo (by rw [hN];decide) fun K hK=>?_;replace h:=Q4 h;obtain ⟨a10,h⟩:=h;simp [-Q0,-Q7,-Q1,-Q8,-Q2,at_E (c:=eL) a10];(repeat with_reducible refine sdQ ?_);replace h:=bind_some h;obtain ⟨v11,hv11,h⟩:=h;refine Q22 (fz:=[]) (Q5A _ v11 hv11) (.cons .lst .nil) ?_;replace h:=Q4 h;obtain ⟨a12,h⟩:=h;simp [-Q0,-Q7,-Q1,-Q8,-Q2,unk,unA,unE,unT,unC,flat,at_E (c:=eL) a10,at_E (c:=eL) a12];(repeat with_reducible refine sdQ ?_);refine Q7z (fz:=[]) [] tf_23 rfl (b:=.lst true 1 (Ls v11)) (ds:=[1]) (es2:=Es eL (s8.1.set s8.2.toNat v11)) rfl (by simp) (by first|(simp;done)|(simp;omega)|omega) (by simp) (by simp) (by simp) (by simp) (Es_st (fun _=>rfl) rfl) ?_;simp [-Q0,-Q7,-Q1,-Q8,-Q2,at_E (c:=eL) a10,at_E (c:=eL) a12];(repeat refine sdQ ?_);refine hK _ ?_;clear hK K;refine bn ?_;refine tn ?_;refine Q9 (st':=⟨[(0,.lst true 1 (Es eL a_)),(3,.own 0 0 ((s8.1.set s8.2.toNat v11).length)),(4,iV s8.2)],[(0,.row 1 (Es eL (s8.1.set s8.2.toNat v11)))],1⟩) (wkQ8 [(0,0)]) ?_;refine runQ hN fun K hK=>?_;replace h:=Q4 h;obtain ⟨a13,h⟩:=h;simp [-Q0,-Q7,-Q1,-Q8,-Q2,Qo a13];(repeat refine sdQ ?_);refine hK _ ?_;clear hK K;cases h;exact rn (s':=(s8.1.set s8.2.toNat v11,s8.2+1)) hk8 (wkQ8 [(0,0)])
  have g9:¬ (s8.2<(a_.length:Int)):=gQ;clear g;replace h:=if_r g9 h;refine Qk ?_;refine tx ?_;refine lx ?_;refine bh ?_;cases h;exact jn (b:=s8.1) hk8 (wkQ8 [(0,0)])
 intro b2 hb2;have h:=h2;try rw [← hb2] at h
 clear h2;try dsimp only at h
 refine Q5 ?_;refine runQ hN fun K hK=>?_;simp [-Q0,-Q7,-Q1,-Q8,-Q2];repeat refine sdQ ?_
 refine hK _ ?_;clear hK K;refine tn ?_;refine Q9 (st':=⟨[(2,.own 0 0 b2.length)],[(0,.row 1 (Es eL b2))],1⟩) (wkQ8 [(0,0)]) ?_;refine Qi ?_;have hr:=Option.some.inj h;rw [← hr];refine ⟨_,(.tmp .nil),?_⟩;refine ⟨(.one rfl rfl .nil),[.lst true 1 (Es eL b2)],[0],by simp [UA,U1,IA,I1,LA,L1,BA,B1,EA,E1,E2,eB,eI,eL],by simp,(UpL.refl _)⟩
def sumN (x:List (List (List Int))):Nat:=(x.map sumL).sum
def runn (k:Int):List (List (List Int))→List (List (List Int))
 | []=>[]
 | a :: r=>runs k a :: runn (k+sumL a) r
def okN (x:List (List (List Int))):Prop:=∀ a∈x,a.length≤1048576∧∀ b∈a,b.length≤1048576
@[simp] theorem runn_len (x:List (List (List Int))):∀ k,(runn k x).length=x.length:=by
 induction x with
 | nil=>intro k;rfl
 | cons c r ih=>intro k;simp [runn,ih]
theorem Q6d (x:List (List (List Int))):∀ (i:Nat) (h:i<x.length),sumN (x.take (i+1))=sumN (x.take i)+sumL x[i]:=by
 induction x with
 | nil=>intro i h;simp at h
 | cons c r ih =>
  intro i h;cases i with
  | zero=>simp [sumN]
  | succ i =>
   have:=ih i (by simpa using h);simp only [sumN,List.take_succ_cons,List.map_cons,List.sum_cons,List.getElem_cons_succ] at this ⊢;omega
theorem sumN_le (x:List (List (List Int))):∀ (i:Nat),sumN (x.take i)≤sumN x:=by
 induction x with
 | nil=>intro i;simp [sumN]
 | cons c r ih =>
  intro i;cases i with
  | zero=>simp [sumN]
  | succ i =>
   have:=ih i;simp only [sumN,List.take_succ_cons,List.map_cons,List.sum_cons] at this ⊢;omega
theorem Q7x (x:List (List (List Int))):∀ (k:Int) (i:Nat) (h:i<x.length),(runn k x)[i]'(by simpa using h)=runs (k+sumN (x.take i)) x[i]:=by
 induction x with
 | nil=>intro k i h;simp at h
 | cons c r ih =>
  intro k i h;cases i with
  | zero=>simp [runn,sumN]
  | succ i =>
   simp only [runn,List.getElem_cons_succ];rw [ih _ i (by simpa using h)];have e:k+(sumL c:Int)+(sumN (r.take i):Int)=k+(sumN ((c :: r).take (i+1)):Int):=by
    simp only [sumN,List.take_succ_cons,List.map_cons,List.sum_cons]
    push_cast
    omega
   rw [e]
theorem set_takeN {α:Type} {xs ys:List α} {i:Nat} (h1:i<xs.length) (h2:i<ys.length) (h:ys.take i=xs.take i):(ys.set i xs[i]).take (i+1)=xs.take (i+1):=by
 rw [List.take_succ_eq_append_getElem h1,List.take_succ_eq_append_getElem (by simpa using h2),List.take_set_of_le (Nat.le_refl _),h];simp
theorem Es_nget {ys:List (List (List Int))} {i:Nat} (h:i<ys.length):(Es eL ys).getD i []=[.lst true 1 (Ls ys[i])]:=by
 simp [Es,List.getD_eq_getElem?_getD,h,eL]
theorem Es_nset {ys:List (List (List Int))} {i:Nat} {a:List (List Int)}:(Es eL ys).set i [.lst true 1 (Ls a)]=Es eL (ys.set i a):=by
 simp [Es,List.map_set,eL]
def Q1I (l:Int):List (List (List Int))→Int
 | []=>l
 | a :: r=>if Q11 l a<0 then -1 else Q1I (Q11 l a) r
def Q3L (l:Int) (x:List (List (List Int))):Int:=if l - x.length<0 then -1 else Q1I (l - x.length) x
theorem lessNS_le (x:List (List (List Int))):∀ l:Int,l≤1048576→Q1I l x≤1048576:=by
 induction x with
 | nil=>intro l h;simpa [Q1I] using h
 | cons x r ih=>intro l h;simp only [Q1I];split<;>first|omega|(exact ih _ (Q2s h))
theorem Q5l {l:Int} {xs:List (List (List Int))} (h:l≤1048576):Q3L l xs≤1048576:=by
 unfold Q3L;split
 ·omega
 exact lessNS_le _ _ (by omega)
theorem Q7K {l:Int} {xs:List (List Int)} (h:0≤Q11 l xs):Q11 l xs≤l - sumL xs:=by
 unfold Q11 at h ⊢;split at h
 ·omega
 rename_i h1;rw [if_neg h1];obtain ⟨b1,b2,b3⟩:=Q7h xs _ h;omega
theorem lessNS_ok (x:List (List (List Int))):∀ l:Int,0≤Q1I l x→(sumN x:Int)≤l∧(∀ a∈x,(a.length:Int)≤l∧∀ b∈a,(b.length:Int)≤l)∧Q1I l x≤l:=by
 induction x with
 | nil=>intro l h;simp only [Q1I] at h ⊢;simp [sumN];exact h
 | cons x r ih =>
  intro l h;simp only [Q1I] at h ⊢;split at h
  ·omega
  rename_i h1;rw [if_neg h1];obtain ⟨a1,a2,a3,a4⟩:=Q4r (l:=l) (xs:=x) (by omega);have a5:=Q7K (l:=l) (xs:=x) (by omega);obtain ⟨b1,b2,b3⟩:=ih _ h;have hs:sumN (x :: r)=sumL x+sumN r:=by simp [sumN]
  refine ⟨by rw [hs];push_cast;omega,fun y hy=>?_,by omega⟩;rcases List.mem_cons.1 hy with rfl|hy
  ·exact ⟨a1,a3⟩
  have:=b2 y hy;exact ⟨by omega,fun b hb=>by have:=this.2 b hb;omega⟩
theorem Q7g {l:Int} {xs:List (List (List Int))} (h:0≤Q3L l xs):(xs.length:Int)≤l∧(sumN xs:Int)≤l∧(∀ x∈xs,(x.length:Int)≤l∧∀ b∈x,(b.length:Int)≤l)∧Q3L l xs≤l:=by
 unfold Q3L at h ⊢;split at h
 ·omega
 rename_i h1;rw [if_neg h1];obtain ⟨b1,b2,b3⟩:=lessNS_ok xs _ h;exact ⟨by omega,by omega,fun x hx=>⟨by have:=(b2 x hx).1;omega,fun y hy=>by have:=(b2 x hx).2 y hy;omega⟩,by omega⟩
theorem Q6y (l:Int) (x:List (List (List Int))) (i:Nat) (h:i<x.length):Q1I l (x.drop i)=if Q11 l x[i]<0 then -1 else Q1I (Q11 l x[i]) (x.drop (i+1)):=by
 rw [List.drop_eq_getElem_cons h];rfl
theorem Contract.good {P : Program} {f : Nat} {av : List AV} {res : AV} (k : Nat) (hk : k < av.length) (he : ∃ fn, P.funcs[f]? = some fn ∧ (fn.name == "runtime.NumGoroutine") = false ∧ fn.body.isSome = true) (h : Good (av.getD k .bot) → Contract P f av res) : Contract P f av res :=
 ⟨he,fun w R vals hR hv hx=>(h (hx k hk).good).calls w R vals hR hv hx⟩
theorem goodN {x:List (List (List Int))} (h:Good (.lst true 1 (Es eL x))):x.length≤9223372036854775807:=by
 cases h with
 | lst h1=>simp [maxLen] at h1;omega
 | other h=>exact h.elim
theorem nset_fill {α:Type} (xs:List α) (k:Nat) (v z:α) {i:Nat} (h:i=xs.length):(xs++List.replicate (k+1) z).set i v=(xs++[v])++List.replicate k z:=by
 subst h;simp [List.replicate_succ]
theorem Q63 {σ ε β:Type} {body:σ→Option (Ctl σ ε)} {K:ε→Option β} {r:Option β} {s0:σ} (n:Nat) (g:Nat→σ) {e:ε} (h0:s0=g 0) (hn:n<4611686018427387904) (h:∀ i:Nat,i<n→body (g i)=some (.next (g (i+1)))) (he:body (g n)=some (.ret e)) (hk:K e=r):(Qx body fuel s0).bind K=r:=by
 rw [Q4e g n h0 hn h he];exact hk
theorem nloop_rel {σ ε:Type} {body:σ→Option (Ctl σ ε)} {I:Nat→σ→Prop} {J:ε→Prop} {n:Nat} (hs:∀ i s,i<n→I i s→(∃ s',body s=some (.next s')∧I (i+1) s')∨∃ e,body s=some (.ret e)∧J e) (he:∀ s,I n s→∃ e,body s=some (.ret e)∧J e) :
  ∀ (r i:Nat) (s:σ) (F:Nat),i+r=n→r<F→I i s→∃ e,Qx body F s=some e∧J e:=by
 intro r
 induction r with
 | zero =>
  intro i s F hi hF hI;obtain ⟨e,h1,h2⟩:=he s (by rw [show n=i by omega];exact hI);obtain ⟨F',rfl⟩:∃ F',F=F' + 1:=⟨F - 1,by omega⟩;simp only [Qx,h1];exact ⟨e,rfl,h2⟩
 | succ r ih =>
  intro i s F hi hF hI;obtain ⟨F',rfl⟩:∃ F',F=F' + 1:=⟨F - 1,by omega⟩;rcases hs i s (by omega) hI with ⟨s',h1,h2⟩|⟨e,h1,h2⟩
  ·simp only [Qx,h1];exact ih (i+1) s' F' (by omega) (by omega) h2
  simp only [Qx,h1];exact ⟨e,rfl,h2⟩
theorem Q51 {σ ε β:Type} {body:σ→Option (Ctl σ ε)} {K:ε→Option β} {s0:σ} {Q:Option β→Prop} (n:Nat) (I:Nat→σ→Prop) (J:ε→Prop) (hn:n<4611686018427387904) (h0:I 0 s0) (hs:∀ i s,i<n→I i s→(∃ s',body s=some (.next s')∧I (i+1) s')∨∃ e,body s=some (.ret e)∧J e)
  (he:∀ s,I n s→∃ e,body s=some (.ret e)∧J e) (hk:∀ e,J e→Q (K e)):Q ((Qx body fuel s0).bind K):=by
 obtain ⟨e,h1,h2⟩:=nloop_rel hs he n 0 s0 fuel (by omega) (by unfold fuel;omega) h0;rw [h1];exact hk e h2
theorem markN (x:List (List (List Int))) (k:Int) (h1:x.length≤1048576) (h1':okN x) (h2:0≤k) (h3:k+sumN x≤1152921504606846976) :
  MContract Try.prog 70 [.own 0 0 x.length,iV k] [⟨1,Es eL x,Es eL (runn k x)⟩] (iV (k+sumN x)):=by
 refine Q12 (ts:=[4]) (rv:=.int .i64 (k+sumN x)) Try.func70 rfl rfl ?_ rfl (by simp [Try.f70]) ?_ fun F hN hP=>?_
 ·have:(-9223372036854775808≤k+sumN x)∧k+sumN x≤9223372036854775807:=by omega
  simp [resV,this]
 ·intro j hj;simp at hj;subst hj;simp
 refine srQ hN fun K hK=>?_;simp;refine hK _ ?_;clear hK K;refine Q5 (w_sr mo (by rw [hN];decide) fun K hK=>?_);simp;refine hK _ (Qa ?_);clear hK K;refine QI (fun p:Nat × List (List (List Int))=>⟨[(0,.own 0 0 x.length),(1,iV (k+sumN (x.take p.1))),(5,iV p.1)],[(0,.row 1 (Es eL p.2))],1⟩) (fun p=>p.1≤x.length∧p.2.length=x.length∧p.2.take p.1=(runn k x).take p.1∧p.2.drop p.1=x.drop p.1) (fun p=>x.length - p.1) (0,x) (by simp) (Wk.cut (by simp [sumN]) (by simp [Q3M]) rfl) ?_
 rintro ⟨i,ys⟩ ⟨hi,hy,ht,hd⟩
 simp at hi hy ht hd;refine Q5 (w_sr mo (by rw [hN];decide) fun K hK=>?_);simp;refine hK _ (Qc rfl (fun h=>?_) fun h=>?_)<;>clear hK K
 ·simp at h;have hiy:i<ys.length:=by omega
  have he:ys[i]=x[i]:=by
   have h5:=congrArg (fun l=>l[0]?) hd;simpa [h,hiy] using h5
  have hm:=h1' _ (List.getElem_mem h);refine Qe ?_;simp only [Q3e];have hget:(Es eL ys).getD i []=[.lst true 1 (Ls x[i])]:=by rw [Es_nget hiy,he]
  have hlen:(Es eL ys).length=x.length:=by simp [hy]
  generalize hE:Es eL ys=E at *;have hi2:i<E.length:=by omega
  have hgi:∀ q:i<E.length,E[i]'q=[.lst true 1 (Ls x[i])]:=fun q=>by
   rw [← hget];simp [List.getD_eq_getElem?_getD,hi2]
  refine Q5 (Qa (w_runM mo (by rw [hN];decide) fun K hK=>?_));simp [h,hlen,hgi];have hs1:=Q6d x i h;have hs2:=sumN_le x (i+1);refine Q3u (m:=[1]) (m33 x[i] (k+sumN (x.take i)) hm.1 hm.2 (by omega) (by omega)) (MCall.cell (i:=i) (r:=0) (k:=0) (szr:=1) (esr:=E) (dels:=[1]) rfl rfl hi2 (by simp) (by simp [hgi,hi2]) (by simp [hgi,hi2]) (by simp) (by simp [Q5j])) rfl ?_ ?_ ?_
  ·intro q hq
   match q,hq with
   | 0,_ =>
    show MArg [1] (.own 1 0 x[i].length) (.own 0 0 x[i].length);exact .own (j:=0) (by simp)
   | 1,_=>exact .val
  ·intro j hj;have hj0:j=0:=(by simpa using hj);subst hj0;exact ⟨0,by simp,by simp [Occ]⟩
  simp [hgi,hi2];refine hK _ ?_;clear hK K;refine runQ hN fun K hK=>?_;simp;refine hK _ ?_;clear hK K;rw [Qr (n:=x.length) (by omega) (by omega)];refine ⟨(i+1,ys.set i (runs (k+sumN (x.take i)) x[i])),⟨by dsimp only;omega,by simp [hy],?_,?_⟩,by dsimp only;omega,Wk.relabel [(0,0)] (by simp) (by simp) (by rw [hP];simp) (by simp) (by simp) ?_ ?_⟩
  ·have:=set_takeN (xs:=runn k x) (ys:=ys) (i:=i) (by simpa using h) hiy ht;rw [Q7x x k i h] at this;exact this
  ·dsimp only;rw [List.drop_set_of_lt (by omega)];have:=congrArg (List.drop 1) hd;simpa [List.drop_drop,Nat.add_comm] using this
  ·simp [hs1,rl,Int.add_assoc]
  have hfin:E.set i [.lst true 1 (Ls (runs (k+sumN (x.take i)) x[i]))]=Es eL (ys.set i (runs (k+sumN (x.take i)) x[i])):=by
   rw [← hE,Es_nset]
  simp [rlE,hgi,hi2,hfin]
 simp at h;refine Qk ?_;simp;refine srQ hN fun K hK=>?_;simp;refine hK _ (Qi ?_);clear hK K;have hi':i=x.length:=by omega
 subst hi';rw [List.take_of_length_le (by omega),List.take_of_length_le (by simp)] at ht;subst ht;refine ⟨?_,?_⟩
 ·simp [Q6J]
 intro j hj;simp at hj;subst hj;simp
theorem e_szN (x:List (List (List Int))) (l:Int) (h0:0≤l) (hl:l≤1048576) (hx:x.length≤9223372036854775807):Q1F x l=some (Q3L l x):=by
 unfold Q1F;rw [Q6 (by unfold B64;omega)]
 by_cases h:l - x.length<0
 ·rw [if_pos h];unfold Q3L;rw [if_pos h]
 rw [if_neg h];have e1:Q3L l x=Q1I (l - x.length) x:=by unfold Q3L;rw [if_neg h]
 rw [e1];refine Q51 (σ:=Int × Int) (Q:=fun z=>z=some (Q1I (l - x.length) x)) x.length (fun i s=>s.2=(i:Int)∧0≤s.1∧s.1≤1048576∧Q1I (l - x.length) x=Q1I s.1 (x.drop i))
  (fun e=>match e with|.inl b=>Q1I (l - x.length) x=b|.inr b=>Q1I (l - x.length) x=b) (by omega) ⟨rfl,by simp;omega,by simp;omega,by simp⟩ ?_ ?_ ?_
 ·rintro i ⟨v,j⟩ hi ⟨rfl,a1,a2,a3⟩
  simp only at a1 a2 a3 ⊢;have hg:gx x i=x[i]:=by simp [gx,List.getD_eq_getElem?_getD,hi]
  rw [if_pos (by omega),Q6 (by omega),hg];unfold Q1X;rw [Q6 a1,Q6 a2];simp only [Option.bind_some];rw [Q6y _ _ i hi] at a3
  by_cases q:Q11 v x[i]<0
  ·rw [if_pos q] at a3;rw [if_pos q];exact .inr ⟨_,rfl,a3⟩
  rw [if_neg q] at a3;rw [if_neg q,Q6 (by unfold B64;omega)];exact .inl ⟨_,rfl,by push_cast;rfl,by omega,Q2s a2,a3⟩
 ·rintro ⟨v,j⟩ ⟨rfl,a1,a2,a3⟩
  simp only at a1 a2 a3 ⊢;rw [if_neg (by omega)];refine ⟨_,rfl,?_⟩;rw [a3,List.drop_of_length_le (Nat.le_refl _)];rfl
 rintro (b|b) hb<;>simp only at hb ⊢<;>rw [hb]
theorem cszN (u:Bool) (x:List (List (List Int))) (l:Int) (h1:0≤l) (h2:l≤1048576):Contract Try.prog 57 [.lst true 1 (Es eL x),iV l] (iV (Q3L l x)) :=
 Contract.good 0 (by simp) ⟨_,Try.func57,rfl,rfl⟩ fun g=>Q4Q x l _ (e_szN x l h1 h2 (goodN (by simpa using g)))
theorem e_toN (x:List (List (List Int))) (h1:x.length≤1048576) (h2:okN x):Q1G x=some x:=by
 unfold Q1G;rw [Q6 (by omega)];refine Q51 (σ:=List (List (List Int)) × Int) (Q:=fun z=>z=some x) x.length (fun i s=>s=(x.take i++List.replicate (x.length - i) [],(i:Int))) (fun e=>e=x) (by omega) (by simp) ?_ ?_ (fun e he=>by rw [he])
 ·rintro i s hi rfl
  have hg:gx x i=x[i]:=by simp [gx,List.getD_eq_getElem?_getD,hi]
  have hm:=h2 _ (List.getElem_mem hi);simp only;rw [if_pos (by omega),Q6 (by omega),hg];unfold Q1Y;rw [Q6 hm.1,Q6 hm.2];simp only [Option.bind_some];rw [Q6 (by simp;omega),Q6 (by unfold B64;omega)];refine .inl ⟨_,rfl,?_⟩;have e1:x.length - i=(x.length - (i+1))+1:=by omega
  refine Prod.ext ?_ (by push_cast;rfl);simp only [Int.toNat_natCast];rw [e1,nset_fill _ _ _ _ (by rw [List.length_take];omega),List.take_succ_eq_append_getElem hi]
 rintro s rfl
 simp only;rw [if_neg (by omega)];exact ⟨_,rfl,by simp⟩
theorem toN (u:Bool) (x:List (List (List Int))) (h1:x.length≤1048576) (h2:okN x):Contract Try.prog 61 [.lst true 1 (Es eL x)] (.lst true 1 (Es eL x)):=Q4R x _ (e_toN x h1 h2)
theorem e_eqSS (x:List (List Int)) (h:x.length≤1048576):Q1q x x=some true:=by
 unfold Q1q Q2i;rw [if_neg (by simp)];refine Q5d x.length (fun _=>True) (eb:=Sum.inr false) (eg:=Sum.inl ()) (by omega) (fun i hi _=>?_) (fun i hi q=>absurd trivial q) (by rw [if_neg (by omega)]) (fun q=>absurd (fun _ _=>trivial) q) fun _=>rfl;rw [if_pos (by omega),Q6 (by omega),Q6 (by omega)];simp only [not_true_eq_false,if_false,Option.bind_some,decide_true];rw [Q6 (by unfold B64;omega)]
theorem e_eqN (x:List (List (List Int))) (h:x.length≤1048576) (h2:okN x):Q1D x x=some true:=by
 unfold Q1D;rw [if_neg (by simp)];refine Q5d x.length (fun _=>True) (eb:=Sum.inr false) (eg:=Sum.inl ()) (by omega) (fun i hi _=>?_) (fun i hi q=>absurd trivial q) (by rw [if_neg (by omega)]) (fun q=>absurd (fun _ _=>trivial) q) fun _=>rfl;have hg:gx x i=x[i]:=by simp [gx,List.getD_eq_getElem?_getD,hi]
 have hm:=h2 _ (List.getElem_mem hi);rw [if_pos (by omega),Q6 (by omega),Q6 (by omega),hg,e_eqSS _ hm.1];simp only [not_true_eq_false,if_false,Option.bind_some];rw [Q6 (by unfold B64;omega)]
theorem eqN (u v:Bool) (x:List (List (List Int))) (h:x.length≤1048576) (h2:okN x):Contract Try.prog 69 [.lst true 1 (Es eL x),.lst true 1 (Es eL x)] (.val (.bool true)):=Q4O x x true (e_eqN x h h2)
theorem e_heldSS (x:List (List Int)) (k:Int) (h1:x.length≤1048576) (h1':∀ c∈x,c.length≤1048576) (h2:0≤k) (h3:k+sumL x≤1152921504606846976):Q13 (runs k x) k=some (k+sumL x):=by
 unfold Q13;refine Q63 (σ:=Int × Int) x.length (fun i=>(k+sumL (x.take i),(i:Int))) (e:=Sum.inl (k+sumL x)) (by simp [sumL]) (by omega) (fun i hi=>?_) ?_ rfl
 ·have hs1:=Q4B x i hi;have hs2:=Q6U x (i+1);have hcl:=h1' _ (List.getElem_mem hi);have hg:rx (runs k x) i=run (k+sumL (x.take i)) x[i].length:=by
   rw [← Q5v x k i hi];simp [rx,List.getD_eq_getElem?_getD,hi]
  unfold Q1E;simp only [hg];rw [if_pos (by simp;omega),Q6 (by simp;omega),Q6 (by simp;omega),Q6 (by omega),Q6 (by omega)];simp only [Option.bind_some,held_run];rw [if_neg (by omega),Q6 (by unfold B64;omega)]
  congr 3
  rw [hs1];push_cast;omega
 simp only;rw [if_neg (by simp)];rw [List.take_length]
theorem e_heldN (x:List (List (List Int))) (k:Int) (h1:x.length≤1048576) (h1':okN x) (h2:0≤k) (h3:k+sumN x≤1152921504606846976):Q1d (runn k x) k=some (k+sumN x):=by
 unfold Q1d;refine Q63 (σ:=Int × Int) x.length (fun i=>(k+sumN (x.take i),(i:Int))) (e:=Sum.inl (k+sumN x)) (by simp [sumN]) (by omega) (fun i hi=>?_) ?_ rfl
 ·have hs1:=Q6d x i hi;have hs2:=sumN_le x (i+1);have hcl:=h1' _ (List.getElem_mem hi);have hg:gx (runn k x) i=runs (k+sumN (x.take i)) x[i]:=by
   rw [← Q7x x k i hi];simp [gx,List.getD_eq_getElem?_getD,hi]
  simp only [hg];rw [if_pos (by simp;omega),Q6 (by simp;omega),e_heldSS _ _ hcl.1 hcl.2 (by omega) (by omega)];simp only [Option.bind_some];rw [if_neg (by omega),Q6 (by unfold B64;omega)]
  congr 3
  rw [hs1];push_cast;omega
 simp only;rw [if_neg (by simp)];rw [List.take_length]
theorem heldN (u:Bool) (x:List (List (List Int))) (k:Int) (h1:x.length≤1048576) (h1':okN x) (h2:0≤k) (h3:k+sumN x≤1152921504606846976):Contract Try.prog 71 [.lst true 1 (Es eL (runn k x)),iV k] (iV (k+sumN x)):=Q4c _ _ _ (e_heldN x k h1 h1' h2 h3)
theorem toCat (u:Bool) (c:Cat) (hc:c.ok):Contract Try.prog 45 [.agg (c.cells u)] (.agg (c.cells true)):=c18 c u hc
theorem cszCat (u:Bool) (c:Cat) (l:Int) (h1:0≤l) (h2:l≤1048576):Contract Try.prog 42 [.agg (c.cells u),iV l] (iV (Q2l l c)):=c13 u c l h1 h2
theorem Q1t {l:Int} {f:Cat} (h:l≤1048576):Q2l l f≤1048576:=szCat_le h
theorem mu_len {ms:List Mu} (h:∀ u∈ms,u.fs.length=u.es.length):∀ j,j<ms.length→(ms.getD j .none).fs.length=(ms.getD j .none).es.length:=fun j hj=>by rw [List.getD_eq_getElem?_getD,List.getElem?_eq_getElem hj];exact h _ (List.getElem_mem hj)
theorem markCat (f:Cat) (k:Int) (hf:f.ok) (h2:0≤k) (h3:k+f.size≤576460752303423488):MContract Try.prog 34 [.agg [iV f.n,.own 0 0 f.fr.length,.own 1 0 f.to.length,.own 2 0 f.id.length,.own 3 0 f.cs.length],iV k] (f.mu k) (iV (k+f.size)):=by
 have q:=m31 f k hf h2 (by omega)
 rwa [show k+f.fr.length+f.to.length+f.id.length+sumL f.cs=k+f.size by simp [Cat.size,Int.add_assoc]] at q
theorem Prf.pur {h:HP} {u v:Bool} {c:Prf}:PurL h (c.cells u) (c.cells v):=.cons .val (.cons .lst (.cons .lst (.cons .lst (.cons .lst (.cons .val (.cons .lst (.cons .lst (.cons .lst (.cons .lst (.cons .lst (.cons .lst (.cons .lst .nil))))))))))))
def Prf.mark (k:Int) (f:Prf):Prf:=⟨f.s.mark (k),f.t.mark (k+f.s.size),runs (k+f.s.size+f.t.size) f.sz,runn (k+f.s.size+f.t.size+sumL f.sz) f.bf,runn (k+f.s.size+f.t.size+sumL f.sz+sumN f.bf) f.bh⟩
def Prf.size (f:Prf):Nat:=f.s.size+f.t.size+sumL f.sz+sumN f.bf+sumN f.bh
def Prf.ok (f:Prf):Prop:=f.s.ok∧f.t.ok∧f.sz.length≤1048576∧(∀ xs∈f.sz,xs.length≤1048576)∧sumL f.sz≤1099511627776∧f.bf.length≤1048576∧okN f.bf∧sumN f.bf≤1099511627776∧f.bh.length≤1048576∧okN f.bh∧sumN f.bh≤1099511627776
def Prf.mu (f:Prf) (k:Int):List Mu:=[⟨1,Is f.s.fr,Is (f.mark k).s.fr⟩,⟨1,Is f.s.to,Is (f.mark k).s.to⟩,⟨1,Is f.s.id,Is (f.mark k).s.id⟩,⟨1,Ls f.s.cs,Ls (f.mark k).s.cs⟩,⟨1,Is f.t.fr,Is (f.mark k).t.fr⟩,⟨1,Is f.t.to,Is (f.mark k).t.to⟩,⟨1,Is f.t.id,Is (f.mark k).t.id⟩,⟨1,Ls f.t.cs,Ls (f.mark k).t.cs⟩,⟨1,Ls f.sz,Ls (f.mark k).sz⟩,⟨1,Es eL f.bf,Es eL (f.mark k).bf⟩,⟨1,Es eL f.bh,Es eL (f.mark k).bh⟩]
theorem Prf.ok_size {f:Prf} (h:f.ok):f.size≤5497564430336:=by
 obtain ⟨hs,ht,hsz1,hsz2,hsz3,hbf1,hbf2,hbf3,hbh1,hbh2,hbh3⟩:=h;have s_s:=Cat.ok_size hs;have s_t:=Cat.ok_size ht;simp only [Prf.size];omega
theorem eqPrf (u v:Bool) (f:Prf) (hf:f.ok):Contract Try.prog 14 [.agg (f.cells u),.agg (f.cells v)] (.val (.bool true)):=by
 obtain ⟨hs,ht,hsz1,hsz2,hsz3,hbf1,hbf2,hbf3,hbh1,hbh2,hbh3⟩:=hf;refine Qf (rs:=[.val (.bool true)]) Try.func14 rfl rfl rfl rfl (by simp [Try.f14]) fun F hN hP=>?_;refine srQ hN fun K hK=>?_;simp [Prf.cells];refine hK _ ?_;clear hK K;refine Q5 ?_;refine srQ hN fun K hK=>?_;simp;refine Q3 (c26 u v f.s) (.cons (.aggL Cat.pur) (.cons (.aggL Cat.pur) .nil)) ?_;simp [unk,unA,unE,flat];refine hK _ ?_;clear hK K;refine Qc rfl (fun h=>by simp at h) fun _=>?_;refine Qe ?_;refine Q5 ?_;refine srQ hN fun K hK=>?_;simp;refine Q3 (c26 u v f.t) (.cons (.aggL Cat.pur) (.cons (.aggL Cat.pur) .nil)) ?_;simp [unk,unA,unE,flat];refine hK _ ?_;clear hK K;refine Qc rfl (fun h=>by simp at h) fun _=>?_;refine Qe ?_;refine Q5 ?_;refine srQ hN fun K hK=>?_;simp;refine Q3 (c30 u v f.sz) (.cons .lst (.cons .lst .nil)) ?_;simp [unk,unA,unE,flat];refine hK _ ?_;clear hK K;refine Qc rfl (fun h=>by simp at h) fun _=>?_;refine Qe ?_;refine Q5 ?_;refine srQ hN fun K hK=>?_;simp;refine Q3 (eqN u v f.bf hbf1 hbf2) (.cons .lst (.cons .lst .nil)) ?_;simp [unk,unA,unE,flat];refine hK _ ?_;clear hK K;refine Qc rfl (fun h=>by simp at h) fun _=>?_;refine Qe ?_;refine Q5 ?_;refine srQ hN fun K hK=>?_;simp;refine Q3 (eqN u v f.bh hbh1 hbh2) (.cons .lst (.cons .lst .nil)) ?_;simp [unk,unA,unE,flat];refine hK _ ?_;clear hK K;refine Qc rfl (fun h=>by simp at h) fun _=>?_;refine Qe ?_;refine srQ hN fun K hK=>?_;simp;refine hK _ ?_;clear hK K;refine Qi (Qj rfl rfl)
theorem heldPrf (u:Bool) (f:Prf) (k:Int) (hf:f.ok) (h2:0≤k) (h3:k+f.size≤1152921504606846976):Contract Try.prog 16 [.agg ((f.mark k).cells u),iV k] (iV (k+f.size)):=by
 obtain ⟨hs,ht,hsz1,hsz2,hsz3,hbf1,hbf2,hbf3,hbh1,hbh2,hbh3⟩:=hf;have hz:f.size=f.s.size+f.t.size+sumL f.sz+sumN f.bf+sumN f.bh:=rfl;refine Qf (rs:=[iV (k+f.size)]) Try.func16 rfl rfl rfl rfl (by simp [Try.f16]) fun F hN hP=>?_;refine srQ hN fun K hK=>?_;simp [Prf.cells,Cat.mark,Prf.mark];refine hK _ ?_;clear hK K;refine srQ hN fun K hK=>?_;simp;refine Q3 (c36 u f.s (k) hs (by omega) (by omega)) (.cons (.aggL (.cons .val (.cons .lst (.cons .lst (.cons .lst (.cons .lst .nil)))))) (.cons .val .nil)) ?_;simp [unk,unA,unE,flat];refine hK _ ?_;clear hK K;refine Q5 ?_;refine srQ hN fun K hK=>?_;simp;refine hK _ ?_;clear hK K;refine Qc rfl (fun g=>?_) fun g=>?_
 ·simp at g;omega
 refine Qe ?_;refine srQ hN fun K hK=>?_;simp;refine Q3 (c36 u f.t (k+f.s.size) ht (by omega) (by omega)) (.cons (.aggL (.cons .val (.cons .lst (.cons .lst (.cons .lst (.cons .lst .nil)))))) (.cons .val .nil)) ?_;simp [unk,unA,unE,flat];refine hK _ ?_;clear hK K;refine Q5 ?_;refine srQ hN fun K hK=>?_;simp;refine hK _ ?_;clear hK K;refine Qc rfl (fun g=>?_) fun g=>?_
 ·simp at g;omega
 refine Qe ?_;refine srQ hN fun K hK=>?_;simp;refine Q3 (c54 u f.sz (k+f.s.size+f.t.size) hsz1 hsz2 (by omega) (by omega)) (.cons .lst (.cons .val .nil)) ?_;simp [unk,unA,unE,flat];refine hK _ ?_;clear hK K;refine Q5 ?_;refine srQ hN fun K hK=>?_;simp;refine hK _ ?_;clear hK K;refine Qc rfl (fun g=>?_) fun g=>?_
 ·simp at g;omega
 refine Qe ?_;refine srQ hN fun K hK=>?_;simp;refine Q3 (heldN u f.bf (k+f.s.size+f.t.size+sumL f.sz) hbf1 hbf2 (by omega) (by omega)) (.cons .lst (.cons .val .nil)) ?_;simp [unk,unA,unE,flat];refine hK _ ?_;clear hK K;refine Q5 ?_;refine srQ hN fun K hK=>?_;simp;refine hK _ ?_;clear hK K;refine Qc rfl (fun g=>?_) fun g=>?_
 ·simp at g;omega
 refine Qe ?_;refine srQ hN fun K hK=>?_;simp;refine Q3 (heldN u f.bh (k+f.s.size+f.t.size+sumL f.sz+sumN f.bf) hbh1 hbh2 (by omega) (by omega)) (.cons .lst (.cons .val .nil)) ?_;simp [unk,unA,unE,flat];refine hK _ ?_;clear hK K;refine Q5 ?_;refine srQ hN fun K hK=>?_;simp;refine hK _ ?_;clear hK K;refine Qc rfl (fun g=>?_) fun g=>?_
 ·simp at g;omega
 refine Qe ?_;refine srQ hN fun K hK=>?_;simp;refine hK _ ?_;clear hK K;refine Qi (Qj rfl ?_);simp [hz,Int.add_assoc]
theorem toPrf (u:Bool) (f:Prf) (hf:f.ok):Contract Try.prog 12 [.agg (f.cells u)] (.agg (f.cells true)):=by
 obtain ⟨hs,ht,hsz1,hsz2,hsz3,hbf1,hbf2,hbf3,hbh1,hbh2,hbh3⟩:=hf;refine Q1n Try.func12 rfl rfl Q6e rfl rfl (by simp [Try.f12]) fun F hN hP=>?_;refine srQ hN fun K hK=>?_;simp [Prf.cells];refine hK _ ?_;clear hK K;refine srQ hN fun K hK=>?_;simp;refine hK _ ?_;clear hK K;refine srQ hN fun K hK=>?_;simp;refine Q3 (toCat u f.s hs) (.cons (.aggL Cat.pur) .nil) ?_;simp [unk,unA,unE,flat,unC,Cat.cells];refine hK _ ?_;clear hK K;refine srQ hN fun K hK=>?_;simp;refine Q3 (toCat u f.t ht) (.cons (.aggL Cat.pur) .nil) ?_;simp [unk,unA,unE,flat,unC,Cat.cells];refine hK _ ?_;clear hK K;refine srQ hN fun K hK=>?_;simp;refine Q3 (c20 u f.sz hsz1 hsz2) (.cons .lst .nil) ?_;simp [unk,unA,unE,flat];refine hK _ ?_;clear hK K;refine srQ hN fun K hK=>?_;simp;refine Q3 (toN u f.bf hbf1 hbf2) (.cons .lst .nil) ?_;simp [unk,unA,unE,flat];refine hK _ ?_;clear hK K;refine srQ hN fun K hK=>?_;simp;refine Q3 (toN u f.bh hbh1 hbh2) (.cons .lst .nil) ?_;simp [unk,unA,unE,flat];refine hK _ ?_;clear hK K;refine srQ hN fun K hK=>?_;simp;refine hK _ ?_;clear hK K;refine Qi ⟨_,_,_,_,_,rfl,rfl,by simp,by simp,?_⟩;exact ⟨.agg rfl .nil,[iV f.s.n,lI f.s.fr,lI f.s.to,lI f.s.id,.lst true 1 (Ls f.s.cs),iV f.t.n,lI f.t.fr,lI f.t.to,lI f.t.id,.lst true 1 (Ls f.t.cs),.lst true 1 (Ls f.sz),.lst true 1 (Es eL f.bf),.lst true 1 (Es eL f.bh)],[4,5,6,7,9,10,11,12,13,14,15],by simp,by simp,UpL.refl _⟩
def Q4C (l:Int) (f:Prf):Int:=nn (Q2l l f.s) fun a0=>nn (Q2l a0 f.t) fun a1=>nn (Q11 a1 f.sz) fun a2=>nn (Q3L a2 f.bf) fun a3=>nn (Q3L a3 f.bh) fun a4=>a4
theorem szPrf_ok {l:Int} {f:Prf} (hl:l≤1048576) (h:0≤Q4C l f):f.ok:=by
 unfold Q4C at h;obtain ⟨p0,q0,_⟩:=Q5r h;have b0:=Q1t (f:=f.s) hl;obtain ⟨p1,q1,_⟩:=Q5r q0;have b1:=Q1t (f:=f.t) b0;obtain ⟨p2,q2,_⟩:=Q5r q1;obtain ⟨e2,e2a,e2b,_⟩:=Q4r p2;have b2:=Q2s (xs:=f.sz) b1;obtain ⟨p3,q3,_⟩:=Q5r q2;obtain ⟨e3,e3a,e3b,_⟩:=Q7g p3;have b3:=Q5l (xs:=f.bf) b2;obtain ⟨p4,q4,_⟩:=Q5r q3;obtain ⟨e4,e4a,e4b,_⟩:=Q7g p4;have b4:=Q5l (xs:=f.bh) b3;exact ⟨Q7B hl p0,Q7B b0 p1,by omega,fun x hx=>by have:=e2b x hx;omega,by omega,by omega,fun x hx=>⟨by have:=(e3b x hx).1;omega,fun y hy=>by have:=(e3b x hx).2 y hy;omega⟩,by omega,by omega,fun x hx=>⟨by have:=(e4b x hx).1;omega,fun y hy=>by have:=(e4b x hx).2 y hy;omega⟩,by omega⟩
theorem cszPrf (u:Bool) (f:Prf) (l:Int) (h1:0≤l) (h2:l≤1048576):Contract Try.prog 10 [.agg (f.cells u),iV l] (iV (Q4C l f)):=by
 refine Qf (rs:=[iV (Q4C l f)]) Try.func10 rfl rfl rfl rfl (by simp [Try.f10]) fun F hN hP=>?_;refine srQ hN fun K hK=>?_;simp [Prf.cells];refine hK _ ?_;clear hK K;refine srQ hN fun K hK=>?_;simp;refine Q3 (cszCat u f.s (l) h1 (h2)) (.cons (.aggL Cat.pur) (.cons .val .nil)) ?_;simp [unk,unA,unE,flat];refine hK _ ?_;clear hK K;refine Q5 ?_;refine srQ hN fun K hK=>?_;simp;refine hK _ ?_;clear hK K;refine Qc rfl (fun g1=>?_) fun g1=>?_
 ·simp at g1;refine srQ hN fun K hK=>?_;simp;refine hK _ ?_;clear hK K;refine Qi (Qj rfl ?_);simp only [Q4C,nn];rw [if_pos g1]
 simp at g1;refine Qe ?_;refine srQ hN fun K hK=>?_;simp;refine Q3 (cszCat u f.t (Q2l (l) f.s) g1 (Q1t (h2))) (.cons (.aggL Cat.pur) (.cons .val .nil)) ?_;simp [unk,unA,unE,flat];refine hK _ ?_;clear hK K;refine Q5 ?_;refine srQ hN fun K hK=>?_;simp;refine hK _ ?_;clear hK K;refine Qc rfl (fun g2=>?_) fun g2=>?_
 ·simp at g2;refine srQ hN fun K hK=>?_;simp;refine hK _ ?_;clear hK K;refine Qi (Qj rfl ?_);simp only [Q4C,nn];rw [if_neg (Int.not_lt.2 g1),if_pos g2]
 simp at g2;refine Qe ?_;refine srQ hN fun K hK=>?_;simp;refine Q3 (c15 u f.sz (Q2l (Q2l (l) f.s) f.t) g2 (Q1t (Q1t (h2)))) (.cons .lst (.cons .val .nil)) ?_;simp [unk,unA,unE,flat];refine hK _ ?_;clear hK K;refine Q5 ?_;refine srQ hN fun K hK=>?_;simp;refine hK _ ?_;clear hK K;refine Qc rfl (fun g3=>?_) fun g3=>?_
 ·simp at g3;refine srQ hN fun K hK=>?_;simp;refine hK _ ?_;clear hK K;refine Qi (Qj rfl ?_);simp only [Q4C,nn];rw [if_neg (Int.not_lt.2 g1),if_neg (Int.not_lt.2 g2),if_pos g3]
 simp at g3;refine Qe ?_;refine srQ hN fun K hK=>?_;simp;refine Q3 (cszN u f.bf (Q11 (Q2l (Q2l (l) f.s) f.t) f.sz) g3 (Q2s (Q1t (Q1t (h2))))) (.cons .lst (.cons .val .nil)) ?_;simp [unk,unA,unE,flat];refine hK _ ?_;clear hK K;refine Q5 ?_;refine srQ hN fun K hK=>?_;simp;refine hK _ ?_;clear hK K;refine Qc rfl (fun g4=>?_) fun g4=>?_
 ·simp at g4;refine srQ hN fun K hK=>?_;simp;refine hK _ ?_;clear hK K;refine Qi (Qj rfl ?_);simp only [Q4C,nn];rw [if_neg (Int.not_lt.2 g1),if_neg (Int.not_lt.2 g2),if_neg (Int.not_lt.2 g3),if_pos g4]
 simp at g4;refine Qe ?_;refine srQ hN fun K hK=>?_;simp;refine Q3 (cszN u f.bh (Q3L (Q11 (Q2l (Q2l (l) f.s) f.t) f.sz) f.bf) g4 (Q5l (Q2s (Q1t (Q1t (h2)))))) (.cons .lst (.cons .val .nil)) ?_;simp [unk,unA,unE,flat];refine hK _ ?_;clear hK K;refine Q5 ?_;refine srQ hN fun K hK=>?_;simp;refine hK _ ?_;clear hK K;refine Qc rfl (fun g5=>?_) fun g5=>?_
 ·simp at g5;refine srQ hN fun K hK=>?_;simp;refine hK _ ?_;clear hK K;refine Qi (Qj rfl ?_);simp only [Q4C,nn];rw [if_neg (Int.not_lt.2 g1),if_neg (Int.not_lt.2 g2),if_neg (Int.not_lt.2 g3),if_neg (Int.not_lt.2 g4),if_pos g5]
 simp at g5;refine Qe ?_;refine srQ hN fun K hK=>?_;simp;refine hK _ ?_;clear hK K;refine Qi (Qj rfl ?_);simp only [Q4C,nn];rw [if_neg (Int.not_lt.2 g1),if_neg (Int.not_lt.2 g2),if_neg (Int.not_lt.2 g3),if_neg (Int.not_lt.2 g4),if_neg (Int.not_lt.2 g5)]
theorem markPrf (f:Prf) (k:Int) (hf:f.ok) (h2:0≤k) (h3:k+f.size≤576460752303423488) :
  MContract Try.prog 15 [.agg [iV f.s.n,.own 0 0 f.s.fr.length,.own 1 0 f.s.to.length,.own 2 0 f.s.id.length,.own 3 0 f.s.cs.length,iV f.t.n,.own 4 0 f.t.fr.length,.own 5 0 f.t.to.length,.own 6 0 f.t.id.length,.own 7 0 f.t.cs.length,.own 8 0 f.sz.length,.own 9 0 f.bf.length,.own 10 0 f.bh.length],iV k] (f.mu k) (iV (k+f.size)):=by
 obtain ⟨hs,ht,hsz1,hsz2,hsz3,hbf1,hbf2,hbf3,hbh1,hbh2,hbh3⟩:=hf;have hz:f.size=f.s.size+f.t.size+sumL f.sz+sumN f.bf+sumN f.bh:=rfl;refine Q12 (ts:=[4]) (rv:=.int .i64 (k+f.size)) Try.func15 rfl rfl ?_ rfl (by simp [Try.f15]) ?_ fun F hN hP=>?_
 ·have:(-9223372036854775808≤k+f.size)∧k+f.size≤9223372036854775807:=by omega
  simp [resV,this]
 ·exact mu_len (by simp [Prf.mu,Prf.mark,Cat.mark])
 refine srQ hN fun K hK=>?_;simp [Q3M,Prf.mu];refine hK _ ?_;clear hK K;refine Q4I mo (by rw [hN];decide) fun K hK=>?_;simp;refine Q2A (m:=[0,1,2,3]) (markCat f.s (k) hs (by omega) (by omega)) (by decide) (.cons rfl (.cons rfl (.cons rfl (.cons rfl .nil)))) (.cons (.aggL (.cons .val (.cons (.own (j:=0) (by decide)) (.cons (.own (j:=1) (by decide)) (.cons (.own (j:=2) (by decide)) (.cons (.own (j:=3) (by decide)) .nil)))))) (.cons .val .nil)) rfl (by simp) ?_;simp [Q3N,Cat.mu];refine hK _ ?_;clear hK K;refine Q4I mo (by rw [hN];decide) fun K hK=>?_;simp;refine Q2A (m:=[4,5,6,7]) (markCat f.t (k+f.s.size) ht (by omega) (by omega)) (by decide) (.cons rfl (.cons rfl (.cons rfl (.cons rfl .nil)))) (.cons (.aggL (.cons .val (.cons (.own (j:=0) (by decide)) (.cons (.own (j:=1) (by decide)) (.cons (.own (j:=2) (by decide)) (.cons (.own (j:=3) (by decide)) .nil)))))) (.cons .val .nil)) rfl (by simp) ?_;simp [Q3N,Cat.mu];refine hK _ ?_;clear hK K;refine Q4I mo (by rw [hN];decide) fun K hK=>?_;simp;refine Q1w (m33 f.sz (k+f.s.size+f.t.size) hsz1 hsz2 (by omega) (by omega)) rfl (by simp) ?_;simp;refine hK _ ?_;clear hK K;refine Q4I mo (by rw [hN];decide) fun K hK=>?_;simp;refine Q1w (markN f.bf (k+f.s.size+f.t.size+sumL f.sz) hbf1 hbf2 (by omega) (by omega)) rfl (by simp) ?_;simp;refine hK _ ?_;clear hK K;refine Q4I mo (by rw [hN];decide) fun K hK=>?_;simp;refine Q1w (markN f.bh (k+f.s.size+f.t.size+sumL f.sz+sumN f.bf) hbh1 hbh2 (by omega) (by omega)) rfl (by simp) ?_;simp;refine hK _ ?_;clear hK K;refine srQ hN fun K hK=>?_;simp;refine hK _ ?_;clear hK K;refine Qi (mret ?_ ?_)
 ·simp [hz,Int.add_assoc]
 exact (.cons rfl (.cons rfl (.cons rfl (.cons rfl (.cons rfl (.cons rfl (.cons rfl (.cons rfl (.cons rfl (.cons rfl (.cons rfl .nil)))))))))))
structure Fn.Is (f:Fn):Prop where
 s:f.s.Is
 t:f.t.Is
 lo:(f.ob.length:Int)=f.s.n
 la:f.ar.length=f.s.fr.length
 ob:∀ j:Nat,j<f.ob.length→0≤ix f.ob j∧ix f.ob j<f.t.n
 ar:∀ j:Nat,j<f.ar.length→0≤ix f.ar j∧ix f.ar j<f.t.fr.length
 ends:∀ a:Nat,a<f.s.fr.length→ix f.t.fr (ix f.ar a)=ix f.ob (ix f.s.fr a)∧ix f.t.to (ix f.ar a)=ix f.ob (ix f.s.to a)
 ids:∀ x:Nat,x<f.s.id.length→ix f.ar (ix f.s.id x)=ix f.t.id (ix f.ob x)
 comp:∀ a:Nat,a<f.s.fr.length→∀ b:Nat,b<f.s.fr.length→ix f.s.to a=ix f.s.fr b→ix f.ar (ix (rx f.s.cs a) b)=ix (rx f.t.cs (ix f.ar a)) (ix f.ar b)
attribute [local simp] eL eI Qw
noncomputable def Q1y (n_:Int):Option (List Int) :=
 ass (0≤n_∧n_≤1073741824) <|
 (Qx (σ:=List Int × Int) (ε:=List Int) (fun s6 =>
  if s6.2<((List.replicate n_.toNat 0).length:Int) then
   ass (0≤s6.2∧s6.2<(s6.1.length:Int)) <|
   ass (B64 (s6.2+1)) <|
   some (Ctl.next (s6.1.set s6.2.toNat s6.2,s6.2+1))
  else
   some (Ctl.ret s6.1)) fuel (List.replicate n_.toNat 0,0)).bind fun b2 =>
 some b2
theorem Q4E (n_:Int) (r:List Int) (h:Q1y n_=some r):Contract Try.prog 188 [iV n_] (lI r):=by
 refine Qg (rvs:=[.tmp 2]) (rs:=[lI r]) Try.func188 rfl rfl rfl rfl (by simp [Try.f188]) fun F hN hP=>?_;unfold Q1y at h;refine Q5 ?_;refine runQ hN fun K hK=>?_;simp [-Q0,-Q7,-Q1,-Q8,-Q2];repeat refine sdQ ?_
 refine hK _ ?_;clear hK K;refine tn ?_;refine Q9 (st':=⟨[(0,iV n_)],[],0⟩) (wkQ8 []) ?_;refine Q5 ?_;refine runQ hN fun K hK=>?_;replace h:=Q4 h;obtain ⟨a1,h⟩:=h;simp [-Q0,-Q7,-Q1,-Q8,-Q2];repeat refine sdQ ?_
 refine hK _ ?_;clear hK K;refine tn ?_;refine Q9 (st':=⟨[(3,.own 0 0 ((List.replicate n_.toNat 0).length))],[(0,rI (List.replicate n_.toNat 0))],1⟩) (wkQ8 [(0,0)]) ?_;refine Q5 ?_;refine Q5 ?_;refine runQ hN fun K hK=>?_;simp [-Q0,-Q7,-Q1,-Q8,-Q2];repeat refine sdQ ?_
 refine hK _ ?_;clear hK K;refine tn ?_;refine Q9 (st':=⟨[(3,.own 0 0 ((List.replicate n_.toNat 0).length)),(8,iV ((List.replicate n_.toNat 0).length:Int)),(9,iV 0)],[(0,rI (List.replicate n_.toNat 0))],1⟩) (wkQ8 [(0,0)]) ?_;replace h:=bind_some h;obtain ⟨e2,h,h2⟩:=h;refine Ql (fun b2:List Int=>⟨[(3,.own 0 0 b2.length)],[(0,rI b2)],1⟩) (fun b2=>b2=e2) ?_ ?_
 ·refine Qa ?_;refine Qs h (fun s6:List Int × Int=>⟨[(3,.own 0 0 s6.1.length),(8,iV ((List.replicate n_.toNat 0).length:Int)),(9,iV s6.2)],[(0,rI s6.1)],1⟩) (wkQ8 [(0,0)]) ?_;clear h;intro k6 s6 c6 h hk6;refine Q5 ?_;refine runQ hN fun K hK=>?_;simp [-Q0,-Q7,-Q1,-Q8,-Q2];repeat refine sdQ ?_
  refine hK _ ?_;clear hK K;refine tn ?_;refine Q9 (st':=⟨[(3,.own 0 0 s6.1.length),(8,iV ((List.replicate n_.toNat 0).length:Int)),(9,iV s6.2),(10,.val (.bool (decide (s6.2<((List.replicate n_.toNat 0).length:Int)))))],[(0,rI s6.1)],1⟩) (wkQ8 [(0,0)]) ?_;refine Q5 ?_;refine Qc rfl (fun g=>?_) fun g=>?_
  ·have g7:s6.2<((List.replicate n_.toNat 0).length:Int):=gQ;clear g;replace h:=if_l g7 h;refine Qe ?_;refine tn ?_;refine Q5 ?_;refine Qa ?_;refine Q5 ?_;refine runQ hN fun K hK=>?_;simp [-Q0,-Q7,-Q1,-Q8,-Q2];(repeat refine sdQ ?_);refine hK _ ?_;clear hK K;refine tn ?_;refine Q9 (st':=⟨[(3,.own 0 0 s6.1.length),(4,iV s6.2),(8,iV ((List.replicate n_.toNat 0).length:Int)),(9,iV s6.2)],[(0,rI s6.1)],1⟩) (wkQ8 [(0,0)]) ?_;refine runQ hN fun K hK=>?_;replace h:=Q4 h;obtain ⟨a8,h⟩:=h;simp [-Q0,-Q7,-Q1,-Q8,-Q2,at_I a8];(repeat refine sdQ ?_);refine hK _ ?_;clear hK K;refine bn ?_;refine tn ?_;refine Q9 (st':=⟨[(3,.own 0 0 ((s6.1.set s6.2.toNat s6.2).length)),(8,iV ((List.replicate n_.toNat 0).length:Int)),(9,iV s6.2)],[(0,rI (s6.1.set s6.2.toNat s6.2))],1⟩) (wkQ8 [(0,0)]) ?_;refine runQ hN fun K hK=>?_;replace h:=Q4 h;obtain ⟨a9,h⟩:=h;simp [-Q0,-Q7,-Q1,-Q8,-Q2,Qo a9];(repeat refine sdQ ?_);refine hK _ ?_;clear hK K;cases h;exact rn (s':=(s6.1.set s6.2.toNat s6.2,s6.2+1)) hk6 (wkQ8 [(0,0)])
  have g7:¬ (s6.2<((List.replicate n_.toNat 0).length:Int)):=gQ;clear g;replace h:=if_r g7 h;refine Qk ?_;refine tx ?_;refine lx ?_;refine bh ?_;cases h;exact jn (b:=s6.1) hk6 (wkQ8 [(0,0)])
 intro b2 hb2;have h:=h2;try rw [← hb2] at h
 clear h2;try dsimp only at h
 refine Q5 ?_;refine runQ hN fun K hK=>?_;simp [-Q0,-Q7,-Q1,-Q8,-Q2];repeat refine sdQ ?_
 refine hK _ ?_;clear hK K;refine tn ?_;refine Q9 (st':=⟨[(2,.own 0 0 b2.length)],[(0,rI b2)],1⟩) (wkQ8 [(0,0)]) ?_;refine Qi ?_;have hr:=Option.some.inj h;rw [← hr];refine ⟨_,(.tmp .nil),?_⟩;refine ⟨(.one rfl rfl .nil),[lI b2],[0],by simp [UA,U1,IA,I1,LA,L1,BA,B1,EA,E1,E2,eB,eI,eL],by simp,(UpL.refl _)⟩
theorem ix_iota (n:Nat) {j:Int} (h0:0≤j) (h1:j<n):ix (iota n) j=j:=by
 obtain ⟨i,rfl⟩:∃ i:Nat,j=i:=⟨j.toNat,by omega⟩;rw [← Q1k _ _ (show i<(iota n).length by simp [iota];omega)];simp [iota]
theorem set_fill {α:Type} (xs:List α) (k:Nat) (v z:α) {i:Nat} (h:i=xs.length):(xs++List.replicate (k+1) z).set i v=(xs++[v])++List.replicate k z:=by
 subst h;simp [List.replicate_succ]
theorem mem_bnd {f:List Int} {n:Int} (h:∀ j:Nat,j<f.length→0≤ix f j∧ix f j<n):∀ y∈f,0≤y∧y<n:=by
 intro y hy;obtain ⟨i,hi,rfl⟩:=List.getElem_of_mem hy;rw [Q1k _ _ hi];exact h i hi
theorem e_numbers {n:Int} (h0:0≤n) (h1:n≤1048576):Q1y n=some (iota n.toNat):=by
 unfold Q1y;rw [Q6 (by omega)];simp only [List.length_replicate];refine Q2z n.toNat (fun i:Nat=>iota i++List.replicate (n.toNat - i) 0) (e:=iota n.toNat) (by simp [iota]) (by omega) (fun i hi=>?_) (by simp) (by simp);obtain ⟨k,hk⟩:∃ k,n.toNat - i=k+1:=⟨n.toNat - i - 1,by omega⟩;have hl:(iota i).length=i:=by simp [iota]
 have hs:=set_fill (iota i) k (i:Int) 0 (i:=i) (by rw [hl]);rw [iota_succ,hk,show n.toNat - (i+1)=k by omega,← hs];simp (disch:=omega) [Q6,B64,hl];omega
attribute [local simp] eL eI Qw Q1o Cat.cells
noncomputable def QW (list_:List Cat):Option Bool :=
 (Qx (σ:=Int) (ε:=Unit ⊕ Bool) (fun s7 =>
  if s7<(list_.length:Int) then
   ass (0≤s7∧s7<(list_.length:Int)) <|
   (QE (gx list_ s7)).bind fun v10 =>
   if ¬ (v10=true) then
    some (Ctl.ret (Sum.inr false))
   else
    ass (B64 (s7+1)) <|
    some (Ctl.next (s7+1))
  else
   some (Ctl.ret (Sum.inl ()))) fuel 0).bind fun e1 =>
 match e1 with
 | .inl b1 =>
  some true
 | .inr p1 =>
  some p1
theorem Q3S (list_:List Cat) (r:Bool) (h:QW list_=some r):Contract Try.prog 153 [.lst true 1 (Es Q1o list_)] (.val (.bool r)):=by
 refine Qg (rvs:=[.tmp 2]) (rs:=[.val (.bool r)]) Try.func153 rfl rfl rfl rfl (by simp [Try.f153]) fun F hN hP=>?_;unfold QW at h;refine Q5 ?_;refine runQ hN fun K hK=>?_;simp [-Q0,-Q7,-Q1,-Q8,-Q2];repeat refine sdQ ?_
 refine hK _ ?_;clear hK K;refine tn ?_;refine Q9 (st':=⟨[(0,.lst true 1 (Es Q1o list_))],[],0⟩) (wkQ8 []) ?_;refine Q5 ?_;refine Q5 ?_;refine runQ hN fun K hK=>?_;simp [-Q0,-Q7,-Q1,-Q8,-Q2];repeat refine sdQ ?_
 refine hK _ ?_;clear hK K;refine tn ?_;refine Q9 (st':=⟨[(5,.lst true 1 (Es Q1o list_)),(6,iV (list_.length:Int)),(7,iV 0)],[],0⟩) (wkQ8 []) ?_;replace h:=bind_some h;obtain ⟨e1,h,h1⟩:=h;refine Ql (fun b1:Unit=>⟨[],[],0⟩) (fun b1=>Sum.inl b1=e1) ?_ ?_
 ·refine Qa ?_;refine Qs h (fun s7:Int=>⟨[(5,.lst true 1 (Es Q1o list_)),(6,iV (list_.length:Int)),(7,iV s7)],[],0⟩) (wkQ8 []) ?_;clear h;intro k7 s7 c7 h hk7;refine Q5 ?_;refine runQ hN fun K hK=>?_;simp [-Q0,-Q7,-Q1,-Q8,-Q2];repeat refine sdQ ?_
  refine hK _ ?_;clear hK K;refine tn ?_;refine Q9 (st':=⟨[(5,.lst true 1 (Es Q1o list_)),(6,iV (list_.length:Int)),(7,iV s7),(8,.val (.bool (decide (s7<(list_.length:Int)))))],[],0⟩) (wkQ8 []) ?_;refine Q5 ?_;refine Qc rfl (fun g=>?_) fun g=>?_
  ·have g8:s7<(list_.length:Int):=gQ;clear g;replace h:=if_l g8 h;refine Qe ?_;refine tn ?_;refine Q5 ?_;refine Qa ?_;refine Q5 ?_;refine runQ hN fun K hK=>?_;replace h:=Q4 h;obtain ⟨a9,h⟩:=h;simp [-Q0,-Q7,-Q1,-Q8,-Q2,at_E (c:=Q1o) a9];(repeat refine sdQ ?_);refine hK _ ?_;clear hK K;refine tn ?_;refine Q9 (st':=⟨[(4,.rptr (Cat.cells true (gx list_ s7))),(5,.lst true 1 (Es Q1o list_)),(6,iV (list_.length:Int)),(7,iV s7)],[],0⟩) (wkQ8 []) ?_;refine Q5 ?_;refine runQ hN fun K hK=>?_;simp [-Q0,-Q7,-Q1,-Q8,-Q2];(repeat with_reducible refine sdQ ?_);replace h:=bind_some h;obtain ⟨v10,hv10,h⟩:=h;refine Q3 (Q2H _ v10 hv10) (.cons (.preT (by simp [Cat.cells])) .nil) ?_;simp [-Q0,-Q7,-Q1,-Q8,-Q2,unk,unA,unE,unT,unC,flat];(repeat refine sdQ ?_);refine hK _ ?_;clear hK K;refine tn ?_;refine Q9 (st':=⟨[(5,.lst true 1 (Es Q1o list_)),(6,iV (list_.length:Int)),(7,iV s7),(13,.val (.bool (!v10)))],[],0⟩) (wkQ8 []) ?_;refine Qc rfl (fun g=>?_) fun g=>?_
   ·have g11:¬ (v10=true):=gQ;clear g;replace h:=if_l g11 h;refine Q5 ?_;refine runQ hN fun K hK=>?_;simp [-Q0,-Q7,-Q1,-Q8,-Q2];(repeat refine sdQ ?_);refine hK _ ?_;clear hK K;refine tn ?_;refine Q9 (st':=⟨[(2,.val (.bool false))],[],0⟩) (wkQ8 []) ?_;refine Qi ?_;refine br ?_;refine tr ?_;refine lr ?_;refine br ?_;refine tr ?_;cases h;have q:_=e1:=hk7;have h:=h1;rw [← q] at h;clear q;(try dsimp only at h);have hr:=Option.some.inj h;rw [← hr];refine ⟨_,(.tmp .nil),?_⟩;refine ⟨(.one rfl rfl .nil),[.val (.bool false)],[],by simp [Cat.cells,UA,U1,IA,I1,LA,L1,BA,B1,EA,E1,E2,eB,eI,eL],by simp,(UpL.refl _)⟩
   have g11:¬ (¬ (v10=true)):=gQ;clear g;replace h:=if_r g11 h;refine Qe ?_;refine bn ?_;refine tn ?_;refine runQ hN fun K hK=>?_;replace h:=Q4 h;obtain ⟨a12,h⟩:=h;simp [-Q0,-Q7,-Q1,-Q8,-Q2,Qo a12];(repeat refine sdQ ?_);refine hK _ ?_;clear hK K;cases h;exact rn (s':=s7+1) hk7 (wkQ8 [])
  have g8:¬ (s7<(list_.length:Int)):=gQ;clear g;replace h:=if_r g8 h;refine Qk ?_;refine tx ?_;refine lx ?_;refine bh ?_;cases h;exact jn (b:=()) hk7 (wkQ8 [])
 intro b1 hb1;have h:=h1;try rw [← hb1] at h
 clear h1;try dsimp only at h
 refine Q5 ?_;refine runQ hN fun K hK=>?_;simp [-Q0,-Q7,-Q1,-Q8,-Q2];repeat refine sdQ ?_
 refine hK _ ?_;clear hK K;refine tn ?_;refine Q9 (st':=⟨[(2,.val (.bool true))],[],0⟩) (wkQ8 []) ?_;refine Qi ?_;have hr:=Option.some.inj h;rw [← hr];refine ⟨_,(.tmp .nil),?_⟩;refine ⟨(.one rfl rfl .nil),[.val (.bool true)],[],by simp [Cat.cells,UA,U1,IA,I1,LA,L1,BA,B1,EA,E1,E2,eB,eI,eL],by simp,(UpL.refl _)⟩
structure Para (f g:Fn):Prop where
 hf:f.Is
 hg:g.Is
 s:f.s=g.s
 t:f.t=g.t
theorem Q7d {α:Type} [Inhabited α] (xs:List α) {i:Nat} (h:i<xs.length):gx xs i=xs[i]:=by simp [gx,List.getD_eq_getElem?_getD,h]
theorem e_areCats (cs:List Cat) (hl:cs.length≤1048576):QW cs=some (bo (∀ c∈cs,c.Is)):=by
 unfold QW;refine Q5d cs.length (fun i:Nat=>(gx cs i).Is) (eb:=Sum.inr false) (eg:=Sum.inl ()) (by omega) (fun a hi hp=>?_) (fun a hi hp=>?_) (by simp) (fun hx=>?_) fun q1=>?_
 ·simp (disch:=omega) [Q6,B64,QE,Qq hp,hi]
 ·simp (disch:=omega) [Q6,B64,QE,Qh hp,hi]
 ·rw [Qh (show ¬ ∀ c∈cs,c.Is from fun q=>hx fun i hi=>q _ (by rw [Q7d _ hi];exact List.getElem_mem hi))]
 rw [Qq (show ∀ c∈cs,c.Is from fun c hc=>by obtain ⟨i,hi,rfl⟩:=List.getElem_of_mem hc;have:=q1 i hi;rwa [Q7d _ hi] at this)]
def tab {α:Type} (n:Nat) (g:Nat→α):List α:=(List.range n).map g
@[simp] theorem tab_length {α:Type} (n:Nat) (g:Nat→α):(tab n g).length=n:=by simp [tab]
theorem Q4h {α:Type} (n:Nat) (g:Nat→α):tab (n+1) g=tab n g++[g n]:=by simp [tab,List.range_succ]
theorem ix_tab (n:Nat) (g:Nat→Int) {i:Nat} (h:i<n):ix (tab n g) i=g i:=by
 rw [← Q1k _ _ (show i<(tab n g).length by simpa using h)];simp [tab]
attribute [local simp] eL eI Qw Q1o Cat.cells
noncomputable def QU (f_:Int) (g_:Int) (c0_:Cat):Option Int :=
 (Q15 c0_ g_ f_).bind fun v1 =>
 some v1
theorem Q3f (f_:Int) (g_:Int) (c0_:Cat) (r:Int) (h:QU f_ g_ c0_=some r):Contract Try.prog 127 [iV f_,iV g_,.rptr [.rptr (Cat.cells true c0_)]] (iV r):=by
 refine Qg (rvs:=[.tmp 5]) (rs:=[iV r]) Try.func127 rfl rfl rfl rfl (by simp [Try.f127]) fun F hN hP=>?_;unfold QU at h;refine Q5 ?_;refine runQ hN fun K hK=>?_;simp [-Q0,-Q7,-Q1,-Q8,-Q2];repeat refine sdQ ?_
 refine hK _ ?_;clear hK K;refine tn ?_;refine Q9 (st':=⟨[(0,iV f_),(1,iV g_),(2,.rptr [.rptr (Cat.cells true c0_)])],[],0⟩) (wkQ8 []) ?_;refine Q5 ?_;refine runQ hN fun K hK=>?_;simp [-Q0,-Q7,-Q1,-Q8,-Q2];repeat with_reducible refine sdQ ?_
 replace h:=bind_some h;obtain ⟨v1,hv1,h⟩:=h;refine Q3 (Q3R _ _ _ v1 hv1) (.cons (.preT (by simp [Cat.cells])) (.cons .val (.cons .val .nil))) ?_;simp [-Q0,-Q7,-Q1,-Q8,-Q2,unk,unA,unE,unT,unC,flat];repeat refine sdQ ?_
 refine hK _ ?_;clear hK K;refine tn ?_;refine Q9 (st':=⟨[(5,iV v1)],[],0⟩) (wkQ8 []) ?_;refine Qi ?_;have hr:=Option.some.inj h;rw [← hr];refine ⟨_,(.tmp .nil),?_⟩;refine ⟨(.one rfl rfl .nil),[iV v1],[],by simp [Cat.cells,UA,U1,IA,I1,LA,L1,BA,B1,EA,E1,E2,eB,eI,eL],by simp,(UpL.refl _)⟩
attribute [local simp] eL eI Qw Q1o Cat.cells
noncomputable def Q1j (c_:Cat):Option Cat :=
 (Q18 c_.to).bind fun v1 =>
 (Q18 c_.fr).bind fun v2 =>
 (Q18 c_.id).bind fun v3 =>
 (
  (QD (⟨c_.n,v1,v2,v3,[]⟩:Cat)).bind fun v5 =>
  ass (0≤v5∧v5≤1073741824) <|
  (Qx (σ:=List (List Int) × Int) (ε:=List (List Int)) (fun s36 =>
   if s36.2<((List.replicate v5.toNat ([]:List Int)).length:Int) then
    (
     ass (0≤v5∧v5≤1073741824) <|
     ass (0≤s36.2∧s36.2<(s36.1.length:Int)) <|
     ass (0≤s36.2∧s36.2<((s36.1.set s36.2.toNat (List.replicate v5.toNat 0)).length:Int)) <|
     (Qx (σ:=List (List Int) × Int) (ε:=List (List Int)) (fun s53 =>
      if s53.2<((rx (s36.1.set s36.2.toNat (List.replicate v5.toNat 0)) s36.2).length:Int) then
       (
        ass (0≤s36.2∧s36.2<(s53.1.length:Int)) <|
        ass (0≤s53.2∧s53.2<((rx s53.1 s36.2).length:Int)) <|
        ass (0≤s36.2∧s36.2<(v2.length:Int)) <|
        ass (0≤s53.2∧s53.2<(v1.length:Int)) <|
        if (ix v2 s36.2)=(ix v1 s53.2) then
         ass (0≤s36.2∧s36.2<((s53.1.set s36.2.toNat ((rx s53.1 s36.2).set s53.2.toNat (-1))).length:Int)) <|
         (QU s36.2 s53.2 c_).bind fun v62 =>
         ass (0≤s53.2∧s53.2<((rx (s53.1.set s36.2.toNat ((rx s53.1 s36.2).set s53.2.toNat (-1))) s36.2).length:Int)) <|
         some ((s53.1.set s36.2.toNat ((rx s53.1 s36.2).set s53.2.toNat (-1))).set s36.2.toNat ((rx (s53.1.set s36.2.toNat ((rx s53.1 s36.2).set s53.2.toNat (-1))) s36.2).set s53.2.toNat v62))
        else
         some (s53.1.set s36.2.toNat ((rx s53.1 s36.2).set s53.2.toNat (-1))):Option (List (List Int))).bind fun b55 =>
       ass (B64 (s53.2+1)) <|
       some (Ctl.next (b55,s53.2+1))
      else
       some (Ctl.ret s53.1)) fuel (s36.1.set s36.2.toNat (List.replicate v5.toNat 0),0)).bind fun p53 =>
     some p53:Option (List (List Int))).bind fun b38 =>
    ass (B64 (s36.2+1)) <|
    some (Ctl.next (b38,s36.2+1))
   else
    some (Ctl.ret s36.1)) fuel (List.replicate v5.toNat ([]:List Int),0)).bind fun p36 =>
  some p36:Option (List (List Int))).bind fun v66 =>
 some (⟨c_.n,v1,v2,v3,v66⟩:Cat)
theorem Q45 (c_:Cat) (r:Cat) (h:Q1j c_=some r):Contract Try.prog 63 [.rptr (c_.cells true)] (.agg (r.cells true)):=by
 refine Qg (rvs:=[.cell 2 30]) (rs:=[.agg (r.cells true)]) Try.func63 rfl rfl rfl rfl (by simp [Try.f63]) fun F hN hP=>?_;unfold Q1j at h;refine Q5 ?_;refine runQ hN fun K hK=>?_;simp [-Q0,-Q7,-Q1,-Q8,-Q2];repeat refine sdQ ?_
 refine hK _ ?_;clear hK K;refine tn ?_;refine Q9 (st':=⟨[(1,.adr 0 0 0),(2,.adr 1 0 0)],[(0,.mix 1 [[.rptr (Cat.cells true c_)]]),(1,.mix 5 [[iV 0,.val (.slice none 0 0),.val (.slice none 0 0),.val (.slice none 0 0),.val (.slice none 0 0)]])],2⟩) (wkQ8 [(0,0),(1,1)]) ?_;refine Q5 ?_;refine runQ hN fun K hK=>?_;simp [-Q0,-Q7,-Q1,-Q8,-Q2];repeat with_reducible refine sdQ ?_
 replace h:=bind_some h;obtain ⟨v1,hv1,h⟩:=h;refine Q3 (Q33 _ v1 hv1) (.cons .lst .nil) ?_;simp [-Q0,-Q7,-Q1,-Q8,-Q2,unk,unA,unE,unT,unC,flat];repeat with_reducible refine sdQ ?_
 replace h:=bind_some h;obtain ⟨v2,hv2,h⟩:=h;refine Q3 (Q33 _ v2 hv2) (.cons .lst .nil) ?_;simp [-Q0,-Q7,-Q1,-Q8,-Q2,unk,unA,unE,unT,unC,flat];repeat with_reducible refine sdQ ?_
 replace h:=bind_some h;obtain ⟨v3,hv3,h⟩:=h;refine Q3 (Q33 _ v3 hv3) (.cons .lst .nil) ?_;simp [-Q0,-Q7,-Q1,-Q8,-Q2,unk,unA,unE,unT,unC,flat];repeat refine sdQ ?_
 refine hK _ ?_;clear hK K;refine tn ?_;refine Q9 (st':=⟨[(1,.adr 0 0 0),(2,.adr 1 0 0),(3,.adr 2 0 0)],[(0,.mix 1 [[.rptr (Cat.cells true c_)]]),(1,.mix 5 [[iV 0,.val (.slice none 0 0),.val (.slice none 0 0),.val (.slice none 0 0),.val (.slice none 0 0)]]),(2,.mix 5 [[iV c_.n,.own 3 0 v1.length,.own 4 0 v2.length,.own 5 0 v3.length,.val (.slice none 0 0)]]),(3,rI v1),(4,rI v2),(5,rI v3)],6⟩) (wkQ8 [(0,0),(1,1),(5,2),(2,3),(3,4),(4,5)]) ?_;refine Q5 ?_;refine w_runXM [] mo (by rw [hN];decide) fun K hK=>?_;simp [-Q0,-Q7,-Q1,-Q8,-Q2];repeat with_reducible refine sdQ ?_
 replace h:=bind_some h;obtain ⟨v66,hv66,h⟩:=h;refine callX_in (fz:=[]) (Q6v (ts:=[]) (e:={ v:=.tup [],set:=[(2,.mix 5 [[iV c_.n,.own 3 0 v1.length,.own 4 0 v2.length,.own 5 0 v3.length,.own 6 0 v66.length]])],del:=[],new:=[(6,.row 1 (Ls v66))],cnt:=1 }) Try.func126 rfl rfl rfl (by simp [Try.f126]) (by simp) (fineI (by simp)) (newI (by rfl)) fun F hN hP=>?_) ?_
 ·clear h;have h:=hv66;clear hv66;refine Q5 ?_;refine Q1v [] mo (by rw [hN];decide) fun K hK=>?_;simp [-Q0,-Q7,-Q1,-Q8,-Q2];repeat with_reducible refine sdQ ?_
  replace h:=bind_some h;obtain ⟨v5,hv5,h⟩:=h;refine Q22 (fz:=[]) (Q1g _ v5 hv5) (.cons (.field rfl (by simp [Cat.cells]) (.cons .val (.cons (.whole (by simp) (by simp) (by simp)) (.cons (.whole (by simp) (by simp) (by simp)) (.cons (.whole (by simp) (by simp) (by simp)) (.cons .nil .nil)))))) .nil) ?_;simp [-Q0,-Q7,-Q1,-Q8,-Q2,unk,unA,unE,unT,unC,flat];repeat refine sdQ ?_
  refine hK _ ?_;clear hK K;refine tn ?_;refine Q9 (st':=⟨[(0,.adr 2 0 0),(1,.fn 127 [.adr 0 0 0]),(4,iV v5)],[(0,.mix 1 [[.rptr (Cat.cells true c_)]]),(1,.mix 5 [[iV 0,.val (.slice none 0 0),.val (.slice none 0 0),.val (.slice none 0 0),.val (.slice none 0 0)]]),(2,.mix 5 [[iV c_.n,.own 3 0 v1.length,.own 4 0 v2.length,.own 5 0 v3.length,.val (.slice none 0 0)]]),(3,rI v1),(4,rI v2),(5,rI v3)],6⟩) (Wk.rP _ [(0,0),(1,1),(2,2),(3,3),(4,4),(5,5)] hP (by rfl) (by simp [hhOk,back,Cat.cells,UA,U1,IA,I1,LA,L1,BA,B1,EA,E1,E2,eB,eI,eL])) ?_;refine Q5 ?_;refine Q1v [11] mo (by rw [hN];decide) fun K hK=>?_;replace h:=Q4 h;obtain ⟨a6,h⟩:=h;simp [-Q0,-Q7,-Q1,-Q8,-Q2];repeat refine sdQ ?_
  refine hK _ ?_;clear hK K;refine tn ?_;refine Q9 (st':=⟨[(0,.adr 2 0 0),(1,.fn 127 [.adr 0 0 0]),(4,iV v5)],[(0,.mix 1 [[.rptr (Cat.cells true c_)]]),(1,.mix 5 [[iV 0,.val (.slice none 0 0),.val (.slice none 0 0),.val (.slice none 0 0),.val (.slice none 0 0)]]),(2,.mix 5 [[iV c_.n,.own 3 0 v1.length,.own 4 0 v2.length,.own 5 0 v3.length,.own 6 0 ((List.replicate v5.toNat ([]:List Int)).length)]]),(3,rI v1),(4,rI v2),(5,rI v3),(6,.row 1 (Ls (List.replicate v5.toNat ([]:List Int))))],7⟩) (Wk.rP _ [(0,0),(1,1),(2,2),(3,3),(4,4),(5,5),(6,6)] hP (by rfl) (by simp [hhOk,back,Cat.cells,UA,U1,IA,I1,LA,L1,BA,B1,EA,E1,E2,eB,eI,eL])) ?_;refine Q5 ?_;refine Q1v [] mo (by rw [hN];decide) fun K hK=>?_;simp [-Q0,-Q7,-Q1,-Q8,-Q2];repeat refine sdQ ?_
  refine hK _ ?_;clear hK K;refine tn ?_;refine Q9 (st':=⟨[(0,.adr 2 0 0),(1,.fn 127 [.adr 0 0 0]),(4,iV v5),(18,iV ((List.replicate v5.toNat ([]:List Int)).length:Int)),(19,iV 0)],[(0,.mix 1 [[.rptr (Cat.cells true c_)]]),(1,.mix 5 [[iV 0,.val (.slice none 0 0),.val (.slice none 0 0),.val (.slice none 0 0),.val (.slice none 0 0)]]),(2,.mix 5 [[iV c_.n,.own 3 0 v1.length,.own 4 0 v2.length,.own 5 0 v3.length,.own 6 0 ((List.replicate v5.toNat ([]:List Int)).length)]]),(3,rI v1),(4,rI v2),(5,rI v3),(6,.row 1 (Ls (List.replicate v5.toNat ([]:List Int))))],7⟩) (Wk.rP _ [(0,0),(1,1),(2,2),(3,3),(4,4),(5,5),(6,6)] hP (by rfl) (by simp [hhOk,back,Cat.cells,UA,U1,IA,I1,LA,L1,BA,B1,EA,E1,E2,eB,eI,eL])) ?_;refine Qa ?_;replace h:=bind_some h;obtain ⟨e36,he36,h36⟩:=h;refine Qs he36 (fun s36:List (List Int) × Int=>⟨[(0,.adr 2 0 0),(1,.fn 127 [.adr 0 0 0]),(4,iV v5),(18,iV ((List.replicate v5.toNat ([]:List Int)).length:Int)),(19,iV s36.2)],[(0,.mix 1 [[.rptr (Cat.cells true c_)]]),(1,.mix 5 [[iV 0,.val (.slice none 0 0),.val (.slice none 0 0),.val (.slice none 0 0),.val (.slice none 0 0)]]),(2,.mix 5 [[iV c_.n,.own 3 0 v1.length,.own 4 0 v2.length,.own 5 0 v3.length,.own 6 0 s36.1.length]]),(3,rI v1),(4,rI v2),(5,rI v3),(6,.row 1 (Ls s36.1))],7⟩) (Wk.rP _ [(0,0),(1,1),(2,2),(3,3),(4,4),(5,5),(6,6)] hP (by rfl) (by simp [hhOk,back,Cat.cells,UA,U1,IA,I1,LA,L1,BA,B1,EA,E1,E2,eB,eI,eL])) ?_;intro k36 s36 c36 h hk36;refine Q5 ?_;refine Q1v [] mo (by rw [hN];decide) fun K hK=>?_;simp [-Q0,-Q7,-Q1,-Q8,-Q2];repeat refine sdQ ?_
  refine hK _ ?_;clear hK K;refine tn ?_;refine Q9 (st':=⟨[(0,.adr 2 0 0),(1,.fn 127 [.adr 0 0 0]),(4,iV v5),(18,iV ((List.replicate v5.toNat ([]:List Int)).length:Int)),(19,iV s36.2),(20,.val (.bool (decide (s36.2<((List.replicate v5.toNat ([]:List Int)).length:Int)))))],[(0,.mix 1 [[.rptr (Cat.cells true c_)]]),(1,.mix 5 [[iV 0,.val (.slice none 0 0),.val (.slice none 0 0),.val (.slice none 0 0),.val (.slice none 0 0)]]),(2,.mix 5 [[iV c_.n,.own 3 0 v1.length,.own 4 0 v2.length,.own 5 0 v3.length,.own 6 0 s36.1.length]]),(3,rI v1),(4,rI v2),(5,rI v3),(6,.row 1 (Ls s36.1))],7⟩) (Wk.rP _ [(0,0),(1,1),(2,2),(3,3),(4,4),(5,5),(6,6)] hP (by rfl) (by simp [hhOk,back,Cat.cells,UA,U1,IA,I1,LA,L1,BA,B1,EA,E1,E2,eB,eI,eL])) ?_;refine Q5 ?_;refine Qc rfl (fun g=>?_) fun g=>?_
  ·have g37:s36.2<((List.replicate v5.toNat ([]:List Int)).length:Int):=gQ;clear g;replace h:=if_l g37 h;refine Qe ?_;refine tn ?_;refine Q5 ?_;replace h:=bind_some h;obtain ⟨e38,h,h38⟩:=h;refine Ql (fun b38:List (List Int)=>⟨[(0,.adr 2 0 0),(1,.fn 127 [.adr 0 0 0]),(4,iV v5),(18,iV ((List.replicate v5.toNat ([]:List Int)).length:Int)),(19,iV s36.2)],[(0,.mix 1 [[.rptr (Cat.cells true c_)]]),(1,.mix 5 [[iV 0,.val (.slice none 0 0),.val (.slice none 0 0),.val (.slice none 0 0),.val (.slice none 0 0)]]),(2,.mix 5 [[iV c_.n,.own 3 0 v1.length,.own 4 0 v2.length,.own 5 0 v3.length,.own 6 0 b38.length]]),(3,rI v1),(4,rI v2),(5,rI v3),(6,.row 1 (Ls b38))],7⟩) (fun b38=>b38=e38) ?_ ?_
   ·refine Qa ?_;refine Q5 ?_;refine Q1v [] mo (by rw [hN];decide) fun K hK=>?_;simp [-Q0,-Q7,-Q1,-Q8,-Q2];(repeat refine sdQ ?_);refine hK _ ?_;clear hK K;refine tn ?_;refine Q9 (st':=⟨[(0,.adr 2 0 0),(1,.fn 127 [.adr 0 0 0]),(4,iV v5),(5,iV s36.2),(18,iV ((List.replicate v5.toNat ([]:List Int)).length:Int)),(19,iV s36.2)],[(0,.mix 1 [[.rptr (Cat.cells true c_)]]),(1,.mix 5 [[iV 0,.val (.slice none 0 0),.val (.slice none 0 0),.val (.slice none 0 0),.val (.slice none 0 0)]]),(2,.mix 5 [[iV c_.n,.own 3 0 v1.length,.own 4 0 v2.length,.own 5 0 v3.length,.own 6 0 s36.1.length]]),(3,rI v1),(4,rI v2),(5,rI v3),(6,.row 1 (Ls s36.1))],7⟩) (Wk.rP _ [(0,0),(1,1),(2,2),(3,3),(4,4),(5,5),(6,6)] hP (by rfl) (by simp [hhOk,back,Cat.cells,UA,U1,IA,I1,LA,L1,BA,B1,EA,E1,E2,eB,eI,eL])) ?_;refine Q5 ?_;refine Q1v [] mo (by rw [hN];decide) fun K hK=>?_;replace h:=Q4 h;obtain ⟨a39,h⟩:=h;replace h:=Q4 h;obtain ⟨a40,h⟩:=h;simp [-Q0,-Q7,-Q1,-Q8,-Q2,at_L a40];(repeat with_reducible refine sdQ ?_);refine Q7z (fz:=[]) [] tf_22 rfl (b:=.lst true 1 (Is (List.replicate v5.toNat 0))) (ds:=[7]) (es2:=Ls (s36.1.set s36.2.toNat (List.replicate v5.toNat 0))) rfl (by simp) (by first|(simp;done)|(simp;omega)|omega) (by simp) (by simp) (by simp) (by simp) Ls_st ?_;simp [-Q0,-Q7,-Q1,-Q8,-Q2,at_L a40];(repeat refine sdQ ?_);refine hK _ ?_;clear hK K;refine tn ?_;refine Q9 (st':=⟨[(0,.adr 2 0 0),(1,.fn 127 [.adr 0 0 0]),(4,iV v5),(5,iV s36.2),(18,iV ((List.replicate v5.toNat ([]:List Int)).length:Int)),(19,iV s36.2)],[(0,.mix 1 [[.rptr (Cat.cells true c_)]]),(1,.mix 5 [[iV 0,.val (.slice none 0 0),.val (.slice none 0 0),.val (.slice none 0 0),.val (.slice none 0 0)]]),(2,.mix 5 [[iV c_.n,.own 3 0 v1.length,.own 4 0 v2.length,.own 5 0 v3.length,.own 6 0 ((s36.1.set s36.2.toNat (List.replicate v5.toNat 0)).length)]]),(3,rI v1),(4,rI v2),(5,rI v3),(6,.row 1 (Ls (s36.1.set s36.2.toNat (List.replicate v5.toNat 0))))],7⟩) (Wk.rP _ [(0,0),(1,1),(2,2),(3,3),(4,4),(5,5),(6,6)] hP (by rfl) (by simp [hhOk,back,Cat.cells,UA,U1,IA,I1,LA,L1,BA,B1,EA,E1,E2,eB,eI,eL])) ?_;refine Q5 ?_;refine Q1v [] mo (by rw [hN];decide) fun K hK=>?_;replace h:=Q4 h;obtain ⟨a41,h⟩:=h;simp [-Q0,-Q7,-Q1,-Q8,-Q2,at_L a41];(repeat refine sdQ ?_);refine hK _ ?_;clear hK K;refine tn ?_
    refine Q9 (st':=⟨[(0,.adr 2 0 0),(1,.fn 127 [.adr 0 0 0]),(4,iV v5),(5,iV s36.2),(18,iV ((List.replicate v5.toNat ([]:List Int)).length:Int)),(19,iV s36.2),(37,iV ((rx (s36.1.set s36.2.toNat (List.replicate v5.toNat 0)) s36.2).length:Int)),(38,iV 0)],[(0,.mix 1 [[.rptr (Cat.cells true c_)]]),(1,.mix 5 [[iV 0,.val (.slice none 0 0),.val (.slice none 0 0),.val (.slice none 0 0),.val (.slice none 0 0)]]),(2,.mix 5 [[iV c_.n,.own 3 0 v1.length,.own 4 0 v2.length,.own 5 0 v3.length,.own 6 0 ((s36.1.set s36.2.toNat (List.replicate v5.toNat 0)).length)]]),(3,rI v1),(4,rI v2),(5,rI v3),(6,.row 1 (Ls (s36.1.set s36.2.toNat (List.replicate v5.toNat 0))))],7⟩) (Wk.rP _ [(0,0),(1,1),(2,2),(3,3),(4,4),(5,5),(6,6)] hP (by rfl) (by simp [hhOk,back,Cat.cells,UA,U1,IA,I1,LA,L1,BA,B1,EA,E1,E2,eB,eI,eL])) ?_;refine Qa ?_;replace h:=bind_some h;obtain ⟨e53,he53,h53⟩:=h;refine Qs he53 (fun s53:List (List Int) × Int=>⟨[(0,.adr 2 0 0),(1,.fn 127 [.adr 0 0 0]),(4,iV v5),(5,iV s36.2),(18,iV ((List.replicate v5.toNat ([]:List Int)).length:Int)),(19,iV s36.2),(37,iV ((rx (s36.1.set s36.2.toNat (List.replicate v5.toNat 0)) s36.2).length:Int)),(38,iV s53.2)],[(0,.mix 1 [[.rptr (Cat.cells true c_)]]),(1,.mix 5 [[iV 0,.val (.slice none 0 0),.val (.slice none 0 0),.val (.slice none 0 0),.val (.slice none 0 0)]]),(2,.mix 5 [[iV c_.n,.own 3 0 v1.length,.own 4 0 v2.length,.own 5 0 v3.length,.own 6 0 s53.1.length]]),(3,rI v1),(4,rI v2),(5,rI v3),(6,.row 1 (Ls s53.1))],7⟩) (Wk.rP _ [(0,0),(1,1),(2,2),(3,3),(4,4),(5,5),(6,6)] hP (by rfl) (by simp [hhOk,back,Cat.cells,UA,U1,IA,I1,LA,L1,BA,B1,EA,E1,E2,eB,eI,eL])) ?_;intro k53 s53 c53 h hk53;refine Q5 ?_;refine Q1v [] mo (by rw [hN];decide) fun K hK=>?_;simp [-Q0,-Q7,-Q1,-Q8,-Q2];(repeat refine sdQ ?_);refine hK _ ?_;clear hK K;refine tn ?_;refine Q9 (st':=⟨[(0,.adr 2 0 0),(1,.fn 127 [.adr 0 0 0]),(4,iV v5),(5,iV s36.2),(18,iV ((List.replicate v5.toNat ([]:List Int)).length:Int)),(19,iV s36.2),(37,iV ((rx (s36.1.set s36.2.toNat (List.replicate v5.toNat 0)) s36.2).length:Int)),(38,iV s53.2),(39,.val (.bool (decide (s53.2<((rx (s36.1.set s36.2.toNat (List.replicate v5.toNat 0)) s36.2).length:Int)))))],[(0,.mix 1 [[.rptr (Cat.cells true c_)]]),(1,.mix 5 [[iV 0,.val (.slice none 0 0),.val (.slice none 0 0),.val (.slice none 0 0),.val (.slice none 0 0)]]),(2,.mix 5 [[iV c_.n,.own 3 0 v1.length,.own 4 0 v2.length,.own 5 0 v3.length,.own 6 0 s53.1.length]]),(3,rI v1),(4,rI v2),(5,rI v3),(6,.row 1 (Ls s53.1))],7⟩) (Wk.rP _ [(0,0),(1,1),(2,2),(3,3),(4,4),(5,5),(6,6)] hP (by rfl) (by simp [hhOk,back,Cat.cells,UA,U1,IA,I1,LA,L1,BA,B1,EA,E1,E2,eB,eI,eL])) ?_;refine Q5 ?_;refine Qc rfl (fun g=>?_) fun g=>?_
    ·have g54:s53.2<((rx (s36.1.set s36.2.toNat (List.replicate v5.toNat 0)) s36.2).length:Int):=gQ;clear g;replace h:=if_l g54 h;refine Qe ?_;refine tn ?_;refine Q5 ?_;replace h:=bind_some h;obtain ⟨e55,h,h55⟩:=h;refine Ql (fun b55:List (List Int)=>⟨[(0,.adr 2 0 0),(1,.fn 127 [.adr 0 0 0]),(4,iV v5),(5,iV s36.2),(18,iV ((List.replicate v5.toNat ([]:List Int)).length:Int)),(19,iV s36.2),(37,iV ((rx (s36.1.set s36.2.toNat (List.replicate v5.toNat 0)) s36.2).length:Int)),(38,iV s53.2)],[(0,.mix 1 [[.rptr (Cat.cells true c_)]]),(1,.mix 5 [[iV 0,.val (.slice none 0 0),.val (.slice none 0 0),.val (.slice none 0 0),.val (.slice none 0 0)]]),(2,.mix 5 [[iV c_.n,.own 3 0 v1.length,.own 4 0 v2.length,.own 5 0 v3.length,.own 6 0 b55.length]]),(3,rI v1),(4,rI v2),(5,rI v3),(6,.row 1 (Ls b55))],7⟩) (fun b55=>b55=e55) ?_ ?_
     ·refine Qa ?_;refine Q5 ?_;refine Q1v [] mo (by rw [hN];decide) fun K hK=>?_;simp [-Q0,-Q7,-Q1,-Q8,-Q2];(repeat refine sdQ ?_);refine hK _ ?_;clear hK K;refine tn ?_;refine Q9 (st':=⟨[(0,.adr 2 0 0),(1,.fn 127 [.adr 0 0 0]),(4,iV v5),(5,iV s36.2),(6,iV s53.2),(18,iV ((List.replicate v5.toNat ([]:List Int)).length:Int)),(19,iV s36.2),(37,iV ((rx (s36.1.set s36.2.toNat (List.replicate v5.toNat 0)) s36.2).length:Int)),(38,iV s53.2)],[(0,.mix 1 [[.rptr (Cat.cells true c_)]]),(1,.mix 5 [[iV 0,.val (.slice none 0 0),.val (.slice none 0 0),.val (.slice none 0 0),.val (.slice none 0 0)]]),(2,.mix 5 [[iV c_.n,.own 3 0 v1.length,.own 4 0 v2.length,.own 5 0 v3.length,.own 6 0 s53.1.length]]),(3,rI v1),(4,rI v2),(5,rI v3),(6,.row 1 (Ls s53.1))],7⟩) (Wk.rP _ [(0,0),(1,1),(2,2),(3,3),(4,4),(5,5),(6,6)] hP (by rfl) (by simp [hhOk,back,Cat.cells,UA,U1,IA,I1,LA,L1,BA,B1,EA,E1,E2,eB,eI,eL])) ?_;refine Q5 ?_;refine Q1v [] mo (by rw [hN];decide) fun K hK=>?_;replace h:=Q4 h;obtain ⟨a56,h⟩:=h;replace h:=Q4 h;obtain ⟨a57,h⟩:=h;simp [-Q0,-Q7,-Q1,-Q8,-Q2,at_L a56,at_I a57];(repeat refine sdQ ?_);refine hK _ ?_;clear hK K;refine tn ?_;refine Q9 (st':=⟨[(0,.adr 2 0 0),(1,.fn 127 [.adr 0 0 0]),(4,iV v5),(5,iV s36.2),(6,iV s53.2),(18,iV ((List.replicate v5.toNat ([]:List Int)).length:Int)),(19,iV s36.2),(37,iV ((rx (s36.1.set s36.2.toNat (List.replicate v5.toNat 0)) s36.2).length:Int)),(38,iV s53.2)],[(0,.mix 1 [[.rptr (Cat.cells true c_)]]),(1,.mix 5 [[iV 0,.val (.slice none 0 0),.val (.slice none 0 0),.val (.slice none 0 0),.val (.slice none 0 0)]]),(2,.mix 5 [[iV c_.n,.own 3 0 v1.length,.own 4 0 v2.length,.own 5 0 v3.length,.own 6 0 ((s53.1.set s36.2.toNat ((rx s53.1 s36.2).set s53.2.toNat (-1))).length)]]),(3,rI v1),(4,rI v2),(5,rI v3),(6,.row 1 (Ls (s53.1.set s36.2.toNat ((rx s53.1 s36.2).set s53.2.toNat (-1)))))],7⟩) (Wk.rP _ [(0,0),(1,1),(2,2),(3,3),(4,4),(5,5),(6,6)] hP (by rfl) (by simp [hhOk,back,Cat.cells,UA,U1,IA,I1,LA,L1,BA,B1,EA,E1,E2,eB,eI,eL])) ?_;refine Q5 ?_;refine Q1v [] mo (by rw [hN];decide) fun K hK=>?_;replace h:=Q4 h;obtain ⟨a58,h⟩:=h;replace h:=Q4 h;obtain ⟨a59,h⟩:=h;simp [-Q0,-Q7,-Q1,-Q8,-Q2,at_I a58,at_I a59];(repeat refine sdQ ?_);refine hK _ ?_;clear hK K;refine tn ?_
      refine Q9 (st':=⟨[(0,.adr 2 0 0),(1,.fn 127 [.adr 0 0 0]),(4,iV v5),(5,iV s36.2),(6,iV s53.2),(18,iV ((List.replicate v5.toNat ([]:List Int)).length:Int)),(19,iV s36.2),(37,iV ((rx (s36.1.set s36.2.toNat (List.replicate v5.toNat 0)) s36.2).length:Int)),(38,iV s53.2),(64,.val (.bool ((ix v2 s36.2) == (ix v1 s53.2))))],[(0,.mix 1 [[.rptr (Cat.cells true c_)]]),(1,.mix 5 [[iV 0,.val (.slice none 0 0),.val (.slice none 0 0),.val (.slice none 0 0),.val (.slice none 0 0)]]),(2,.mix 5 [[iV c_.n,.own 3 0 v1.length,.own 4 0 v2.length,.own 5 0 v3.length,.own 6 0 ((s53.1.set s36.2.toNat ((rx s53.1 s36.2).set s53.2.toNat (-1))).length)]]),(3,rI v1),(4,rI v2),(5,rI v3),(6,.row 1 (Ls (s53.1.set s36.2.toNat ((rx s53.1 s36.2).set s53.2.toNat (-1)))))],7⟩) (Wk.rP _ [(0,0),(1,1),(2,2),(3,3),(4,4),(5,5),(6,6)] hP (by rfl) (by simp [hhOk,back,Cat.cells,UA,U1,IA,I1,LA,L1,BA,B1,EA,E1,E2,eB,eI,eL])) ?_;refine Qc rfl (fun g=>?_) fun g=>?_
      ·have g60:(ix v2 s36.2)=(ix v1 s53.2):=gQ;clear g;replace h:=if_l g60 h;refine Q1v [] mo (by rw [hN];decide) fun K hK=>?_;replace h:=Q4 h;obtain ⟨a61,h⟩:=h;simp [-Q0,-Q7,-Q1,-Q8,-Q2,at_L a61];(repeat with_reducible refine sdQ ?_);replace h:=bind_some h;obtain ⟨v62,hv62,h⟩:=h;refine Q22 (fz:=[]) (Q3f _ _ _ v62 hv62) (.cons .val (.cons .val (.cons (.field rfl (by simp [Cat.cells]) (.cons (.preT (by simp [Cat.cells])) .nil)) .nil))) ?_;replace h:=Q4 h;obtain ⟨a63,h⟩:=h;simp [-Q0,-Q7,-Q1,-Q8,-Q2,unk,unA,unE,unT,unC,flat,at_L a61,at_I a63];(repeat refine sdQ ?_);refine hK _ ?_;clear hK K;refine bn ?_;exact jn (b:=(s53.1.set s36.2.toNat ((rx s53.1 s36.2).set s53.2.toNat (-1))).set s36.2.toNat ((rx (s53.1.set s36.2.toNat ((rx s53.1 s36.2).set s53.2.toNat (-1))) s36.2).set s53.2.toNat v62)) (Option.some.inj h) (Wk.rP _ [(0,0),(1,1),(2,2),(3,3),(4,4),(5,5),(6,6)] hP (by rfl) (by simp [hhOk,back,Cat.cells,UA,U1,IA,I1,LA,L1,BA,B1,EA,E1,E2,eB,eI,eL]))
      have g60:¬ ((ix v2 s36.2)=(ix v1 s53.2)):=gQ;clear g;replace h:=if_r g60 h;refine Qe ?_;refine bn ?_;exact jn (b:=s53.1.set s36.2.toNat ((rx s53.1 s36.2).set s53.2.toNat (-1))) (Option.some.inj h) (Wk.rP _ [(0,0),(1,1),(2,2),(3,3),(4,4),(5,5),(6,6)] hP (by rfl) (by simp [hhOk,back,Cat.cells,UA,U1,IA,I1,LA,L1,BA,B1,EA,E1,E2,eB,eI,eL]))
     intro b55 hb55;have h:=h55;(try rw [← hb55] at h);clear h55;(try dsimp only at h);refine Q1v [] mo (by rw [hN];decide) fun K hK=>?_;replace h:=Q4 h;obtain ⟨a64,h⟩:=h;simp [-Q0,-Q7,-Q1,-Q8,-Q2,Qo a64];(repeat refine sdQ ?_);refine hK _ ?_;clear hK K;cases h;exact rn (s':=(b55,s53.2+1)) hk53 (Wk.rP _ [(0,0),(1,1),(2,2),(3,3),(4,4),(5,5),(6,6)] hP (by rfl) (by simp [hhOk,back,Cat.cells,UA,U1,IA,I1,LA,L1,BA,B1,EA,E1,E2,eB,eI,eL]))
    have g54:¬ (s53.2<((rx (s36.1.set s36.2.toNat (List.replicate v5.toNat 0)) s36.2).length:Int)):=gQ;clear g;replace h:=if_r g54 h;refine Qk ?_;refine tx ?_;refine lx ?_;refine bh ?_;refine bn ?_;cases h;have q:_=e53:=hk53;have h:=h53;rw [← q] at h;clear q;(try dsimp only at h);exact jn (b:=s53.1) (Option.some.inj h) (Wk.rP _ [(0,0),(1,1),(2,2),(3,3),(4,4),(5,5),(6,6)] hP (by rfl) (by simp [hhOk,back,Cat.cells,UA,U1,IA,I1,LA,L1,BA,B1,EA,E1,E2,eB,eI,eL]))
   intro b38 hb38;have h:=h38;(try rw [← hb38] at h);clear h38;(try dsimp only at h);refine Q1v [] mo (by rw [hN];decide) fun K hK=>?_;replace h:=Q4 h;obtain ⟨a65,h⟩:=h;simp [-Q0,-Q7,-Q1,-Q8,-Q2,Qo a65];(repeat refine sdQ ?_);refine hK _ ?_;clear hK K;cases h;exact rn (s':=(b38,s36.2+1)) hk36 (Wk.rP _ [(0,0),(1,1),(2,2),(3,3),(4,4),(5,5),(6,6)] hP (by rfl) (by simp [hhOk,back,Cat.cells,UA,U1,IA,I1,LA,L1,BA,B1,EA,E1,E2,eB,eI,eL]))
  have g37:¬ (s36.2<((List.replicate v5.toNat ([]:List Int)).length:Int)):=gQ;clear g;replace h:=if_r g37 h;refine Qk ?_;refine tx ?_;refine lx ?_;refine bh ?_;cases h;have q:_=e36:=hk36;have h:=h36;rw [← q] at h;clear q;try dsimp only at h
  cases h;first|refine iw_r (st':=⟨[],[(0,.mix 1 [[.rptr (Cat.cells true c_)]]),(1,.mix 5 [[iV 0,.val (.slice none 0 0),.val (.slice none 0 0),.val (.slice none 0 0),.val (.slice none 0 0)]]),(2,.mix 5 [[iV c_.n,.own 3 0 v1.length,.own 4 0 v2.length,.own 5 0 v3.length,.own 6 0 s36.1.length]]),(3,rI v1),(4,rI v2),(5,rI v3),(6,.row 1 (Ls s36.1))],7⟩) ?_ ?_|refine iw_n (st':=⟨[],[(0,.mix 1 [[.rptr (Cat.cells true c_)]]),(1,.mix 5 [[iV 0,.val (.slice none 0 0),.val (.slice none 0 0),.val (.slice none 0 0),.val (.slice none 0 0)]]),(2,.mix 5 [[iV c_.n,.own 3 0 v1.length,.own 4 0 v2.length,.own 5 0 v3.length,.own 6 0 s36.1.length]]),(3,rI v1),(4,rI v2),(5,rI v3),(6,.row 1 (Ls s36.1))],7⟩) ?_ ?_
  ·exact Wk.rP _ [(0,0),(1,1),(2,2),(3,3),(4,4),(5,5),(6,6)] hP (by rfl) (by simp [hhOk,back,Cat.cells,UA,U1,IA,I1,LA,L1,BA,B1,EA,E1,E2,eB,eI,eL])
  exact ⟨by simp [Q1u],by simp,by simp [Cat.cells]⟩
 simp [-Q0,-Q7,-Q1,-Q8,-Q2,unk,unA,unE,unT,unC,flat];repeat refine sdQ ?_
 refine hK _ ?_;clear hK K;refine tn ?_;refine Q9 (st':=⟨[(2,.adr 0 0 0),(3,.adr 1 0 0)],[(0,.mix 5 [[iV 0,.val (.slice none 0 0),.val (.slice none 0 0),.val (.slice none 0 0),.val (.slice none 0 0)]]),(1,.mix 5 [[iV c_.n,.own 2 0 v1.length,.own 3 0 v2.length,.own 4 0 v3.length,.own 5 0 v66.length]]),(2,rI v1),(3,rI v2),(4,rI v3),(5,.row 1 (Ls v66))],6⟩) (wkQ8 [(1,0),(2,1),(3,2),(4,3),(5,4),(6,5)]) ?_;refine Q5 ?_;refine runQ hN fun K hK=>?_;simp [-Q0,-Q7,-Q1,-Q8,-Q2];repeat refine sdQ ?_
 refine hK _ ?_;clear hK K;refine tn ?_;refine Q9 (st':=⟨[(2,.adr 0 0 0)],[(0,.mix 5 [[iV c_.n,.own 1 0 v1.length,.own 2 0 v2.length,.own 3 0 v3.length,.own 4 0 v66.length]]),(1,rI v1),(2,rI v2),(3,rI v3),(4,.row 1 (Ls v66))],5⟩) (wkQ8 [(0,0),(2,1),(3,2),(4,3),(5,4)]) ?_;refine Qi ?_;have hr:=Option.some.inj h;rw [← hr];refine ⟨_,(.cell tf_30 rfl rfl rfl (by simp) (by simp) .nil),?_⟩;refine ⟨(.agg rfl .nil),[iV c_.n,lI v1,lI v2,lI v3,.lst true 1 (Ls v66)],[1,2,3,4],by simp [Cat.cells,UA,U1,IA,I1,LA,L1,BA,B1,EA,E1,E2,eB,eI,eL],by simp,(UpL.refl _)⟩
attribute [local simp] eL eI Qw Q1o Cat.cells
noncomputable def Q2w (c_:Cat):Option Cat :=
 (Q20 c_.to).bind fun v1 =>
 (Q20 c_.fr).bind fun v2 =>
 (Q20 c_.id).bind fun v3 =>
 (Qx (σ:=List (List Int) × Int) (ε:=List (List Int)) (fun s20 =>
  if s20.2<(c_.fr.length:Int) then
   (Qx (σ:=List Int × Int) (ε:=List Int) (fun s28 =>
    if s28.2<(c_.fr.length:Int) then
     ass (0≤s28.2∧s28.2<(c_.cs.length:Int)) <|
     ass (0≤s20.2∧s20.2<((rx c_.cs s28.2).length:Int)) <|
     ass ((s28.1++[ix (rx c_.cs s28.2) s20.2]).length≤1073741824) <|
     ass (B64 (s28.2+1)) <|
     some (Ctl.next (s28.1++[ix (rx c_.cs s28.2) s20.2],s28.2+1))
    else
     some (Ctl.ret s28.1)) fuel ([],0)).bind fun b22 =>
   ass ((s20.1++[b22]).length≤1073741824) <|
   ass (B64 (s20.2+1)) <|
   some (Ctl.next (s20.1++[b22],s20.2+1))
  else
   some (Ctl.ret s20.1)) fuel ([],0)).bind fun b4 =>
 some (⟨c_.n,v1,v2,v3,b4⟩:Cat)
theorem Q6j (c_:Cat) (r:Cat) (h:Q2w c_=some r):Contract Try.prog 120 [.agg (c_.cells true)] (.agg (r.cells true)):=by
 refine Qg (rvs:=[.cell 2 30]) (rs:=[.agg (r.cells true)]) Try.func120 rfl rfl rfl rfl (by simp [Try.f120]) fun F hN hP=>?_;unfold Q2w at h;refine Q5 ?_;refine runQ hN fun K hK=>?_;simp [-Q0,-Q7,-Q1,-Q8,-Q2];repeat refine sdQ ?_
 refine hK _ ?_;clear hK K;refine tn ?_;refine Q9 (st':=⟨[(1,.adr 0 0 0),(2,.adr 1 0 0)],[(0,.mix 5 [(Cat.cells true c_)]),(1,.mix 5 [[iV 0,.val (.slice none 0 0),.val (.slice none 0 0),.val (.slice none 0 0),.val (.slice none 0 0)]])],2⟩) (wkQ8 [(0,0),(1,1)]) ?_;refine Q5 ?_;refine runQ hN fun K hK=>?_;simp [-Q0,-Q7,-Q1,-Q8,-Q2];repeat with_reducible refine sdQ ?_
 replace h:=bind_some h;obtain ⟨v1,hv1,h⟩:=h;refine Q3 (Q3T _ v1 hv1) (.cons .lst .nil) ?_;simp [-Q0,-Q7,-Q1,-Q8,-Q2,unk,unA,unE,unT,unC,flat];repeat with_reducible refine sdQ ?_
 replace h:=bind_some h;obtain ⟨v2,hv2,h⟩:=h;refine Q3 (Q3T _ v2 hv2) (.cons .lst .nil) ?_;simp [-Q0,-Q7,-Q1,-Q8,-Q2,unk,unA,unE,unT,unC,flat];repeat with_reducible refine sdQ ?_
 replace h:=bind_some h;obtain ⟨v3,hv3,h⟩:=h;refine Q3 (Q3T _ v3 hv3) (.cons .lst .nil) ?_;simp [-Q0,-Q7,-Q1,-Q8,-Q2,unk,unA,unE,unT,unC,flat];repeat refine sdQ ?_
 refine hK _ ?_;clear hK K;refine tn ?_;refine Q9 (st':=⟨[(1,.adr 0 0 0),(2,.adr 1 0 0),(3,.adr 2 0 0)],[(0,.mix 5 [(Cat.cells true c_)]),(1,.mix 5 [[iV 0,.val (.slice none 0 0),.val (.slice none 0 0),.val (.slice none 0 0),.val (.slice none 0 0)]]),(2,.mix 5 [[iV c_.n,.own 3 0 v1.length,.own 4 0 v2.length,.own 5 0 v3.length,.own 6 0 0]]),(3,rI v1),(4,rI v2),(5,rI v3),(6,.mix 1 [])],7⟩) (wkQ8 [(0,0),(1,1),(6,2),(2,3),(3,4),(4,5),(5,6)]) ?_;refine Q5 ?_;refine Q5 ?_;refine runQ hN fun K hK=>?_;simp [-Q0,-Q7,-Q1,-Q8,-Q2];repeat refine sdQ ?_
 refine hK _ ?_;clear hK K;refine tn ?_;refine Q9 (st':=⟨[(1,.adr 0 0 0),(2,.adr 1 0 0),(3,.adr 2 0 0),(4,iV 0)],[(0,.mix 5 [(Cat.cells true c_)]),(1,.mix 5 [[iV 0,.val (.slice none 0 0),.val (.slice none 0 0),.val (.slice none 0 0),.val (.slice none 0 0)]]),(2,.mix 5 [[iV c_.n,.own 3 0 v1.length,.own 4 0 v2.length,.own 5 0 v3.length,.own 6 0 0]]),(3,rI v1),(4,rI v2),(5,rI v3),(6,.mix 1 [])],7⟩) (wkQ8 [(0,0),(1,1),(2,2),(3,3),(4,4),(5,5),(6,6)]) ?_;replace h:=bind_some h;obtain ⟨e4,h,h4⟩:=h;refine Ql (fun b4:List (List Int)=>⟨[(2,.adr 0 0 0),(3,.adr 1 0 0)],[(0,.mix 5 [[iV 0,.val (.slice none 0 0),.val (.slice none 0 0),.val (.slice none 0 0),.val (.slice none 0 0)]]),(1,.mix 5 [[iV c_.n,.own 2 0 v1.length,.own 3 0 v2.length,.own 4 0 v3.length,.own 5 0 b4.length]]),(2,rI v1),(3,rI v2),(4,rI v3),(5,.row 1 (Ls b4))],6⟩) (fun b4=>b4=e4) ?_ ?_
 ·refine Qa ?_;refine Qs h (fun s20:List (List Int) × Int=>⟨[(1,.adr 0 0 0),(2,.adr 1 0 0),(3,.adr 2 0 0),(4,iV s20.2)],[(0,.mix 5 [(Cat.cells true c_)]),(1,.mix 5 [[iV 0,.val (.slice none 0 0),.val (.slice none 0 0),.val (.slice none 0 0),.val (.slice none 0 0)]]),(2,.mix 5 [[iV c_.n,.own 3 0 v1.length,.own 4 0 v2.length,.own 5 0 v3.length,.own 6 0 s20.1.length]]),(3,rI v1),(4,rI v2),(5,rI v3),(6,.row 1 (Ls s20.1))],7⟩) (Q4S ⟨[(1,.adr 0 0 0),(2,.adr 1 0 0),(3,.adr 2 0 0),(4,iV 0)],[(0,.mix 5 [(Cat.cells true c_)]),(1,.mix 5 [[iV 0,.val (.slice none 0 0),.val (.slice none 0 0),.val (.slice none 0 0),.val (.slice none 0 0)]]),(2,.mix 5 [[iV c_.n,.own 3 0 v1.length,.own 4 0 v2.length,.own 5 0 v3.length,.own 6 0 0]]),(3,rI v1),(4,rI v2),(5,rI v3),(6,.row 1 (Ls []))],7⟩ (Wk.nils [] (by simp) (by simp) (by simp [nlA]) (by simp [entN,nlL,nlA,Cat.cells,UA,U1,IA,I1,LA,L1,BA,B1,EA,E1,E2,eB,eI,eL]) (by simp)) (wkQ8 [(0,0),(1,1),(2,2),(3,3),(4,4),(5,5),(6,6)])) ?_;clear h;intro k20 s20 c20 h hk20;refine Q5 ?_;refine Q5 ?_;refine runQ hN fun K hK=>?_;simp [-Q0,-Q7,-Q1,-Q8,-Q2];repeat refine sdQ ?_
  refine hK _ ?_;clear hK K;refine tn ?_;refine Q9 (st':=⟨[(1,.adr 0 0 0),(2,.adr 1 0 0),(3,.adr 2 0 0),(4,iV s20.2),(24,.val (.bool (decide (s20.2<(c_.fr.length:Int)))))],[(0,.mix 5 [(Cat.cells true c_)]),(1,.mix 5 [[iV 0,.val (.slice none 0 0),.val (.slice none 0 0),.val (.slice none 0 0),.val (.slice none 0 0)]]),(2,.mix 5 [[iV c_.n,.own 3 0 v1.length,.own 4 0 v2.length,.own 5 0 v3.length,.own 6 0 s20.1.length]]),(3,rI v1),(4,rI v2),(5,rI v3),(6,.row 1 (Ls s20.1))],7⟩) (wkQ8 [(0,0),(1,1),(2,2),(3,3),(4,4),(5,5),(6,6)]) ?_;refine Qc rfl (fun g=>?_) fun g=>?_
  ·have g21:s20.2<(c_.fr.length:Int):=gQ;clear g;replace h:=if_l g21 h;refine Qe ?_;refine tn ?_;refine Q5 ?_;refine Qa ?_;refine Q5 ?_;refine runQ hN fun K hK=>?_;simp [-Q0,-Q7,-Q1,-Q8,-Q2];(repeat refine sdQ ?_);refine hK _ ?_;clear hK K;refine tn ?_;refine Q9 (st':=⟨[(1,.adr 0 0 0),(2,.adr 1 0 0),(3,.adr 2 0 0),(4,iV s20.2),(5,.own 7 0 0)],[(0,.mix 5 [(Cat.cells true c_)]),(1,.mix 5 [[iV 0,.val (.slice none 0 0),.val (.slice none 0 0),.val (.slice none 0 0),.val (.slice none 0 0)]]),(2,.mix 5 [[iV c_.n,.own 3 0 v1.length,.own 4 0 v2.length,.own 5 0 v3.length,.own 6 0 s20.1.length]]),(3,rI v1),(4,rI v2),(5,rI v3),(6,.row 1 (Ls s20.1)),(7,.mix 1 [])],8⟩) (wkQ8 [(0,0),(1,1),(2,2),(3,3),(4,4),(5,5),(6,6),(7,7)]) ?_;refine Q5 ?_;refine Q5 ?_;refine runQ hN fun K hK=>?_;simp [-Q0,-Q7,-Q1,-Q8,-Q2];(repeat refine sdQ ?_);refine hK _ ?_;clear hK K;refine tn ?_;refine Q9 (st':=⟨[(1,.adr 0 0 0),(2,.adr 1 0 0),(3,.adr 2 0 0),(4,iV s20.2),(5,.own 7 0 0),(6,iV 0)],[(0,.mix 5 [(Cat.cells true c_)]),(1,.mix 5 [[iV 0,.val (.slice none 0 0),.val (.slice none 0 0),.val (.slice none 0 0),.val (.slice none 0 0)]]),(2,.mix 5 [[iV c_.n,.own 3 0 v1.length,.own 4 0 v2.length,.own 5 0 v3.length,.own 6 0 s20.1.length]]),(3,rI v1),(4,rI v2),(5,rI v3),(6,.row 1 (Ls s20.1)),(7,.mix 1 [])],8⟩) (wkQ8 [(0,0),(1,1),(2,2),(3,3),(4,4),(5,5),(6,6),(7,7)]) ?_;replace h:=bind_some h;obtain ⟨e22,h,h22⟩:=h;refine Ql (fun b22:List Int=>⟨[(1,.adr 0 0 0),(2,.adr 1 0 0),(3,.adr 2 0 0),(4,iV s20.2),(5,.own 7 0 b22.length)],[(0,.mix 5 [(Cat.cells true c_)]),(1,.mix 5 [[iV 0,.val (.slice none 0 0),.val (.slice none 0 0),.val (.slice none 0 0),.val (.slice none 0 0)]]),(2,.mix 5 [[iV c_.n,.own 3 0 v1.length,.own 4 0 v2.length,.own 5 0 v3.length,.own 6 0 s20.1.length]]),(3,rI v1),(4,rI v2),(5,rI v3),(6,.row 1 (Ls s20.1)),(7,rI b22)],8⟩) (fun b22=>b22=e22) ?_ ?_
   ·refine Qa ?_;refine Qs h (fun s28:List Int × Int=>⟨[(1,.adr 0 0 0),(2,.adr 1 0 0),(3,.adr 2 0 0),(4,iV s20.2),(5,.own 7 0 s28.1.length),(6,iV s28.2)],[(0,.mix 5 [(Cat.cells true c_)]),(1,.mix 5 [[iV 0,.val (.slice none 0 0),.val (.slice none 0 0),.val (.slice none 0 0),.val (.slice none 0 0)]]),(2,.mix 5 [[iV c_.n,.own 3 0 v1.length,.own 4 0 v2.length,.own 5 0 v3.length,.own 6 0 s20.1.length]]),(3,rI v1),(4,rI v2),(5,rI v3),(6,.row 1 (Ls s20.1)),(7,rI s28.1)],8⟩) (Q4S ⟨[(1,.adr 0 0 0),(2,.adr 1 0 0),(3,.adr 2 0 0),(4,iV s20.2),(5,.own 7 0 0),(6,iV 0)],[(0,.mix 5 [(Cat.cells true c_)]),(1,.mix 5 [[iV 0,.val (.slice none 0 0),.val (.slice none 0 0),.val (.slice none 0 0),.val (.slice none 0 0)]]),(2,.mix 5 [[iV c_.n,.own 3 0 v1.length,.own 4 0 v2.length,.own 5 0 v3.length,.own 6 0 s20.1.length]]),(3,rI v1),(4,rI v2),(5,rI v3),(6,.row 1 (Ls s20.1)),(7,rI [])],8⟩ (Wk.nils [] (by simp) (by simp) (by simp [nlA]) (by simp [entN,nlL,nlA,Cat.cells,UA,U1,IA,I1,LA,L1,BA,B1,EA,E1,E2,eB,eI,eL]) (by simp)) (wkQ8 [(0,0),(1,1),(2,2),(3,3),(4,4),(5,5),(6,6),(7,7)])) ?_;clear h;intro k28 s28 c28 h hk28;refine Q5 ?_;refine Q5 ?_;refine runQ hN fun K hK=>?_;simp [-Q0,-Q7,-Q1,-Q8,-Q2];(repeat refine sdQ ?_);refine hK _ ?_;clear hK K;refine tn ?_;refine Q9 (st':=⟨[(1,.adr 0 0 0),(2,.adr 1 0 0),(3,.adr 2 0 0),(4,iV s20.2),(5,.own 7 0 s28.1.length),(6,iV s28.2),(32,.val (.bool (decide (s28.2<(c_.fr.length:Int)))))],[(0,.mix 5 [(Cat.cells true c_)]),(1,.mix 5 [[iV 0,.val (.slice none 0 0),.val (.slice none 0 0),.val (.slice none 0 0),.val (.slice none 0 0)]]),(2,.mix 5 [[iV c_.n,.own 3 0 v1.length,.own 4 0 v2.length,.own 5 0 v3.length,.own 6 0 s20.1.length]]),(3,rI v1),(4,rI v2),(5,rI v3),(6,.row 1 (Ls s20.1)),(7,rI s28.1)],8⟩) (wkQ8 [(0,0),(1,1),(2,2),(3,3),(4,4),(5,5),(6,6),(7,7)]) ?_;refine Qc rfl (fun g=>?_) fun g=>?_
    ·have g29:s28.2<(c_.fr.length:Int):=gQ;clear g;replace h:=if_l g29 h;refine Qe ?_;refine tn ?_;refine Q5 ?_;refine Qa ?_;refine runQ hN fun K hK=>?_;replace h:=Q4 h;obtain ⟨a30,h⟩:=h;replace h:=Q4 h;obtain ⟨a31,h⟩:=h;replace h:=Q4 h;obtain ⟨a32,h⟩:=h;(try simp only [List.length_append,List.length_cons,List.length_nil] at a32);simp [-Q0,-Q7,-Q1,-Q8,-Q2,at_L a30,at_I a31,a32];(repeat refine sdQ ?_);refine hK _ ?_;clear hK K;refine bn ?_;refine tn ?_;refine Q9 (st':=⟨[(1,.adr 0 0 0),(2,.adr 1 0 0),(3,.adr 2 0 0),(4,iV s20.2),(5,.own 7 0 ((s28.1++[ix (rx c_.cs s28.2) s20.2]).length)),(6,iV s28.2)],[(0,.mix 5 [(Cat.cells true c_)]),(1,.mix 5 [[iV 0,.val (.slice none 0 0),.val (.slice none 0 0),.val (.slice none 0 0),.val (.slice none 0 0)]]),(2,.mix 5 [[iV c_.n,.own 3 0 v1.length,.own 4 0 v2.length,.own 5 0 v3.length,.own 6 0 s20.1.length]]),(3,rI v1),(4,rI v2),(5,rI v3),(6,.row 1 (Ls s20.1)),(7,rI (s28.1++[ix (rx c_.cs s28.2) s20.2]))],8⟩) (wkQ8 [(0,0),(1,1),(2,2),(3,3),(4,4),(5,5),(6,6),(9,7)]) ?_;refine runQ hN fun K hK=>?_;replace h:=Q4 h;obtain ⟨a33,h⟩:=h;simp [-Q0,-Q7,-Q1,-Q8,-Q2,Qo a33];(repeat refine sdQ ?_);refine hK _ ?_;clear hK K;cases h;exact rn (s':=(s28.1++[ix (rx c_.cs s28.2) s20.2],s28.2+1)) hk28 (wkQ8 [(0,0),(1,1),(2,2),(3,3),(4,4),(5,5),(6,6),(7,7)])
    have g29:¬ (s28.2<(c_.fr.length:Int)):=gQ;clear g;replace h:=if_r g29 h;refine Qk ?_;refine tx ?_;refine lx ?_;refine bh ?_;cases h;exact jn (b:=s28.1) hk28 (wkQ8 [(0,0),(1,1),(2,2),(3,3),(4,4),(5,5),(6,6),(7,7)])
   intro b22 hb22;have h:=h22;(try rw [← hb22] at h);clear h22;(try dsimp only at h);refine runQ hN fun K hK=>?_;replace h:=Q4 h;obtain ⟨a34,h⟩:=h;(try simp only [List.length_append,List.length_cons,List.length_nil] at a34);simp [-Q0,-Q7,-Q1,-Q8,-Q2,a34];(repeat refine sdQ ?_);refine hK _ ?_;clear hK K;refine bn ?_;refine tn ?_;refine Q9 (st':=⟨[(1,.adr 0 0 0),(2,.adr 1 0 0),(3,.adr 2 0 0),(4,iV s20.2)],[(0,.mix 5 [(Cat.cells true c_)]),(1,.mix 5 [[iV 0,.val (.slice none 0 0),.val (.slice none 0 0),.val (.slice none 0 0),.val (.slice none 0 0)]]),(2,.mix 5 [[iV c_.n,.own 3 0 v1.length,.own 4 0 v2.length,.own 5 0 v3.length,.own 6 0 ((s20.1++[b22]).length)]]),(3,rI v1),(4,rI v2),(5,rI v3),(6,.row 1 (Ls (s20.1++[b22])))],7⟩) (wkQ8 [(0,0),(1,1),(2,2),(3,3),(4,4),(5,5),(9,6)]) ?_;refine runQ hN fun K hK=>?_;replace h:=Q4 h;obtain ⟨a35,h⟩:=h;simp [-Q0,-Q7,-Q1,-Q8,-Q2,Qo a35];(repeat refine sdQ ?_);refine hK _ ?_;clear hK K;cases h;exact rn (s':=(s20.1++[b22],s20.2+1)) hk20 (wkQ8 [(0,0),(1,1),(2,2),(3,3),(4,4),(5,5),(6,6)])
  have g21:¬ (s20.2<(c_.fr.length:Int)):=gQ;clear g;replace h:=if_r g21 h;refine Qk ?_;refine tx ?_;refine lx ?_;refine bh ?_;cases h;exact jn (b:=s20.1) hk20 (wkQ8 [(1,0),(2,1),(3,2),(4,3),(5,4),(6,5)])
 intro b4 hb4;have h:=h4;try rw [← hb4] at h
 clear h4;try dsimp only at h
 refine Q5 ?_;refine runQ hN fun K hK=>?_;simp [-Q0,-Q7,-Q1,-Q8,-Q2];repeat refine sdQ ?_
 refine hK _ ?_;clear hK K;refine tn ?_;refine Q9 (st':=⟨[(2,.adr 0 0 0)],[(0,.mix 5 [[iV c_.n,.own 1 0 v1.length,.own 2 0 v2.length,.own 3 0 v3.length,.own 4 0 b4.length]]),(1,rI v1),(2,rI v2),(3,rI v3),(4,.row 1 (Ls b4))],5⟩) (wkQ8 [(0,0),(2,1),(3,2),(4,3),(5,4)]) ?_;refine Qi ?_;have hr:=Option.some.inj h;rw [← hr];refine ⟨_,(.cell tf_30 rfl rfl rfl (by simp) (by simp) .nil),?_⟩;refine ⟨(.agg rfl .nil),[iV c_.n,lI v1,lI v2,lI v3,.lst true 1 (Ls b4)],[1,2,3,4],by simp [Cat.cells,UA,U1,IA,I1,LA,L1,BA,B1,EA,E1,E2,eB,eI,eL],by simp,(UpL.refl _)⟩
def mixr {α:Type} (m g:Nat) (v:Nat→α) (z:α):List α:=tab m fun j=>if j<g then v j else z
@[simp] theorem mixr_length {α:Type} (m g:Nat) (v:Nat→α) (z:α):(mixr m g v z).length=m:=by simp [mixr]
theorem Q5n {α:Type} {m g:Nat} {v:Nat→α} {z:α}:(mixr m g v z).set g (v g)=mixr m (g+1) v z:=by
 refine List.ext_getElem (by simp) fun j h1 h2=>?_;simp only [mixr,tab,List.getElem_set,List.getElem_map,List.getElem_range]
 by_cases h:g=j
 ·subst h;simp
 have:(j<g)=(j<g+1):=propext ⟨fun _=>by omega,fun _=>by omega⟩;simp [h,this]
theorem Q60 {α:Type} (m:Nat) (v:Nat→α) (z:α):mixr m 0 v z=List.replicate m z:=by
 refine List.ext_getElem (by simp) fun j h1 h2=>?_;simp [mixr,tab]
theorem Q7n {α:Type} (m:Nat) (v:Nat→α) (z:α):mixr m m v z=tab m v:=by
 refine List.ext_getElem (by simp) fun j h1 h2=>?_;have:j<m:=by simpa using h1
 simp [mixr,tab,this]
theorem rx_set {xs:List (List Int)} {i:Nat} (h:i<xs.length) (r:List Int):rx (xs.set i r) (i:Int)=r:=by
 simp [rx,List.getD_eq_getElem?_getD,h]
def opC (c:Cat):Cat:=⟨c.n,c.to,c.fr,c.id,tab c.fr.length fun f=>tab c.fr.length fun g=>ix (rx c.cs g) f⟩
theorem e_l03Op {c:Cat} (h:c.Sh):Q2w c=some (opC c):=by
 have h1:=h.lt;have h2:=h.m40;have h3:=h.lc;have h4:=h.li;have h5:=h.n8;unfold Q2w Q20;rw [Q6 (by omega),Q6 (by omega),Q6 (by omega)];simp only [Option.bind_some];refine Q2z c.fr.length (fun i=>tab i fun f=>tab c.fr.length fun g=>ix (rx c.cs g) f) (e:=tab c.fr.length fun f=>tab c.fr.length fun g=>ix (rx c.cs g) f) rfl (by omega) (fun i hi=>?_) (by simp) rfl;rw [if_pos (by simp only;omega)];refine Q2z c.fr.length (fun k=>tab k fun g=>ix (rx c.cs g) i) (e:=tab c.fr.length fun g=>ix (rx c.cs g) i) rfl (by omega) (fun k hk=>?_) (by simp) ?_
 ·have h6:=(h.rows k hk).1;simp (disch:=omega) [Q6,B64,Q4h];try omega
 simp (disch:=omega) [Q6,B64,Q4h];try omega
theorem op_cell {c:Cat} (h:c.Sh) {f g:Nat} (hf:f<c.fr.length) (hg:g<c.fr.length):(if ix c.fr f=ix c.to g then ix (rx c.cs g) f else -1)=ix (rx c.cs g) f:=by
 have q:=h.cell' (f:=g) (g:=f) (by omega) (by omega) (by omega) (by omega)
 by_cases e:ix c.to g=ix c.fr f
 ·rw [if_pos e.symm]
 rw [if_neg (fun x=>e x.symm),q.1 e]
theorem Q4W {c:Cat} (h:c.Sh):Q1j c=some (opC c):=by
 have h1:=h.lt;have h2:=h.m40;have h3:=h.lc;have h4:=h.li;have h5:=h.n8;unfold Q1j Q18 QD;rw [Q6 (by omega),Q6 (by omega),Q6 (by omega)];simp only [Option.bind_some,h1,Int.toNat_natCast];rw [Q6 (by omega),Option.bind_assoc];refine Q2z c.fr.length (fun i=>mixr c.fr.length i (fun f=>tab c.fr.length fun g=>ix (rx c.cs g) f) []) (e:=tab c.fr.length fun f=>tab c.fr.length fun g=>ix (rx c.cs g) f) (Q60 _ _ _).symm (by omega) (fun i hi=>?_) (by simp [Q7n]) rfl;simp only;rw [if_pos (by simp;omega),Q6 (by omega),Q6 (by simp;omega),Q6 (by simp;omega),Option.bind_assoc];simp only [Int.toNat_natCast];rw [rx_set (by simp;omega)];refine Q2z c.fr.length (fun k=>(mixr c.fr.length i (fun f=>tab c.fr.length fun g=>ix (rx c.cs g) f) []).set i (mixr c.fr.length k (fun g=>ix (rx c.cs g) i) 0)) (e:=(mixr c.fr.length i (fun f=>tab c.fr.length fun g=>ix (rx c.cs g) f) []).set i (tab c.fr.length fun g=>ix (rx c.cs g) i)) (by simp [Q60]) (by omega) (fun k hk=>?_) (by simp [Q7n]) ?_
 ·have h6:=(h.rows k hk).1;have h7:=op_cell h hi hk;have hl:i<(mixr c.fr.length i (fun f=>tab c.fr.length fun g=>ix (rx c.cs g) f) []).length:=by simpa using hi
  simp only;rw [if_pos (by simp;omega)];simp only [Int.toNat_natCast,rx_set hl,List.set_set];rw [Q6 (by simp;omega),Q6 (by simp;omega),Q6 (by omega),Q6 (by omega)]
  by_cases e:ix c.fr i=ix c.to k
  ·rw [if_pos e] at h7;rw [if_pos e,Q6 (by simp;omega)];unfold QU Q15;rw [Q6 (by omega),Q6 (by omega),Q6 (by omega),Q6 (by omega)];simp only [Option.bind_some];rw [Q6 (by simp;omega)];simp only [Option.bind_some];rw [Q6 (by unfold B64;omega),← Q5n]
  rw [if_neg e] at h7;rw [if_neg e];simp only [Option.bind_some];rw [Q6 (by unfold B64;omega),← Q5n,← h7]
 simp only [Option.bind_some];rw [Q6 (by unfold B64;omega),← Q5n]
theorem Q7q {c:Cat} (h:c.Sh):(opC c).ok∧(opC c).size≤2000:=by
 have h1:=h.lt;have h2:=h.m40;have h3:=h.lc;have h4:=h.li;have h5:=h.n8;have hr:∀ xs∈(opC c).cs,xs.length≤40:=by
  intro xs hx;obtain ⟨i,hi,rfl⟩:=List.mem_map.1 hx;simpa using h2
 have h7:=sumL_b hr;have h8:(opC c).cs.length=c.fr.length:=by simp [opC]
 have h9:(opC c).cs.length * 40≤40 * 40:=Nat.mul_le_mul_right _ (by omega);have e1:(opC c).fr=c.to:=rfl;have e2:(opC c).to=c.fr:=rfl;have e3:(opC c).id=c.id:=rfl;refine ⟨⟨by rw [e1];omega,by rw [e2];omega,by rw [e3];omega,by omega,fun xs hx=>by have:=hr xs hx;omega,by omega⟩,?_⟩;simp only [Cat.size,e1,e2,e3];omega
theorem Cat.Is.two {c:Cat} (h:c.Is) {f g:Int} (f0:0≤f∧f<c.fr.length) (g0:0≤g∧g<c.fr.length) (e:ix c.to f=ix c.fr g):(0≤ix (rx c.cs f) g∧ix (rx c.cs f) g<c.fr.length)∧ix c.fr (ix (rx c.cs f) g)=ix c.fr f∧ix c.to (ix (rx c.cs f) g)=ix c.to g:=by
 have:=(h.1.cell' f0.1 f0.2 g0.1 g0.2).2 e;exact ⟨⟨this.1,this.2.1⟩,this.2.2⟩
attribute [local simp] eL eI Qw Q23 Prf.cells
noncomputable def QJ (p_:Prf):Option Bool :=
 (Qx (σ:=Int) (ε:=Unit ⊕ Bool) (fun s112 =>
  if s112<p_.t.n then
   (
    (Qx (σ:=Int) (ε:=Unit ⊕ Bool) (fun s135 =>
     if s135<(p_.s.id.length:Int) then
      ass (0≤s135∧s135<(p_.s.id.length:Int)) <|
      (
       ass (0≤ix p_.s.id s135∧ix p_.s.id s135<(p_.bf.length:Int)) <|
       ass (0≤s112∧s112<((gx p_.bf (ix p_.s.id s135)).length:Int)) <|
       ass (0≤s135∧s135<(p_.sz.length:Int)) <|
       ass (0≤s112∧s112<((rx p_.sz s135).length:Int)) <|
       (Q1y (ix (rx p_.sz s135) s112)).bind fun v143 =>
       (Q1p (rx (gx p_.bf (ix p_.s.id s135)) s112) v143).bind fun v144 =>
       if ¬ (v144=true) then
        some true
       else
        ass (0≤s112∧s112<(p_.t.id.length:Int)) <|
        ass (0≤ix p_.t.id s112∧ix p_.t.id s112<(p_.bh.length:Int)) <|
        ass (0≤s135∧s135<((gx p_.bh (ix p_.t.id s112)).length:Int)) <|
        ass (0≤s135∧s135<(p_.sz.length:Int)) <|
        ass (0≤s112∧s112<((rx p_.sz s135).length:Int)) <|
        (Q1y (ix (rx p_.sz s135) s112)).bind fun v151 =>
        (Q1p (rx (gx p_.bh (ix p_.t.id s112)) s135) v151).bind fun v152 =>
        some (!v152):Option (Bool)).bind fun b138 =>
      if b138=true then
       some (Ctl.ret (Sum.inr false))
      else
       ass (B64 (s135+1)) <|
       some (Ctl.next (s135+1))
     else
      some (Ctl.ret (Sum.inl ()))) fuel 0).bind fun e115 =>
    match e115 with
    | .inl b115 =>
     (Qx (σ:=Int) (ε:=Bool ⊕ Unit) (fun s188 =>
      if s188<(p_.s.cs.length:Int) then
       (
        ass (0≤s188∧s188<(p_.s.cs.length:Int)) <|
        (Qx (σ:=Int) (ε:=Bool ⊕ Unit) (fun s206 =>
         if s206<((rx p_.s.cs s188).length:Int) then
          ass (0≤s206∧s206<((rx p_.s.cs s188).length:Int)) <|
          (
           if (ix (rx p_.s.cs s188) s206) ≥ 0 then
            ass (0≤ix (rx p_.s.cs s188) s206∧ix (rx p_.s.cs s188) s206<(p_.bf.length:Int)) <|
            ass (0≤s112∧s112<((gx p_.bf (ix (rx p_.s.cs s188) s206)).length:Int)) <|
            ass (0≤s206∧s206<(p_.bf.length:Int)) <|
            ass (0≤s112∧s112<((gx p_.bf s206).length:Int)) <|
            ass (0≤s188∧s188<(p_.bf.length:Int)) <|
            ass (0≤s112∧s112<((gx p_.bf s188).length:Int)) <|
            (Q1c (rx (gx p_.bf s206) s112) (rx (gx p_.bf s188) s112)).bind fun v217 =>
            (Q1p (rx (gx p_.bf (ix (rx p_.s.cs s188) s206)) s112) v217).bind fun v218 =>
            some (!v218)
           else
            some false:Option (Bool)).bind fun b209 =>
          if b209=true then
           some (Ctl.ret (Sum.inl false))
          else
           ass (B64 (s206+1)) <|
           some (Ctl.next (s206+1))
         else
          some (Ctl.ret (Sum.inr ()))) fuel 0).bind fun e206 =>
        match e206 with
        | .inl p206 =>
         some (Sum.inr p206)
        | .inr p206 =>
         some (Sum.inl p206):Option (Unit ⊕ Bool)).bind fun e190 =>
       match e190 with
       | .inl b190 =>
        ass (B64 (s188+1)) <|
        some (Ctl.next (s188+1))
       | .inr p190 =>
        some (Ctl.ret (Sum.inl p190))
      else
       some (Ctl.ret (Sum.inr ()))) fuel 0).bind fun e188 =>
     match e188 with
     | .inl p188 =>
      some (Sum.inr p188)
     | .inr p188 =>
      some (Sum.inl p188)
    | .inr p115 =>
     some (Sum.inr p115):Option (Unit ⊕ Bool)).bind fun e114 =>
   match e114 with
   | .inl b114 =>
    ass (B64 (s112+1)) <|
    some (Ctl.next (s112+1))
   | .inr p114 =>
    some (Ctl.ret (Sum.inr p114))
  else
   some (Ctl.ret (Sum.inl ()))) fuel 0).bind fun e1 =>
 match e1 with
 | .inl b1 =>
  (Qx (σ:=Int) (ε:=Unit ⊕ Bool) (fun s294 =>
   if s294<p_.s.n then
    (
     (Qx (σ:=Int) (ε:=Bool ⊕ Unit) (fun s330 =>
      if s330<(p_.t.cs.length:Int) then
       (
        ass (0≤s330∧s330<(p_.t.cs.length:Int)) <|
        (Qx (σ:=Int) (ε:=Bool ⊕ Unit) (fun s348 =>
         if s348<((rx p_.t.cs s330).length:Int) then
          ass (0≤s348∧s348<((rx p_.t.cs s330).length:Int)) <|
          (
           if (ix (rx p_.t.cs s330) s348) ≥ 0 then
            ass (0≤ix (rx p_.t.cs s330) s348∧ix (rx p_.t.cs s330) s348<(p_.bh.length:Int)) <|
            ass (0≤s294∧s294<((gx p_.bh (ix (rx p_.t.cs s330) s348)).length:Int)) <|
            ass (0≤s330∧s330<(p_.bh.length:Int)) <|
            ass (0≤s294∧s294<((gx p_.bh s330).length:Int)) <|
            ass (0≤s348∧s348<(p_.bh.length:Int)) <|
            ass (0≤s294∧s294<((gx p_.bh s348).length:Int)) <|
            (Q1c (rx (gx p_.bh s330) s294) (rx (gx p_.bh s348) s294)).bind fun v359 =>
            (Q1p (rx (gx p_.bh (ix (rx p_.t.cs s330) s348)) s294) v359).bind fun v360 =>
            some (!v360)
           else
            some false:Option (Bool)).bind fun b351 =>
          if b351=true then
           some (Ctl.ret (Sum.inl false))
          else
           ass (B64 (s348+1)) <|
           some (Ctl.next (s348+1))
         else
          some (Ctl.ret (Sum.inr ()))) fuel 0).bind fun e348 =>
        match e348 with
        | .inl p348 =>
         some (Sum.inr p348)
        | .inr p348 =>
         some (Sum.inl p348):Option (Unit ⊕ Bool)).bind fun e332 =>
       match e332 with
       | .inl b332 =>
        ass (B64 (s330+1)) <|
        some (Ctl.next (s330+1))
       | .inr p332 =>
        some (Ctl.ret (Sum.inl p332))
      else
       some (Ctl.ret (Sum.inr ()))) fuel 0).bind fun e330 =>
     match e330 with
     | .inl p330 =>
      some (Sum.inr p330)
     | .inr p330 =>
      some (Sum.inl p330):Option (Unit ⊕ Bool)).bind fun e296 =>
    match e296 with
    | .inl b296 =>
     ass (B64 (s294+1)) <|
     some (Ctl.next (s294+1))
    | .inr p296 =>
     some (Ctl.ret (Sum.inr p296))
   else
    some (Ctl.ret (Sum.inl ()))) fuel 0).bind fun e223 =>
  match e223 with
  | .inl b223 =>
   some true
  | .inr p223 =>
   some p223
 | .inr p1 =>
  some p1
theorem Q3s (p_:Prf) (r:Bool) (h:QJ p_=some r):Contract Try.prog 123 [.rptr (p_.cells true)] (.val (.bool r)):=by
 refine Qg (rvs:=[.tmp 2]) (rs:=[.val (.bool r)]) Try.func123 rfl rfl rfl rfl (by simp [Try.f123]) fun F hN hP=>?_;unfold QJ at h;refine Q5 ?_;refine runQ hN fun K hK=>?_;simp [-Q0,-Q7,-Q1,-Q8,-Q2];repeat refine sdQ ?_
 refine hK _ ?_;clear hK K;refine tn ?_;refine Q9 (st':=⟨[(0,.rptr (Prf.cells true p_))],[],0⟩) (wkQ8 []) ?_;refine Q5 ?_;refine runQ hN fun K hK=>?_;simp [-Q0,-Q7,-Q1,-Q8,-Q2];repeat refine sdQ ?_
 refine hK _ ?_;clear hK K;refine tn ?_;refine Q9 (st':=⟨[(0,.rptr (Prf.cells true p_)),(3,.rptr (Prf.cells true p_)),(4,.rptr [iV p_.t.n,lI p_.t.fr,lI p_.t.to,lI p_.t.id,.lst true 1 (Ls p_.t.cs),.lst true 1 (Ls p_.sz),.lst true 1 (Es eL p_.bf),.lst true 1 (Es eL p_.bh)])],[],0⟩) (wkQ8 []) ?_;refine Q5 ?_;refine Q5 ?_;refine runQ hN fun K hK=>?_;simp [-Q0,-Q7,-Q1,-Q8,-Q2];repeat refine sdQ ?_
 refine hK _ ?_;clear hK K;refine tn ?_;refine Q9 (st':=⟨[(0,.rptr (Prf.cells true p_)),(3,.rptr (Prf.cells true p_)),(4,.rptr [iV p_.t.n,lI p_.t.fr,lI p_.t.to,lI p_.t.id,.lst true 1 (Ls p_.t.cs),.lst true 1 (Ls p_.sz),.lst true 1 (Es eL p_.bf),.lst true 1 (Es eL p_.bh)]),(5,iV 0)],[],0⟩) (wkQ8 []) ?_;replace h:=bind_some h;obtain ⟨e1,h,h1⟩:=h;refine Ql (fun b1:Unit=>⟨[(0,.rptr (Prf.cells true p_)),(3,.rptr (Prf.cells true p_)),(4,.rptr [iV p_.t.n,lI p_.t.fr,lI p_.t.to,lI p_.t.id,.lst true 1 (Ls p_.t.cs),.lst true 1 (Ls p_.sz),.lst true 1 (Es eL p_.bf),.lst true 1 (Es eL p_.bh)])],[],0⟩) (fun b1=>Sum.inl b1=e1) ?_ ?_
 ·refine Qa ?_;refine Qs h (fun s112:Int=>⟨[(0,.rptr (Prf.cells true p_)),(3,.rptr (Prf.cells true p_)),(4,.rptr [iV p_.t.n,lI p_.t.fr,lI p_.t.to,lI p_.t.id,.lst true 1 (Ls p_.t.cs),.lst true 1 (Ls p_.sz),.lst true 1 (Es eL p_.bf),.lst true 1 (Es eL p_.bh)]),(5,iV s112)],[],0⟩) (wkQ8 []) ?_;clear h;intro k112 s112 c112 h hk112;refine Q5 ?_;refine Q5 ?_;refine runQ hN fun K hK=>?_;simp [-Q0,-Q7,-Q1,-Q8,-Q2];repeat refine sdQ ?_
  refine hK _ ?_;clear hK K;refine tn ?_;refine Q9 (st':=⟨[(0,.rptr (Prf.cells true p_)),(3,.rptr (Prf.cells true p_)),(4,.rptr [iV p_.t.n,lI p_.t.fr,lI p_.t.to,lI p_.t.id,.lst true 1 (Ls p_.t.cs),.lst true 1 (Ls p_.sz),.lst true 1 (Es eL p_.bf),.lst true 1 (Es eL p_.bh)]),(5,iV s112),(28,.val (.bool (decide (s112<p_.t.n))))],[],0⟩) (wkQ8 []) ?_;refine Qc rfl (fun g=>?_) fun g=>?_
  ·have g113:s112<p_.t.n:=gQ;clear g;replace h:=if_l g113 h;refine Qe ?_;refine tn ?_;refine Q5 ?_;replace h:=bind_some h;obtain ⟨e114,h,h114⟩:=h;refine Ql (fun b114:Unit=>⟨[(0,.rptr (Prf.cells true p_)),(3,.rptr (Prf.cells true p_)),(4,.rptr [iV p_.t.n,lI p_.t.fr,lI p_.t.to,lI p_.t.id,.lst true 1 (Ls p_.t.cs),.lst true 1 (Ls p_.sz),.lst true 1 (Es eL p_.bf),.lst true 1 (Es eL p_.bh)]),(5,iV s112)],[],0⟩) (fun b114=>Sum.inl b114=e114) ?_ ?_
   ·refine Qa ?_;refine Q5 ?_;refine Q5 ?_;refine runQ hN fun K hK=>?_;simp [-Q0,-Q7,-Q1,-Q8,-Q2];(repeat refine sdQ ?_);refine hK _ ?_;clear hK K;refine tn ?_;refine Q9 (st':=⟨[(0,.rptr (Prf.cells true p_)),(3,.rptr (Prf.cells true p_)),(4,.rptr [iV p_.t.n,lI p_.t.fr,lI p_.t.to,lI p_.t.id,.lst true 1 (Ls p_.t.cs),.lst true 1 (Ls p_.sz),.lst true 1 (Es eL p_.bf),.lst true 1 (Es eL p_.bh)]),(5,iV s112),(34,lI p_.s.id),(35,iV (p_.s.id.length:Int)),(36,iV 0)],[],0⟩) (wkQ8 []) ?_;replace h:=bind_some h;obtain ⟨e115,h,h115⟩:=h;refine Ql (fun b115:Unit=>⟨[(0,.rptr (Prf.cells true p_)),(3,.rptr (Prf.cells true p_)),(4,.rptr [iV p_.t.n,lI p_.t.fr,lI p_.t.to,lI p_.t.id,.lst true 1 (Ls p_.t.cs),.lst true 1 (Ls p_.sz),.lst true 1 (Es eL p_.bf),.lst true 1 (Es eL p_.bh)]),(5,iV s112)],[],0⟩) (fun b115=>Sum.inl b115=e115) ?_ ?_
    ·refine Qa ?_;refine Qs h (fun s135:Int=>⟨[(0,.rptr (Prf.cells true p_)),(3,.rptr (Prf.cells true p_)),(4,.rptr [iV p_.t.n,lI p_.t.fr,lI p_.t.to,lI p_.t.id,.lst true 1 (Ls p_.t.cs),.lst true 1 (Ls p_.sz),.lst true 1 (Es eL p_.bf),.lst true 1 (Es eL p_.bh)]),(5,iV s112),(34,lI p_.s.id),(35,iV (p_.s.id.length:Int)),(36,iV s135)],[],0⟩) (wkQ8 []) ?_;clear h;intro k135 s135 c135 h hk135;refine Q5 ?_;refine runQ hN fun K hK=>?_;simp [-Q0,-Q7,-Q1,-Q8,-Q2];(repeat refine sdQ ?_);refine hK _ ?_;clear hK K;refine tn ?_;refine Q9 (st':=⟨[(0,.rptr (Prf.cells true p_)),(3,.rptr (Prf.cells true p_)),(4,.rptr [iV p_.t.n,lI p_.t.fr,lI p_.t.to,lI p_.t.id,.lst true 1 (Ls p_.t.cs),.lst true 1 (Ls p_.sz),.lst true 1 (Es eL p_.bf),.lst true 1 (Es eL p_.bh)]),(5,iV s112),(34,lI p_.s.id),(35,iV (p_.s.id.length:Int)),(36,iV s135),(37,.val (.bool (decide (s135<(p_.s.id.length:Int)))))],[],0⟩) (wkQ8 []) ?_;refine Q5 ?_;refine Qc rfl (fun g=>?_) fun g=>?_
     ·have g136:s135<(p_.s.id.length:Int):=gQ;clear g;replace h:=if_l g136 h;refine Qe ?_;refine tn ?_;refine Q5 ?_;refine Qa ?_;refine Q5 ?_;refine runQ hN fun K hK=>?_;replace h:=Q4 h;obtain ⟨a137,h⟩:=h;simp [-Q0,-Q7,-Q1,-Q8,-Q2,at_I a137];(repeat refine sdQ ?_);refine hK _ ?_;clear hK K;refine tn ?_;refine Q9 (st':=⟨[(0,.rptr (Prf.cells true p_)),(3,.rptr (Prf.cells true p_)),(4,.rptr [iV p_.t.n,lI p_.t.fr,lI p_.t.to,lI p_.t.id,.lst true 1 (Ls p_.t.cs),.lst true 1 (Ls p_.sz),.lst true 1 (Es eL p_.bf),.lst true 1 (Es eL p_.bh)]),(5,iV s112),(6,iV s135),(7,iV (ix p_.s.id s135)),(34,lI p_.s.id),(35,iV (p_.s.id.length:Int)),(36,iV s135)],[],0⟩) (wkQ8 []) ?_;refine Q5 ?_;replace h:=bind_some h;obtain ⟨e138,h,h138⟩:=h;refine Ql (fun b138:Bool=>⟨[(0,.rptr (Prf.cells true p_)),(3,.rptr (Prf.cells true p_)),(4,.rptr [iV p_.t.n,lI p_.t.fr,lI p_.t.to,lI p_.t.id,.lst true 1 (Ls p_.t.cs),.lst true 1 (Ls p_.sz),.lst true 1 (Es eL p_.bf),.lst true 1 (Es eL p_.bh)]),(5,iV s112),(34,lI p_.s.id),(35,iV (p_.s.id.length:Int)),(36,iV s135),(94,.val (.bool b138))],[],0⟩) (fun b138=>b138=e138) ?_ ?_
      ·refine runQ hN fun K hK=>?_;replace h:=Q4 h;obtain ⟨a139,h⟩:=h;replace h:=Q4 h;obtain ⟨a140,h⟩:=h;replace h:=Q4 h;obtain ⟨a141,h⟩:=h;replace h:=Q4 h;obtain ⟨a142,h⟩:=h;simp [-Q0,-Q7,-Q1,-Q8,-Q2,at_E (c:=eL) a139,at_L a140,at_L a141,at_I a142];(repeat with_reducible refine sdQ ?_);replace h:=bind_some h;obtain ⟨v143,hv143,h⟩:=h;refine Q3 (Q4E _ v143 hv143) (.cons .val .nil) ?_;simp [-Q0,-Q7,-Q1,-Q8,-Q2,unk,unA,unE,unT,unC,flat,at_E (c:=eL) a139,at_L a140,at_L a141,at_I a142];(repeat with_reducible refine sdQ ?_);replace h:=bind_some h;obtain ⟨v144,hv144,h⟩:=h;refine Q3 (Q3F _ _ v144 hv144) (.cons .lst (.cons (.whole (by simp) (by simp) (by simp)) .nil)) ?_;simp [-Q0,-Q7,-Q1,-Q8,-Q2,unk,unA,unE,unT,unC,flat,at_E (c:=eL) a139,at_L a140,at_L a141,at_I a142];(repeat with_reducible refine sdQ ?_);refine Qv (fun g=>?_) (fun g=>?_)
       ·have g145:¬ (¬ (v144=true)):=gQ;clear g;replace h:=if_r g145 h;replace h:=Q4 h;obtain ⟨a146,h⟩:=h;replace h:=Q4 h;obtain ⟨a147,h⟩:=h;replace h:=Q4 h;obtain ⟨a148,h⟩:=h;replace h:=Q4 h;obtain ⟨a149,h⟩:=h;replace h:=Q4 h;obtain ⟨a150,h⟩:=h;simp [-Q0,-Q7,-Q1,-Q8,-Q2,at_E (c:=eL) a139,at_L a140,at_L a141,at_I a142,at_I a146,at_E (c:=eL) a147,at_L a148,at_L a149,at_I a150];(repeat with_reducible refine sdQ ?_);replace h:=bind_some h;obtain ⟨v151,hv151,h⟩:=h;refine Q3 (Q4E _ v151 hv151) (.cons .val .nil) ?_;simp [-Q0,-Q7,-Q1,-Q8,-Q2,unk,unA,unE,unT,unC,flat,at_E (c:=eL) a139,at_L a140,at_L a141,at_I a142,at_I a146,at_E (c:=eL) a147,at_L a148,at_L a149,at_I a150];(repeat with_reducible refine sdQ ?_);replace h:=bind_some h;obtain ⟨v152,hv152,h⟩:=h;refine Q3 (Q3F _ _ v152 hv152) (.cons .lst (.cons (.whole (by simp) (by simp) (by simp)) .nil)) ?_;simp [-Q0,-Q7,-Q1,-Q8,-Q2,unk,unA,unE,unT,unC,flat,at_E (c:=eL) a139,at_L a140,at_L a141,at_I a142,at_I a146,at_E (c:=eL) a147,at_L a148,at_L a149,at_I a150];(repeat refine sdQ ?_);refine hK _ ?_;exact jn (b:=!v152) (Option.some.inj h) (wkQ8 [])
       have g145:¬ (v144=true):=gQ;clear g;replace h:=if_l g145 h;simp [-Q0,-Q7,-Q1,-Q8,-Q2,at_E (c:=eL) a139,at_L a140,at_L a141,at_I a142];(repeat refine sdQ ?_);refine hK _ ?_;exact jn (b:=true) (Option.some.inj h) (wkQ8 [])
      intro b138 hb138;have h:=h138;(try rw [← hb138] at h);clear h138;(try dsimp only at h);refine Qc rfl (fun g=>?_) fun g=>?_
      ·have g153:b138=true:=gQ;clear g;replace h:=if_l g153 h;refine Q5 ?_;refine runQ hN fun K hK=>?_;simp [-Q0,-Q7,-Q1,-Q8,-Q2];(repeat refine sdQ ?_);refine hK _ ?_;clear hK K;refine tn ?_;refine Q9 (st':=⟨[(2,.val (.bool false))],[],0⟩) (wkQ8 []) ?_;refine Qi ?_;refine br ?_;refine tr ?_;refine lr ?_;refine br ?_;refine tr ?_;refine br ?_;refine tr ?_;refine lr ?_;refine br ?_;refine tr ?_;cases h;have q:_=e115:=hk135;have h:=h115;rw [← q] at h;clear q;(try dsimp only at h);cases h;have h:=h114;(try dsimp only at h);cases h;have q:_=e1:=hk112;have h:=h1;rw [← q] at h;clear q;(try dsimp only at h);have hr:=Option.some.inj h;rw [← hr];refine ⟨_,(.tmp .nil),?_⟩;refine ⟨(.one rfl rfl .nil),[.val (.bool false)],[],by simp [Prf.cells,UA,U1,IA,I1,LA,L1,BA,B1,EA,E1,E2,eB,eI,eL],by simp,(UpL.refl _)⟩
      have g153:¬ (b138=true):=gQ;clear g;replace h:=if_r g153 h;refine Qe ?_;refine bn ?_;refine tn ?_;refine runQ hN fun K hK=>?_;replace h:=Q4 h;obtain ⟨a154,h⟩:=h;simp [-Q0,-Q7,-Q1,-Q8,-Q2,Qo a154];(repeat refine sdQ ?_);refine hK _ ?_;clear hK K;cases h;exact rn (s':=s135+1) hk135 (wkQ8 [])
     have g136:¬ (s135<(p_.s.id.length:Int)):=gQ;clear g;replace h:=if_r g136 h;refine Qk ?_;refine tx ?_;refine lx ?_;refine bh ?_;cases h;exact jn (b:=()) hk135 (wkQ8 [])
    intro b115 hb115;have h:=h115;(try rw [← hb115] at h);clear h115;(try dsimp only at h);refine Q5 ?_;refine runQ hN fun K hK=>?_;simp [-Q0,-Q7,-Q1,-Q8,-Q2];(repeat refine sdQ ?_);refine hK _ ?_;clear hK K;refine tn ?_;refine Q9 (st':=⟨[(0,.rptr (Prf.cells true p_)),(3,.rptr (Prf.cells true p_)),(4,.rptr [iV p_.t.n,lI p_.t.fr,lI p_.t.to,lI p_.t.id,.lst true 1 (Ls p_.t.cs),.lst true 1 (Ls p_.sz),.lst true 1 (Es eL p_.bf),.lst true 1 (Es eL p_.bh)]),(5,iV s112),(99,.lst true 1 (Ls p_.s.cs)),(100,iV (p_.s.cs.length:Int)),(101,iV 0)],[],0⟩) (wkQ8 []) ?_;refine Qa ?_;replace h:=bind_some h;obtain ⟨e188,he188,h188⟩:=h;refine Qs he188 (fun s188:Int=>⟨[(0,.rptr (Prf.cells true p_)),(3,.rptr (Prf.cells true p_)),(4,.rptr [iV p_.t.n,lI p_.t.fr,lI p_.t.to,lI p_.t.id,.lst true 1 (Ls p_.t.cs),.lst true 1 (Ls p_.sz),.lst true 1 (Es eL p_.bf),.lst true 1 (Es eL p_.bh)]),(5,iV s112),(99,.lst true 1 (Ls p_.s.cs)),(100,iV (p_.s.cs.length:Int)),(101,iV s188)],[],0⟩) (wkQ8 []) ?_;intro k188 s188 c188 h hk188;refine Q5 ?_;refine runQ hN fun K hK=>?_;simp [-Q0,-Q7,-Q1,-Q8,-Q2];(repeat refine sdQ ?_);refine hK _ ?_;clear hK K;refine tn ?_;refine Q9 (st':=⟨[(0,.rptr (Prf.cells true p_)),(3,.rptr (Prf.cells true p_)),(4,.rptr [iV p_.t.n,lI p_.t.fr,lI p_.t.to,lI p_.t.id,.lst true 1 (Ls p_.t.cs),.lst true 1 (Ls p_.sz),.lst true 1 (Es eL p_.bf),.lst true 1 (Es eL p_.bh)]),(5,iV s112),(99,.lst true 1 (Ls p_.s.cs)),(100,iV (p_.s.cs.length:Int)),(101,iV s188),(102,.val (.bool (decide (s188<(p_.s.cs.length:Int)))))],[],0⟩) (wkQ8 []) ?_;refine Q5 ?_;refine Qc rfl (fun g=>?_) fun g=>?_
    ·have g189:s188<(p_.s.cs.length:Int):=gQ;clear g;replace h:=if_l g189 h;refine Qe ?_;refine tn ?_;refine Q5 ?_;replace h:=bind_some h;obtain ⟨e190,h,h190⟩:=h;refine Ql (fun b190:Unit=>⟨[(0,.rptr (Prf.cells true p_)),(3,.rptr (Prf.cells true p_)),(4,.rptr [iV p_.t.n,lI p_.t.fr,lI p_.t.to,lI p_.t.id,.lst true 1 (Ls p_.t.cs),.lst true 1 (Ls p_.sz),.lst true 1 (Es eL p_.bf),.lst true 1 (Es eL p_.bh)]),(5,iV s112),(99,.lst true 1 (Ls p_.s.cs)),(100,iV (p_.s.cs.length:Int)),(101,iV s188)],[],0⟩) (fun b190=>Sum.inl b190=e190) ?_ ?_
     ·refine Qa ?_;refine Q5 ?_;refine runQ hN fun K hK=>?_;replace h:=Q4 h;obtain ⟨a191,h⟩:=h;simp [-Q0,-Q7,-Q1,-Q8,-Q2,at_L a191];(repeat refine sdQ ?_);refine hK _ ?_;clear hK K;refine tn ?_;refine Q9 (st':=⟨[(0,.rptr (Prf.cells true p_)),(3,.rptr (Prf.cells true p_)),(4,.rptr [iV p_.t.n,lI p_.t.fr,lI p_.t.to,lI p_.t.id,.lst true 1 (Ls p_.t.cs),.lst true 1 (Ls p_.sz),.lst true 1 (Es eL p_.bf),.lst true 1 (Es eL p_.bh)]),(5,iV s112),(8,iV s188),(9,lI (rx p_.s.cs s188)),(99,.lst true 1 (Ls p_.s.cs)),(100,iV (p_.s.cs.length:Int)),(101,iV s188)],[],0⟩) (wkQ8 []) ?_;refine Q5 ?_;refine runQ hN fun K hK=>?_;simp [-Q0,-Q7,-Q1,-Q8,-Q2];(repeat refine sdQ ?_);refine hK _ ?_;clear hK K;refine tn ?_;refine Q9 (st':=⟨[(0,.rptr (Prf.cells true p_)),(3,.rptr (Prf.cells true p_)),(4,.rptr [iV p_.t.n,lI p_.t.fr,lI p_.t.to,lI p_.t.id,.lst true 1 (Ls p_.t.cs),.lst true 1 (Ls p_.sz),.lst true 1 (Es eL p_.bf),.lst true 1 (Es eL p_.bh)]),(5,iV s112),(8,iV s188),(99,.lst true 1 (Ls p_.s.cs)),(100,iV (p_.s.cs.length:Int)),(101,iV s188),(106,lI (rx p_.s.cs s188)),(107,iV ((rx p_.s.cs s188).length:Int)),(108,iV 0)],[],0⟩) (wkQ8 []) ?_;refine Qa ?_;replace h:=bind_some h;obtain ⟨e206,he206,h206⟩:=h;refine Qs he206 (fun s206:Int=>⟨[(0,.rptr (Prf.cells true p_)),(3,.rptr (Prf.cells true p_)),(4,.rptr [iV p_.t.n,lI p_.t.fr,lI p_.t.to,lI p_.t.id,.lst true 1 (Ls p_.t.cs),.lst true 1 (Ls p_.sz),.lst true 1 (Es eL p_.bf),.lst true 1 (Es eL p_.bh)]),(5,iV s112),(8,iV s188),(99,.lst true 1 (Ls p_.s.cs)),(100,iV (p_.s.cs.length:Int)),(101,iV s188),(106,lI (rx p_.s.cs s188)),(107,iV ((rx p_.s.cs s188).length:Int)),(108,iV s206)],[],0⟩) (wkQ8 []) ?_;intro k206 s206 c206 h hk206;refine Q5 ?_;refine runQ hN fun K hK=>?_;simp [-Q0,-Q7,-Q1,-Q8,-Q2];(repeat refine sdQ ?_);refine hK _ ?_;clear hK K;refine tn ?_;refine Q9 (st':=⟨[(0,.rptr (Prf.cells true p_)),(3,.rptr (Prf.cells true p_)),(4,.rptr [iV p_.t.n,lI p_.t.fr,lI p_.t.to,lI p_.t.id,.lst true 1 (Ls p_.t.cs),.lst true 1 (Ls p_.sz),.lst true 1 (Es eL p_.bf),.lst true 1 (Es eL p_.bh)]),(5,iV s112),(8,iV s188),(99,.lst true 1 (Ls p_.s.cs)),(100,iV (p_.s.cs.length:Int)),(101,iV s188),(106,lI (rx p_.s.cs s188)),(107,iV ((rx p_.s.cs s188).length:Int)),(108,iV s206),(109,.val (.bool (decide (s206<((rx p_.s.cs s188).length:Int)))))],[],0⟩) (wkQ8 []) ?_;refine Q5 ?_;refine Qc rfl (fun g=>?_) fun g=>?_
      ·have g207:s206<((rx p_.s.cs s188).length:Int):=gQ;clear g;replace h:=if_l g207 h;refine Qe ?_;refine tn ?_;refine Q5 ?_;refine Qa ?_;refine Q5 ?_;refine runQ hN fun K hK=>?_;replace h:=Q4 h;obtain ⟨a208,h⟩:=h;simp [-Q0,-Q7,-Q1,-Q8,-Q2,at_I a208];(repeat refine sdQ ?_);refine hK _ ?_;clear hK K;refine tn ?_;refine Q9 (st':=⟨[(0,.rptr (Prf.cells true p_)),(3,.rptr (Prf.cells true p_)),(4,.rptr [iV p_.t.n,lI p_.t.fr,lI p_.t.to,lI p_.t.id,.lst true 1 (Ls p_.t.cs),.lst true 1 (Ls p_.sz),.lst true 1 (Es eL p_.bf),.lst true 1 (Es eL p_.bh)]),(5,iV s112),(8,iV s188),(10,iV s206),(11,iV (ix (rx p_.s.cs s188) s206)),(99,.lst true 1 (Ls p_.s.cs)),(100,iV (p_.s.cs.length:Int)),(101,iV s188),(106,lI (rx p_.s.cs s188)),(107,iV ((rx p_.s.cs s188).length:Int)),(108,iV s206)],[],0⟩) (wkQ8 []) ?_;refine Q5 ?_;replace h:=bind_some h;obtain ⟨e209,h,h209⟩:=h;refine Ql (fun b209:Bool=>⟨[(0,.rptr (Prf.cells true p_)),(3,.rptr (Prf.cells true p_)),(4,.rptr [iV p_.t.n,lI p_.t.fr,lI p_.t.to,lI p_.t.id,.lst true 1 (Ls p_.t.cs),.lst true 1 (Ls p_.sz),.lst true 1 (Es eL p_.bf),.lst true 1 (Es eL p_.bh)]),(5,iV s112),(8,iV s188),(99,.lst true 1 (Ls p_.s.cs)),(100,iV (p_.s.cs.length:Int)),(101,iV s188),(106,lI (rx p_.s.cs s188)),(107,iV ((rx p_.s.cs s188).length:Int)),(108,iV s206),(149,.val (.bool b209))],[],0⟩) (fun b209=>b209=e209) ?_ ?_
       ·refine runQ hN fun K hK=>?_;simp [-Q0,-Q7,-Q1,-Q8,-Q2];(repeat with_reducible refine sdQ ?_);refine Qv (fun g=>?_) (fun g=>?_)
        ·have g210:(ix (rx p_.s.cs s188) s206) ≥ 0:=gQ;clear g;replace h:=if_l g210 h;replace h:=Q4 h;obtain ⟨a211,h⟩:=h;replace h:=Q4 h;obtain ⟨a212,h⟩:=h;replace h:=Q4 h;obtain ⟨a213,h⟩:=h;replace h:=Q4 h;obtain ⟨a214,h⟩:=h;replace h:=Q4 h;obtain ⟨a215,h⟩:=h;replace h:=Q4 h;obtain ⟨a216,h⟩:=h;simp [-Q0,-Q7,-Q1,-Q8,-Q2,at_E (c:=eL) a211,at_L a212,at_E (c:=eL) a213,at_L a214,at_E (c:=eL) a215,at_L a216];(repeat with_reducible refine sdQ ?_);replace h:=bind_some h;obtain ⟨v217,hv217,h⟩:=h;refine Q3 (Q4i _ _ v217 hv217) (.cons .lst (.cons .lst .nil)) ?_;simp [-Q0,-Q7,-Q1,-Q8,-Q2,unk,unA,unE,unT,unC,flat,at_E (c:=eL) a211,at_L a212,at_E (c:=eL) a213,at_L a214,at_E (c:=eL) a215,at_L a216];(repeat with_reducible refine sdQ ?_);replace h:=bind_some h;obtain ⟨v218,hv218,h⟩:=h;refine Q3 (Q3F _ _ v218 hv218) (.cons .lst (.cons (.whole (by simp) (by simp) (by simp)) .nil)) ?_;simp [-Q0,-Q7,-Q1,-Q8,-Q2,unk,unA,unE,unT,unC,flat,at_E (c:=eL) a211,at_L a212,at_E (c:=eL) a213,at_L a214,at_E (c:=eL) a215,at_L a216];(repeat refine sdQ ?_);refine hK _ ?_;exact jn (b:=!v218) (Option.some.inj h) (wkQ8 [])
        have g210:¬ ((ix (rx p_.s.cs s188) s206) ≥ 0):=gQ;clear g;replace h:=if_r g210 h;simp [-Q0,-Q7,-Q1,-Q8,-Q2];(repeat refine sdQ ?_);refine hK _ ?_;exact jn (b:=false) (Option.some.inj h) (wkQ8 [])
       intro b209 hb209;have h:=h209;(try rw [← hb209] at h);clear h209;(try dsimp only at h);refine Qc rfl (fun g=>?_) fun g=>?_
       ·have g219:b209=true:=gQ;clear g;replace h:=if_l g219 h;refine Q5 ?_;refine runQ hN fun K hK=>?_;simp [-Q0,-Q7,-Q1,-Q8,-Q2];(repeat refine sdQ ?_);refine hK _ ?_;clear hK K;refine tn ?_;refine Q9 (st':=⟨[(2,.val (.bool false))],[],0⟩) (wkQ8 []) ?_;refine Qi ?_;refine br ?_;refine tr ?_;refine lr ?_;refine br ?_;refine br ?_;refine tr ?_;refine lr ?_;refine br ?_;refine br ?_;refine tr ?_;refine lr ?_;refine br ?_;refine tr ?_;cases h;have q:_=e206:=hk206;have h:=h206;rw [← q] at h;clear q;(try dsimp only at h);cases h;have h:=h190;(try dsimp only at h);cases h;have q:_=e188:=hk188;have h:=h188;rw [← q] at h;clear q;(try dsimp only at h);cases h;have h:=h114;(try dsimp only at h);cases h;have q:_=e1:=hk112;have h:=h1;rw [← q] at h;clear q;(try dsimp only at h);have hr:=Option.some.inj h;rw [← hr];refine ⟨_,(.tmp .nil),?_⟩;refine ⟨(.one rfl rfl .nil),[.val (.bool false)],[],by simp [Prf.cells,UA,U1,IA,I1,LA,L1,BA,B1,EA,E1,E2,eB,eI,eL],by simp,(UpL.refl _)⟩
       have g219:¬ (b209=true):=gQ;clear g;replace h:=if_r g219 h;refine Qe ?_;refine bn ?_;refine tn ?_;refine runQ hN fun K hK=>?_;replace h:=Q4 h;obtain ⟨a220,h⟩:=h;simp [-Q0,-Q7,-Q1,-Q8,-Q2,Qo a220];(repeat refine sdQ ?_);refine hK _ ?_;clear hK K;cases h;exact rn (s':=s206+1) hk206 (wkQ8 [])
      have g207:¬ (s206<((rx p_.s.cs s188).length:Int)):=gQ;clear g;replace h:=if_r g207 h;refine Qk ?_;refine tx ?_;refine lx ?_;refine bh ?_;refine bn ?_;cases h;have q:_=e206:=hk206;have h:=h206;rw [← q] at h;clear q;(try dsimp only at h);exact jn (b:=()) (Option.some.inj h) (wkQ8 [])
     intro b190 hb190;have h:=h190;(try rw [← hb190] at h);clear h190;(try dsimp only at h);refine runQ hN fun K hK=>?_;replace h:=Q4 h;obtain ⟨a221,h⟩:=h;simp [-Q0,-Q7,-Q1,-Q8,-Q2,Qo a221];(repeat refine sdQ ?_);refine hK _ ?_;clear hK K;cases h;exact rn (s':=s188+1) hk188 (wkQ8 [])
    have g189:¬ (s188<(p_.s.cs.length:Int)):=gQ;clear g;replace h:=if_r g189 h;refine Qk ?_;refine tx ?_;refine lx ?_;refine bh ?_;refine bn ?_;cases h;have q:_=e188:=hk188;have h:=h188;rw [← q] at h;clear q;(try dsimp only at h);exact jn (b:=()) (Option.some.inj h) (wkQ8 [])
   intro b114 hb114;have h:=h114;(try rw [← hb114] at h);clear h114;(try dsimp only at h);refine runQ hN fun K hK=>?_;replace h:=Q4 h;obtain ⟨a222,h⟩:=h;simp [-Q0,-Q7,-Q1,-Q8,-Q2,Qo a222];(repeat refine sdQ ?_);refine hK _ ?_;clear hK K;cases h;exact rn (s':=s112+1) hk112 (wkQ8 [])
  have g113:¬ (s112<p_.t.n):=gQ;clear g;replace h:=if_r g113 h;refine Qk ?_;refine tx ?_;refine lx ?_;refine bh ?_;cases h;exact jn (b:=()) hk112 (wkQ8 [])
 intro b1 hb1;have h:=h1;try rw [← hb1] at h
 clear h1;try dsimp only at h
 refine Q5 ?_;refine Q5 ?_;refine runQ hN fun K hK=>?_;simp [-Q0,-Q7,-Q1,-Q8,-Q2];repeat refine sdQ ?_
 refine hK _ ?_;clear hK K;refine tn ?_;refine Q9 (st':=⟨[(0,.rptr (Prf.cells true p_)),(3,.rptr (Prf.cells true p_)),(4,.rptr [iV p_.t.n,lI p_.t.fr,lI p_.t.to,lI p_.t.id,.lst true 1 (Ls p_.t.cs),.lst true 1 (Ls p_.sz),.lst true 1 (Es eL p_.bf),.lst true 1 (Es eL p_.bh)]),(12,iV 0)],[],0⟩) (wkQ8 []) ?_;replace h:=bind_some h;obtain ⟨e223,h,h223⟩:=h;refine Ql (fun b223:Unit=>⟨[],[],0⟩) (fun b223=>Sum.inl b223=e223) ?_ ?_
 ·refine Qa ?_;refine Qs h (fun s294:Int=>⟨[(0,.rptr (Prf.cells true p_)),(3,.rptr (Prf.cells true p_)),(4,.rptr [iV p_.t.n,lI p_.t.fr,lI p_.t.to,lI p_.t.id,.lst true 1 (Ls p_.t.cs),.lst true 1 (Ls p_.sz),.lst true 1 (Es eL p_.bf),.lst true 1 (Es eL p_.bh)]),(12,iV s294)],[],0⟩) (wkQ8 []) ?_;clear h;intro k294 s294 c294 h hk294;refine Q5 ?_;refine Q5 ?_;refine runQ hN fun K hK=>?_;simp [-Q0,-Q7,-Q1,-Q8,-Q2];repeat refine sdQ ?_
  refine hK _ ?_;clear hK K;refine tn ?_;refine Q9 (st':=⟨[(0,.rptr (Prf.cells true p_)),(3,.rptr (Prf.cells true p_)),(4,.rptr [iV p_.t.n,lI p_.t.fr,lI p_.t.to,lI p_.t.id,.lst true 1 (Ls p_.t.cs),.lst true 1 (Ls p_.sz),.lst true 1 (Es eL p_.bf),.lst true 1 (Es eL p_.bh)]),(12,iV s294),(157,.val (.bool (decide (s294<p_.s.n))))],[],0⟩) (wkQ8 []) ?_;refine Qc rfl (fun g=>?_) fun g=>?_
  ·have g295:s294<p_.s.n:=gQ;clear g;replace h:=if_l g295 h;refine Qe ?_;refine tn ?_;refine Q5 ?_;replace h:=bind_some h;obtain ⟨e296,h,h296⟩:=h;refine Ql (fun b296:Unit=>⟨[(0,.rptr (Prf.cells true p_)),(3,.rptr (Prf.cells true p_)),(4,.rptr [iV p_.t.n,lI p_.t.fr,lI p_.t.to,lI p_.t.id,.lst true 1 (Ls p_.t.cs),.lst true 1 (Ls p_.sz),.lst true 1 (Es eL p_.bf),.lst true 1 (Es eL p_.bh)]),(12,iV s294)],[],0⟩) (fun b296=>Sum.inl b296=e296) ?_ ?_
   ·refine Qa ?_;refine Q5 ?_;refine runQ hN fun K hK=>?_;simp [-Q0,-Q7,-Q1,-Q8,-Q2];(repeat refine sdQ ?_);refine hK _ ?_;clear hK K;refine tn ?_;refine Q9 (st':=⟨[(0,.rptr (Prf.cells true p_)),(3,.rptr (Prf.cells true p_)),(4,.rptr [iV p_.t.n,lI p_.t.fr,lI p_.t.to,lI p_.t.id,.lst true 1 (Ls p_.t.cs),.lst true 1 (Ls p_.sz),.lst true 1 (Es eL p_.bf),.lst true 1 (Es eL p_.bh)]),(12,iV s294),(163,.lst true 1 (Ls p_.t.cs)),(164,iV (p_.t.cs.length:Int)),(165,iV 0)],[],0⟩) (wkQ8 []) ?_;refine Qa ?_;replace h:=bind_some h;obtain ⟨e330,he330,h330⟩:=h;refine Qs he330 (fun s330:Int=>⟨[(0,.rptr (Prf.cells true p_)),(3,.rptr (Prf.cells true p_)),(4,.rptr [iV p_.t.n,lI p_.t.fr,lI p_.t.to,lI p_.t.id,.lst true 1 (Ls p_.t.cs),.lst true 1 (Ls p_.sz),.lst true 1 (Es eL p_.bf),.lst true 1 (Es eL p_.bh)]),(12,iV s294),(163,.lst true 1 (Ls p_.t.cs)),(164,iV (p_.t.cs.length:Int)),(165,iV s330)],[],0⟩) (wkQ8 []) ?_;intro k330 s330 c330 h hk330;refine Q5 ?_;refine runQ hN fun K hK=>?_;simp [-Q0,-Q7,-Q1,-Q8,-Q2];(repeat refine sdQ ?_);refine hK _ ?_;clear hK K;refine tn ?_;refine Q9 (st':=⟨[(0,.rptr (Prf.cells true p_)),(3,.rptr (Prf.cells true p_)),(4,.rptr [iV p_.t.n,lI p_.t.fr,lI p_.t.to,lI p_.t.id,.lst true 1 (Ls p_.t.cs),.lst true 1 (Ls p_.sz),.lst true 1 (Es eL p_.bf),.lst true 1 (Es eL p_.bh)]),(12,iV s294),(163,.lst true 1 (Ls p_.t.cs)),(164,iV (p_.t.cs.length:Int)),(165,iV s330),(166,.val (.bool (decide (s330<(p_.t.cs.length:Int)))))],[],0⟩) (wkQ8 []) ?_;refine Q5 ?_;refine Qc rfl (fun g=>?_) fun g=>?_
    ·have g331:s330<(p_.t.cs.length:Int):=gQ;clear g;replace h:=if_l g331 h;refine Qe ?_;refine tn ?_;refine Q5 ?_;replace h:=bind_some h;obtain ⟨e332,h,h332⟩:=h;refine Ql (fun b332:Unit=>⟨[(0,.rptr (Prf.cells true p_)),(3,.rptr (Prf.cells true p_)),(4,.rptr [iV p_.t.n,lI p_.t.fr,lI p_.t.to,lI p_.t.id,.lst true 1 (Ls p_.t.cs),.lst true 1 (Ls p_.sz),.lst true 1 (Es eL p_.bf),.lst true 1 (Es eL p_.bh)]),(12,iV s294),(163,.lst true 1 (Ls p_.t.cs)),(164,iV (p_.t.cs.length:Int)),(165,iV s330)],[],0⟩) (fun b332=>Sum.inl b332=e332) ?_ ?_
     ·refine Qa ?_;refine Q5 ?_;refine runQ hN fun K hK=>?_;replace h:=Q4 h;obtain ⟨a333,h⟩:=h;simp [-Q0,-Q7,-Q1,-Q8,-Q2,at_L a333];(repeat refine sdQ ?_);refine hK _ ?_;clear hK K;refine tn ?_;refine Q9 (st':=⟨[(0,.rptr (Prf.cells true p_)),(3,.rptr (Prf.cells true p_)),(4,.rptr [iV p_.t.n,lI p_.t.fr,lI p_.t.to,lI p_.t.id,.lst true 1 (Ls p_.t.cs),.lst true 1 (Ls p_.sz),.lst true 1 (Es eL p_.bf),.lst true 1 (Es eL p_.bh)]),(12,iV s294),(13,iV s330),(14,lI (rx p_.t.cs s330)),(163,.lst true 1 (Ls p_.t.cs)),(164,iV (p_.t.cs.length:Int)),(165,iV s330)],[],0⟩) (wkQ8 []) ?_;refine Q5 ?_;refine runQ hN fun K hK=>?_;simp [-Q0,-Q7,-Q1,-Q8,-Q2];(repeat refine sdQ ?_);refine hK _ ?_;clear hK K;refine tn ?_;refine Q9 (st':=⟨[(0,.rptr (Prf.cells true p_)),(3,.rptr (Prf.cells true p_)),(4,.rptr [iV p_.t.n,lI p_.t.fr,lI p_.t.to,lI p_.t.id,.lst true 1 (Ls p_.t.cs),.lst true 1 (Ls p_.sz),.lst true 1 (Es eL p_.bf),.lst true 1 (Es eL p_.bh)]),(12,iV s294),(13,iV s330),(163,.lst true 1 (Ls p_.t.cs)),(164,iV (p_.t.cs.length:Int)),(165,iV s330),(170,lI (rx p_.t.cs s330)),(171,iV ((rx p_.t.cs s330).length:Int)),(172,iV 0)],[],0⟩) (wkQ8 []) ?_;refine Qa ?_;replace h:=bind_some h;obtain ⟨e348,he348,h348⟩:=h;refine Qs he348 (fun s348:Int=>⟨[(0,.rptr (Prf.cells true p_)),(3,.rptr (Prf.cells true p_)),(4,.rptr [iV p_.t.n,lI p_.t.fr,lI p_.t.to,lI p_.t.id,.lst true 1 (Ls p_.t.cs),.lst true 1 (Ls p_.sz),.lst true 1 (Es eL p_.bf),.lst true 1 (Es eL p_.bh)]),(12,iV s294),(13,iV s330),(163,.lst true 1 (Ls p_.t.cs)),(164,iV (p_.t.cs.length:Int)),(165,iV s330),(170,lI (rx p_.t.cs s330)),(171,iV ((rx p_.t.cs s330).length:Int)),(172,iV s348)],[],0⟩) (wkQ8 []) ?_;intro k348 s348 c348 h hk348;refine Q5 ?_;refine runQ hN fun K hK=>?_;simp [-Q0,-Q7,-Q1,-Q8,-Q2];(repeat refine sdQ ?_);refine hK _ ?_;clear hK K;refine tn ?_;refine Q9 (st':=⟨[(0,.rptr (Prf.cells true p_)),(3,.rptr (Prf.cells true p_)),(4,.rptr [iV p_.t.n,lI p_.t.fr,lI p_.t.to,lI p_.t.id,.lst true 1 (Ls p_.t.cs),.lst true 1 (Ls p_.sz),.lst true 1 (Es eL p_.bf),.lst true 1 (Es eL p_.bh)]),(12,iV s294),(13,iV s330),(163,.lst true 1 (Ls p_.t.cs)),(164,iV (p_.t.cs.length:Int)),(165,iV s330),(170,lI (rx p_.t.cs s330)),(171,iV ((rx p_.t.cs s330).length:Int)),(172,iV s348),(173,.val (.bool (decide (s348<((rx p_.t.cs s330).length:Int)))))],[],0⟩) (wkQ8 []) ?_;refine Q5 ?_;refine Qc rfl (fun g=>?_) fun g=>?_
      ·have g349:s348<((rx p_.t.cs s330).length:Int):=gQ;clear g;replace h:=if_l g349 h;refine Qe ?_;refine tn ?_;refine Q5 ?_;refine Qa ?_;refine Q5 ?_;refine runQ hN fun K hK=>?_;replace h:=Q4 h;obtain ⟨a350,h⟩:=h;simp [-Q0,-Q7,-Q1,-Q8,-Q2,at_I a350];(repeat refine sdQ ?_);refine hK _ ?_;clear hK K;refine tn ?_;refine Q9 (st':=⟨[(0,.rptr (Prf.cells true p_)),(3,.rptr (Prf.cells true p_)),(4,.rptr [iV p_.t.n,lI p_.t.fr,lI p_.t.to,lI p_.t.id,.lst true 1 (Ls p_.t.cs),.lst true 1 (Ls p_.sz),.lst true 1 (Es eL p_.bf),.lst true 1 (Es eL p_.bh)]),(12,iV s294),(13,iV s330),(15,iV s348),(16,iV (ix (rx p_.t.cs s330) s348)),(163,.lst true 1 (Ls p_.t.cs)),(164,iV (p_.t.cs.length:Int)),(165,iV s330),(170,lI (rx p_.t.cs s330)),(171,iV ((rx p_.t.cs s330).length:Int)),(172,iV s348)],[],0⟩) (wkQ8 []) ?_;refine Q5 ?_;replace h:=bind_some h;obtain ⟨e351,h,h351⟩:=h;refine Ql (fun b351:Bool=>⟨[(0,.rptr (Prf.cells true p_)),(3,.rptr (Prf.cells true p_)),(4,.rptr [iV p_.t.n,lI p_.t.fr,lI p_.t.to,lI p_.t.id,.lst true 1 (Ls p_.t.cs),.lst true 1 (Ls p_.sz),.lst true 1 (Es eL p_.bf),.lst true 1 (Es eL p_.bh)]),(12,iV s294),(13,iV s330),(163,.lst true 1 (Ls p_.t.cs)),(164,iV (p_.t.cs.length:Int)),(165,iV s330),(170,lI (rx p_.t.cs s330)),(171,iV ((rx p_.t.cs s330).length:Int)),(172,iV s348),(213,.val (.bool b351))],[],0⟩) (fun b351=>b351=e351) ?_ ?_
       ·refine runQ hN fun K hK=>?_;simp [-Q0,-Q7,-Q1,-Q8,-Q2];(repeat with_reducible refine sdQ ?_);refine Qv (fun g=>?_) (fun g=>?_)
        ·have g352:(ix (rx p_.t.cs s330) s348) ≥ 0:=gQ;clear g;replace h:=if_l g352 h;replace h:=Q4 h;obtain ⟨a353,h⟩:=h;replace h:=Q4 h;obtain ⟨a354,h⟩:=h;replace h:=Q4 h;obtain ⟨a355,h⟩:=h;replace h:=Q4 h;obtain ⟨a356,h⟩:=h;replace h:=Q4 h;obtain ⟨a357,h⟩:=h;replace h:=Q4 h;obtain ⟨a358,h⟩:=h;simp [-Q0,-Q7,-Q1,-Q8,-Q2,at_E (c:=eL) a353,at_L a354,at_E (c:=eL) a355,at_L a356,at_E (c:=eL) a357,at_L a358];(repeat with_reducible refine sdQ ?_);replace h:=bind_some h;obtain ⟨v359,hv359,h⟩:=h;refine Q3 (Q4i _ _ v359 hv359) (.cons .lst (.cons .lst .nil)) ?_;simp [-Q0,-Q7,-Q1,-Q8,-Q2,unk,unA,unE,unT,unC,flat,at_E (c:=eL) a353,at_L a354,at_E (c:=eL) a355,at_L a356,at_E (c:=eL) a357,at_L a358];(repeat with_reducible refine sdQ ?_);replace h:=bind_some h;obtain ⟨v360,hv360,h⟩:=h;refine Q3 (Q3F _ _ v360 hv360) (.cons .lst (.cons (.whole (by simp) (by simp) (by simp)) .nil)) ?_;simp [-Q0,-Q7,-Q1,-Q8,-Q2,unk,unA,unE,unT,unC,flat,at_E (c:=eL) a353,at_L a354,at_E (c:=eL) a355,at_L a356,at_E (c:=eL) a357,at_L a358];(repeat refine sdQ ?_);refine hK _ ?_;exact jn (b:=!v360) (Option.some.inj h) (wkQ8 [])
        have g352:¬ ((ix (rx p_.t.cs s330) s348) ≥ 0):=gQ;clear g;replace h:=if_r g352 h;simp [-Q0,-Q7,-Q1,-Q8,-Q2];(repeat refine sdQ ?_);refine hK _ ?_;exact jn (b:=false) (Option.some.inj h) (wkQ8 [])
       intro b351 hb351;have h:=h351;(try rw [← hb351] at h);clear h351;(try dsimp only at h);refine Qc rfl (fun g=>?_) fun g=>?_
       ·have g361:b351=true:=gQ;clear g;replace h:=if_l g361 h;refine Q5 ?_;refine runQ hN fun K hK=>?_;simp [-Q0,-Q7,-Q1,-Q8,-Q2];(repeat refine sdQ ?_);refine hK _ ?_;clear hK K;refine tn ?_;refine Q9 (st':=⟨[(2,.val (.bool false))],[],0⟩) (wkQ8 []) ?_;refine Qi ?_;refine br ?_;refine tr ?_;refine lr ?_;refine br ?_;refine br ?_;refine tr ?_;refine lr ?_;refine br ?_;refine br ?_;refine tr ?_;refine lr ?_;refine br ?_;refine tr ?_;cases h;have q:_=e348:=hk348;have h:=h348;rw [← q] at h;clear q;(try dsimp only at h);cases h;have h:=h332;(try dsimp only at h);cases h;have q:_=e330:=hk330;have h:=h330;rw [← q] at h;clear q;(try dsimp only at h);cases h;have h:=h296;(try dsimp only at h);cases h;have q:_=e223:=hk294;have h:=h223;rw [← q] at h;clear q;(try dsimp only at h);have hr:=Option.some.inj h;rw [← hr];refine ⟨_,(.tmp .nil),?_⟩;refine ⟨(.one rfl rfl .nil),[.val (.bool false)],[],by simp [Prf.cells,UA,U1,IA,I1,LA,L1,BA,B1,EA,E1,E2,eB,eI,eL],by simp,(UpL.refl _)⟩
       have g361:¬ (b351=true):=gQ;clear g;replace h:=if_r g361 h;refine Qe ?_;refine bn ?_;refine tn ?_;refine runQ hN fun K hK=>?_;replace h:=Q4 h;obtain ⟨a362,h⟩:=h;simp [-Q0,-Q7,-Q1,-Q8,-Q2,Qo a362];(repeat refine sdQ ?_);refine hK _ ?_;clear hK K;cases h;exact rn (s':=s348+1) hk348 (wkQ8 [])
      have g349:¬ (s348<((rx p_.t.cs s330).length:Int)):=gQ;clear g;replace h:=if_r g349 h;refine Qk ?_;refine tx ?_;refine lx ?_;refine bh ?_;refine bn ?_;cases h;have q:_=e348:=hk348;have h:=h348;rw [← q] at h;clear q;(try dsimp only at h);exact jn (b:=()) (Option.some.inj h) (wkQ8 [])
     intro b332 hb332;have h:=h332;(try rw [← hb332] at h);clear h332;(try dsimp only at h);refine runQ hN fun K hK=>?_;replace h:=Q4 h;obtain ⟨a363,h⟩:=h;simp [-Q0,-Q7,-Q1,-Q8,-Q2,Qo a363];(repeat refine sdQ ?_);refine hK _ ?_;clear hK K;cases h;exact rn (s':=s330+1) hk330 (wkQ8 [])
    have g331:¬ (s330<(p_.t.cs.length:Int)):=gQ;clear g;replace h:=if_r g331 h;refine Qk ?_;refine tx ?_;refine lx ?_;refine bh ?_;refine bn ?_;cases h;have q:_=e330:=hk330;have h:=h330;rw [← q] at h;clear q;(try dsimp only at h);exact jn (b:=()) (Option.some.inj h) (wkQ8 [])
   intro b296 hb296;have h:=h296;(try rw [← hb296] at h);clear h296;(try dsimp only at h);refine runQ hN fun K hK=>?_;replace h:=Q4 h;obtain ⟨a364,h⟩:=h;simp [-Q0,-Q7,-Q1,-Q8,-Q2,Qo a364];(repeat refine sdQ ?_);refine hK _ ?_;clear hK K;cases h;exact rn (s':=s294+1) hk294 (wkQ8 [])
  have g295:¬ (s294<p_.s.n):=gQ;clear g;replace h:=if_r g295 h;refine Qk ?_;refine tx ?_;refine lx ?_;refine bh ?_;cases h;exact jn (b:=()) hk294 (wkQ8 [])
 intro b223 hb223;have h:=h223;try rw [← hb223] at h
 clear h223;try dsimp only at h
 refine Q5 ?_;refine runQ hN fun K hK=>?_;simp [-Q0,-Q7,-Q1,-Q8,-Q2];repeat refine sdQ ?_
 refine hK _ ?_;clear hK K;refine tn ?_;refine Q9 (st':=⟨[(2,.val (.bool true))],[],0⟩) (wkQ8 []) ?_;refine Qi ?_;have hr:=Option.some.inj h;rw [← hr];refine ⟨_,(.tmp .nil),?_⟩;refine ⟨(.one rfl rfl .nil),[.val (.bool true)],[],by simp [Prf.cells,UA,U1,IA,I1,LA,L1,BA,B1,EA,E1,E2,eB,eI,eL],by simp,(UpL.refl _)⟩
end Go.Vc.T
