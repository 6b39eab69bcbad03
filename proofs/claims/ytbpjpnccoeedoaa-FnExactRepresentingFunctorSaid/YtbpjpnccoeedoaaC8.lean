/- A part of the proof: a verified generator of conditions, and what each function of the program does. -/
import Derived.Test.YtbpjpnccoeedoaaC7
set_option maxRecDepth 100000
set_option maxHeartbeats 4000000
set_option linter.unusedSimpArgs false
set_option linter.unusedVariables false

namespace Go.Vc.T
open Go Go.Vc Go.Proofs
def Es {α:Type} (c:α→List AV) (xs:List α):List (List AV):=xs.map c
def gx {α:Type} [Inhabited α] (xs:List α) (j:Int):α:=xs.getD j.toNat default
def eB (b:Bool):List AV:=[.val (.bool b)]
def eI (b:Int):List AV:=[iV b]
def eL (x:List (List Int)):List AV:=[.lst true 1 (Ls x)]
section
variable {α:Type} {c:α→List AV}
@[simp] theorem Es_length (xs:List α):(Es c xs).length=xs.length:=by simp [Es]
@[simp] theorem Es_nil:Es c []=[]:=rfl
theorem Es_append (xs ys:List α):Es c (xs++ys)=Es c xs++Es c ys:=by simp [Es]
theorem Es_set' (xs:List α) (i:Nat) (x:α):Es c (xs.set i x)=(Es c xs).set i (c x):=by simp [Es,List.map_set]
theorem at_E [Inhabited α] {xs:List α} {j:Int} (h:0≤j∧j<(xs.length:Int)):(Es c xs)[j.toNat]? = some (c (gx xs j)):=by
 have h2:j.toNat<xs.length:=by omega
 simp [Es,gx,List.getD_eq_getElem?_getD,h2]
end
@[simp] theorem Ls_nil':Ls []=[]:=rfl
theorem Ls_append (xs ys:List (List Int)):Ls (xs++ys)=Ls xs++Ls ys:=by simp [Ls]
theorem at_I {xs:List Int} {j:Int} (h:0≤j∧j<(xs.length:Int)):(Is xs)[j.toNat]? = some [iV (ix xs j)]:=by
 have h2:j.toNat<xs.length:=by omega
 simp [Is,ix,List.getD_eq_getElem?_getD,h2]
theorem at_L {xs:List (List Int)} {j:Int} (h:0≤j∧j<(xs.length:Int)):(Ls xs)[j.toNat]? = some [lI (rx xs j)]:=by
 have h2:j.toNat<xs.length:=by omega
 simp [Ls,rx,List.getD_eq_getElem?_getD,h2]
@[simp] theorem Is_takeE (xs:List Int) (k:Nat):List.take k (Is xs)=Is (xs.take k):=by simp [Is,List.map_take]
@[simp] theorem u8_min:IntKind.u8.min=0:=rfl
@[simp] theorem u8_max:IntKind.u8.max=255:=rfl
@[simp] theorem Bs_nil':Bs []=[]:=rfl
theorem Bs_append (xs ys:List Bool):Bs (xs++ys)=Bs xs++Bs ys:=by simp [Bs]
theorem at_B {xs:List Bool} {j:Int} (h:0≤j∧j<(xs.length:Int)):(Bs xs)[j.toNat]? = some [.val (.bool (gx xs j))]:=by
 have h2:j.toNat<xs.length:=by omega
 simp [Bs,gx,List.getD_eq_getElem?_getD,h2]
theorem IA (xs ys:List Int):Is (xs++ys)=Is xs++Is ys:=Is_append xs ys
theorem I1 (x:Int) (xs:List Int):Is (x :: xs)=[iV x] :: Is xs:=rfl
theorem LA (xs ys:List (List Int)):Ls (xs++ys)=Ls xs++Ls ys:=Ls_append xs ys
theorem L1 (x:List Int) (xs:List (List Int)):Ls (x :: xs)=[lI x] :: Ls xs:=rfl
theorem BA (xs ys:List Bool):Bs (xs++ys)=Bs xs++Bs ys:=Bs_append xs ys
theorem B1 (x:Bool) (xs:List Bool):Bs (x :: xs)=[.val (.bool x)] :: Bs xs:=rfl
theorem EA {α:Type} {c:α→List AV} (xs ys:List α):Es c (xs++ys)=Es c xs++Es c ys:=Es_append xs ys
theorem E1 {α:Type} {c:α→List AV} (x:α) (xs:List α):Es c (x :: xs)=c x :: Es c xs:=rfl
theorem E2 {α:Type} {c:α→List AV} (xs:List α) (i:Nat) (x:α):Es c (xs.set i x)=(Es c xs).set i (c x):=Es_set' xs i x
@[simp] theorem Es_rep0 (n:Nat):Es eL (List.replicate n [])=List.replicate n [AV.lst true 1 []]:=by simp [Es,eL]
theorem Es_st {α:Type} {c:α→List AV} {xs:List α} {i:Nat} {x:α} {b:AV} (h1:∀ y,(c y).length=1) (h2:c x=[b]):(Es c xs).set i (((Es c xs).getD i []).set 0 b)=Es c (xs.set i x):=by
 by_cases h:i<xs.length
 ·rw [Es_set',h2];congr 1;have h3:=h1 xs[i];simp only [Es,List.getD_eq_getElem?_getD,List.getElem?_map,List.getElem?_eq_getElem h,Option.map_some,Option.getD_some]
  match c xs[i],h3 with
  | [a],_=>rfl
 rw [List.set_eq_of_length_le (by simp;omega),List.set_eq_of_length_le (by omega)]
def Q17 (x:Cat):List AV:=[.rptr (x.cells true)]
def eP_Fn (x:Fn):List AV:=[.rptr (x.cells true)]
instance:Inhabited Cat:=⟨⟨0,[],[],[],[]⟩⟩
instance:Inhabited Fn:=⟨⟨default,default,[],[]⟩⟩
structure Ends where
 a:Int
 b:Int
def Ends.cells (u:Bool) (f:Ends):List AV:=[iV f.a,iV f.b]
structure Prf where
 s:Cat
 t:Cat
 sz:List (List Int)
 bf:List (List (List Int))
 bh:List (List (List Int))
def Prf.cells (u:Bool) (f:Prf):List AV:=[iV f.s.n,.lst u 1 (Is f.s.fr),.lst u 1 (Is f.s.to),.lst u 1 (Is f.s.id),.lst u 1 (Ls f.s.cs),iV f.t.n,.lst u 1 (Is f.t.fr),.lst u 1 (Is f.t.to),.lst u 1 (Is f.t.id),.lst u 1 (Ls f.t.cs),.lst u 1 (Ls f.sz),.lst u 1 (Es eL f.bf),.lst u 1 (Es eL f.bh)]
instance:Inhabited Prf:=⟨⟨default,default,default,default,default⟩⟩
def Q2F (x:Prf):List AV:=[.rptr (x.cells true)]
structure XTerm where
 variable_:Int
 arrow_:Int
def XTerm.cells (u:Bool) (f:XTerm):List AV:=[iV f.variable_,iV f.arrow_]
structure XQuery where
 variables_:List Int
 left_:List XTerm
 right_:List XTerm
 output_:List Int
def XQuery.cells (u:Bool) (f:XQuery):List AV:=[.lst u 1 (Is f.variables_),.lst u 2 (Es (XTerm.cells true) f.left_),.lst u 2 (Es (XTerm.cells true) f.right_),.lst u 1 (Is f.output_)]
structure XL20Space where
 c_:Cat
 objects_:List (List Int)
 arrows_:List (List Int)
def XL20Space.cells (u:Bool) (f:XL20Space):List AV:=[iV f.c_.n,.lst u 1 (Is f.c_.fr),.lst u 1 (Is f.c_.to),.lst u 1 (Is f.c_.id),.lst u 1 (Ls f.c_.cs),.lst u 1 (Ls f.objects_),.lst u 1 (Ls f.arrows_)]
structure XPairint64 where
 first_:Int
 second_:Int
def XPairint64.cells (u:Bool) (f:XPairint64):List AV:=[iV f.first_,iV f.second_]
structure XTotal where
 category_:Cat
 objects_:List (List Int)
 arrows_:List (List Int)
def XTotal.cells (u:Bool) (f:XTotal):List AV:=[iV f.category_.n,.lst u 1 (Is f.category_.fr),.lst u 1 (Is f.category_.to),.lst u 1 (Is f.category_.id),.lst u 1 (Ls f.category_.cs),.lst u 1 (Ls f.objects_),.lst u 1 (Ls f.arrows_)]
@[simp] theorem ef_26:elm Try.prog 26=some 23:=by kernel_rfl
@[simp] theorem ef_223:elm Try.prog 223=some 101:=by kernel_rfl
@[simp] theorem ff_28_0:fld Try.prog 28 0=some (0,5,true):=by kernel_rfl
@[simp] theorem ff_28_1:fld Try.prog 28 1=some (5,5,true):=by kernel_rfl
@[simp] theorem ff_28_2:fld Try.prog 28 2=some (10,1,false):=by kernel_rfl
@[simp] theorem ff_28_3:fld Try.prog 28 3=some (11,1,false):=by kernel_rfl
@[simp] theorem ff_28_4:fld Try.prog 28 4=some (12,1,false):=by kernel_rfl
@[simp] theorem ff_32_0:fld Try.prog 32 0=some (0,5,true):=by kernel_rfl
@[simp] theorem ff_32_1:fld Try.prog 32 1=some (5,5,true):=by kernel_rfl
@[simp] theorem ff_32_2:fld Try.prog 32 2=some (10,1,false):=by kernel_rfl
@[simp] theorem ff_32_3:fld Try.prog 32 3=some (11,1,false):=by kernel_rfl
@[simp] theorem ff_32_4:fld Try.prog 32 4=some (12,1,false):=by kernel_rfl
@[simp] theorem ff_44_0:fld Try.prog 44 0=some (0,5,true):=by kernel_rfl
@[simp] theorem ff_44_1:fld Try.prog 44 1=some (5,5,true):=by kernel_rfl
@[simp] theorem ff_44_2:fld Try.prog 44 2=some (10,1,false):=by kernel_rfl
@[simp] theorem ff_44_3:fld Try.prog 44 3=some (11,1,false):=by kernel_rfl
@[simp] theorem pf_44:Q40 Try.prog 44=some [(0,5),(5,5),(10,1),(11,1)]:=by kernel_rfl
@[simp] theorem tf_23:tyi Try.prog 23=some ⟨false,1,24,[.slice none 0 0]⟩:=by kernel_rfl
@[simp] theorem tf_26:tyi Try.prog 26=some ⟨false,1,24,[.slice none 0 0]⟩:=by kernel_rfl
@[simp] theorem tf_32:tyi Try.prog 32=some ⟨true,13,280,[.int .i64 0,.slice none 0 0,.slice none 0 0,.slice none 0 0,.slice none 0 0,.int .i64 0,.slice none 0 0,.slice none 0 0,.slice none 0 0,.slice none 0 0,.slice none 0 0,.slice none 0 0,.slice none 0 0]⟩:=by kernel_rfl
@[simp] theorem Q6a:tyi Try.prog 44=some ⟨true,12,256,[.int .i64 0,.slice none 0 0,.slice none 0 0,.slice none 0 0,.slice none 0 0,.int .i64 0,.slice none 0 0,.slice none 0 0,.slice none 0 0,.slice none 0 0,.slice none 0 0,.slice none 0 0]⟩:=by kernel_rfl
@[simp] theorem tf_101:tyi Try.prog 101=some ⟨false,1,8,[.pointer none]⟩:=by kernel_rfl
noncomputable def Q28 (xs:List Int) (ys:List Int):Option (Bool) :=
 some ((decide (xs=ys)))
theorem Q6e (xs:List Int) (ys:List Int) (r:Bool) (h:Q28 xs ys=some r):Contract Try.prog 49 [lI xs,lI ys] (.val (.bool r)):=by
 unfold Q28 at h;cases h;exact c29 true true xs ys
noncomputable def Q1N (xs:List Int) (n:Int):Option (Bool) :=
 ass (B64 (n - 1)) <| some ((xs.all (inR n)))
theorem Q51 (xs:List Int) (n:Int) (r:Bool) (h:Q1N xs n=some r):Contract Try.prog 186 [lI xs,iV n] (.val (.bool r)):=by
 unfold Q1N at h;replace h:=Q4 h;obtain ⟨hn,h⟩:=h;cases h;exact c22 true xs n hn
noncomputable def Q1M (xss:List (List Int)):Option (List (List Int)) :=
 ass (xss.length≤1048576) <| ass (∀ xs∈xss,xs.length≤1048576) <| some (xss)
theorem Q5v (xss:List (List Int)) (r:List (List Int)) (h:Q1M xss=some r):Contract Try.prog 60 [.lst true 1 (Ls xss)] (.lst true 1 (Ls r)):=by
 unfold Q1M at h;replace h:=Q4 h;obtain ⟨hx,h⟩:=h;replace h:=Q4 h;obtain ⟨hx',h⟩:=h;cases h;exact c20 true xss hx hx'
noncomputable def Q1L (xss:List (List Int)) (l:Int):Option (Int) :=
 ass (0≤l) <| ass (l≤1048576) <| some ((Q11 l xss))
theorem Q5u (xss:List (List Int)) (l:Int) (r:Int) (h:Q1L xss l=some r):Contract Try.prog 56 [.lst true 1 (Ls xss),iV l] (iV r):=by
 unfold Q1L at h;replace h:=Q4 h;obtain ⟨h1,h⟩:=h;replace h:=Q4 h;obtain ⟨h2,h⟩:=h;cases h;exact c15 true xss l h1 h2
noncomputable def Q3F (x:Int) (a:Int) (b:Int):Option (Bool) :=
 some ((decide (a≤x) && decide (x≤b)))
theorem w_s_l01In (x:Int) (a:Int) (b:Int) (r:Bool) (h:Q3F x a b=some r):Contract Try.prog 182 [iV x,iV a,iV b] (.val (.bool r)):=by
 unfold Q3F at h;cases h;exact c56 x a b
noncomputable def Q1O (n:Int) (xs:List Int):Option (Bool) :=
 some ((xs.all (inR n)))
theorem Q52 (n:Int) (xs:List Int) (r:Bool) (h:Q1O n xs=some r):Contract Try.prog 130 [iV n,lI xs] (.val (.bool r)):=by
 unfold Q1O at h;cases h;exact c57 true xs n
noncomputable def Q2q (xs:List Int):Option (List Int) :=
 ass (xs.length≤1048576) <| some (xs)
theorem Q53 (xs:List Int) (r:List Int) (h:Q2q xs=some r):Contract Try.prog 134 [lI xs] (lI r):=by
 unfold Q2q at h;replace h:=Q4 h;obtain ⟨hx,h⟩:=h;cases h;exact c58 true xs hx
noncomputable def Q2V (xs:List Int):Option (List Int) :=
 ass (xs.length≤1048576) <| some (xs)
theorem Q6d (xs:List Int) (r:List Int) (h:Q2V xs=some r):Contract Try.prog 67 [lI xs] (lI r):=by
 unfold Q2V at h;replace h:=Q4 h;obtain ⟨hx,h⟩:=h;cases h;exact c47 true xs hx
noncomputable def QI (c:Cat):Option (Int) :=
 some (c.fr.length)
theorem Q22 (c:Cat) (r:Int) (h:QI c=some r):Contract Try.prog 143 [.rptr (c.cells true)] (iV r):=by
 unfold QI at h;cases h;have q:=c61 true c [];simp only [List.append_nil] at q;exact q
noncomputable def Q1q (xs:List Int) (m:Int) (n:Int):Option (Bool) :=
 ass (B64 (n - 1)) <| some ((decide ((xs.length:Int)=m) && xs.all (inR n)))
theorem Q4z (xs:List Int) (m:Int) (n:Int) (r:Bool) (h:Q1q xs m n=some r):Contract Try.prog 187 [lI xs,iV m,iV n] (.val (.bool r)):=by
 unfold Q1q at h;replace h:=Q4 h;obtain ⟨hn,h⟩:=h;cases h;exact c62 true xs m n hn
noncomputable def Q2r (c:Cat):Option (Cat) :=
 ass (c.ok) <| some (c)
theorem Q55 (c:Cat) (r:Cat) (h:Q2r c=some r):Contract Try.prog 133 [.agg (c.cells true)] (.agg (r.cells true)):=by
 unfold Q2r at h;replace h:=Q4 h;obtain ⟨hc,h⟩:=h;cases h;exact c41 true c hc
noncomputable def QR (c:Cat):Option (Cat) :=
 ass (c.ok) <| some (c)
theorem Q2t (c:Cat) (r:Cat) (h:QR c=some r):Contract Try.prog 129 [.rptr (c.cells true)] (.agg (r.cells true)):=by
 unfold QR at h;replace h:=Q4 h;obtain ⟨hc,h⟩:=h;cases h;have q:=c23 true c [] hc;simp only [List.append_nil] at q;exact q
noncomputable def Q2W (c:Cat):Option (Bool) :=
 some ((bo c.Is))
theorem Q6g (c:Cat) (r:Bool) (h:Q2W c=some r):Contract Try.prog 116 [.agg (c.cells true)] (.val (.bool r)):=by
 unfold Q2W at h;cases h;exact c55 true c
noncomputable def Qz (c:Cat):Option (Bool) :=
 some ((bo c.Is))
theorem Q2B (c:Cat) (r:Bool) (h:Qz c=some r):Contract Try.prog 142 [.rptr (c.cells true)] (.val (.bool r)):=by
 unfold Qz at h;cases h;have q:=c60 true c [];simp only [List.append_nil] at q;exact q
noncomputable def Q14 (xs:List Int) (ys:List Int):Option (Bool) :=
 some ((decide (xs=ys)))
theorem Q3r (xs:List Int) (ys:List Int) (r:Bool) (h:Q14 xs ys=some r):Contract Try.prog 131 [lI xs,lI ys] (.val (.bool r)):=by
 unfold Q14 at h;cases h;exact n54 true true xs ys
noncomputable def QE (f:List Int) (g:List Int):Option (List Int) :=
 ass (f.length≤1048576) <| ass (∀ y∈f,0≤y∧y<(g.length:Int)) <| some ((QL f g))
theorem Q2E (f:List Int) (g:List Int) (r:List Int) (h:QE f g=some r):Contract Try.prog 184 [lI f,lI g] (lI r):=by
 unfold QE at h;replace h:=Q4 h;obtain ⟨hx,h⟩:=h;replace h:=Q4 h;obtain ⟨hg,h⟩:=h;cases h;exact n58 true true f g hx hg
noncomputable def Q1c (f:List Int) (g:List Int):Option (List Int) :=
 ass (f.length≤1048576) <| ass (∀ y∈f,0≤y∧y<(g.length:Int)) <| some ((QL f g))
theorem Q4e (f:List Int) (g:List Int) (r:List Int) (h:Q1c f g=some r):Contract Try.prog 124 [lI f,lI g] (lI r):=by
 unfold Q1c at h;replace h:=Q4 h;obtain ⟨hx,h⟩:=h;replace h:=Q4 h;obtain ⟨hg,h⟩:=h;cases h;exact n65 true true f g hx hg
noncomputable def Q1k (xs:List Int) (ys:List Int):Option (Bool) :=
 some ((decide (xs=ys)))
theorem Q3K (xs:List Int) (ys:List Int) (r:Bool) (h:Q1k xs ys=some r):Contract Try.prog 125 [lI xs,lI ys] (.val (.bool r)):=by
 unfold Q1k at h;cases h;exact n62 true true xs ys
noncomputable def Q2p (xs:List Int) (n:Int):Option (Bool) :=
 some ((bo (n∈xs)))
theorem Q89 (xs:List Int) (n:Int) (r:Bool) (h:Q2p xs n=some r):Contract Try.prog 196 [lI xs,iV n] (.val (.bool r)):=by
 unfold Q2p at h;cases h;exact iq72 true xs n
noncomputable def Q39 (bs:List Bool):Option (List Int) :=
 ass (bs.length≤1048576) <| some ((mkF bs bs.length))
theorem Q88 (bs:List Bool) (r:List Int) (h:Q39 bs=some r):Contract Try.prog 212 [.lst true 1 (Bs bs)] (lI r):=by
 unfold Q39 at h;replace h:=Q4 h;obtain ⟨hb,h⟩:=h;cases h;exact iq86 true bs hb
@[simp] theorem ass_true {α:Type} {k:Option α}:ass True k=k:=Q6 trivial
theorem bo_tt (p:Prop):(bo p=true)=p:=by simp [bo]
theorem Qm {p:Prop} (h:p):bo p=true:=by simp [bo,h]
theorem Qf {p:Prop} (h:¬ p):bo p=false:=by simp [bo,h]
theorem Q3i {p q:Prop} (h:p↔q):bo p=bo q:=by simp [bo,h]
theorem loop_go {σ ε:Type} {body:σ→Option (Ctl σ ε)} (g:Nat→σ) (m:Nat):∀ (k:Nat),m≤k→(∀ i,i<m→body (g i)=some (.next (g (i+1))))→Qu body k (g 0)=Qu body (k - m) (g m):=by
 induction m with
 | zero=>intro k _ _;rfl
 | succ m ih =>
  intro k hk h;rw [ih k (by omega) fun i hi=>h i (by omega)];obtain ⟨j,hj⟩:∃ j,k - m=j+1:=⟨k - m - 1,by omega⟩;rw [hj,show k - (m+1)=j by omega];simp only [Qu,h m (by omega)]
theorem Q34 {σ ε:Type} {body:σ→Option (Ctl σ ε)} (g:Nat→σ) (n:Nat) {e:ε} {s0:σ} (h0:s0=g 0) (hn:n<4611686018427387904) (h:∀ i,i<n→body (g i)=some (.next (g (i+1)))) (he:body (g n)=some (.ret e)):Qu body fuel s0=some e:=by
 subst h0;rw [loop_go g n fuel (by unfold fuel;omega) h];obtain ⟨j,hj⟩:∃ j,fuel - n=j+1:=⟨fuel - n - 1,by unfold fuel;omega⟩;rw [hj];simp only [Qu,he]
theorem Q7m {ε:Type} {body:Int→Option (Ctl Int ε)} (n:Nat) (p:Nat→Prop) {eb eg:ε} (hn:n<4611686018427387904) (h1:∀ i:Nat,i<n→p i→body (i:Int)=some (.next ((i:Int)+1))) (h2:∀ i:Nat,i<n→¬ p i→body (i:Int)=some (.ret eb)) (h3:body (n:Int)=some (.ret eg)) :
  Qu body fuel 0=some (@ite _ (∀ i:Nat,i<n→p i) (Classical.propDecidable _) eg eb):=by
 by_cases hall:∀ i:Nat,i<n→p i
 ·rw [if_pos hall];exact Q34 (fun i:Nat=>(i:Int)) n rfl hn (fun i hi=>h1 i hi (hall i hi)) h3
 rw [if_neg hall];have hex:∃ i,i<n∧¬ p i:=Classical.byContradiction fun hx=>hall fun i hi=>Classical.byContradiction fun hp=>hx ⟨i,hi,hp⟩;obtain ⟨m,⟨hm,hp⟩,hmin⟩:∃ m,(m<n∧¬ p m)∧∀ k,k<m→¬ (k<n∧¬ p k):=by
  obtain ⟨i,hi⟩:=hex
  induction i using Nat.strongRecOn with
  | _ i ih =>
   by_cases h:∃ k,k<i∧k<n∧¬ p k
   ·obtain ⟨k,h1,h2⟩:=h;exact ih k h1 h2
   exact ⟨i,hi,fun k hk hh=>h ⟨k,hk,hh⟩⟩
 exact Q34 (fun i:Nat=>(i:Int)) m rfl (by omega) (fun i hi=>h1 i (by omega) (Classical.byContradiction fun hh=>hmin i hi ⟨by omega,hh⟩)) (h2 m hm hp)
theorem loop_fst {ε:Type} {body:Int→Option (Ctl Int ε)} (n:Nat) (p:Nat→Prop) {eb:Nat→ε} {eg:ε} (hn:n<4611686018427387904) (h1:∀ i:Nat,i<n→p i→body (i:Int)=some (.next ((i:Int)+1))) (h2:∀ i:Nat,i<n→¬ p i→body (i:Int)=some (.ret (eb i))) (h3:body (n:Int)=some (.ret eg)) :
  ((∀ i:Nat,i<n→p i)∧Qu body fuel 0=some eg)∨∃ m,m<n∧¬ p m∧(∀ k,k<m→p k)∧Qu body fuel 0=some (eb m):=by
 by_cases hall:∀ i:Nat,i<n→p i
 ·exact .inl ⟨hall,Q34 (fun i:Nat=>(i:Int)) n rfl hn (fun i hi=>h1 i hi (hall i hi)) h3⟩
 right;have hex:∃ i,i<n∧¬ p i:=Classical.byContradiction fun hx=>hall fun i hi=>Classical.byContradiction fun hp=>hx ⟨i,hi,hp⟩;obtain ⟨m,⟨hm,hp⟩,hmin⟩:∃ m,(m<n∧¬ p m)∧∀ k,k<m→¬ (k<n∧¬ p k):=by
  obtain ⟨i,hi⟩:=hex
  induction i using Nat.strongRecOn with
  | _ i ih =>
   by_cases h:∃ k,k<i∧k<n∧¬ p k
   ·obtain ⟨k,h1,h2⟩:=h;exact ih k h1 h2
   exact ⟨i,hi,fun k hk hh=>h ⟨k,hk,hh⟩⟩
 have hlt:∀ k,k<m→p k:=fun k hk=>Classical.byContradiction fun hh=>hmin k hk ⟨by omega,hh⟩;exact ⟨m,hm,hp,hlt,Q34 (fun i:Nat=>(i:Int)) m rfl (by omega) (fun i hi=>h1 i (by omega) (hlt i hi)) (h2 m hm hp)⟩
theorem Q5h {α ε:Type} {body:α × Int→Option (Ctl (α × Int) ε)} (g:Nat→α) (n:Nat) {e:ε} {a0:α} (h0:a0=g 0) (hn:n<4611686018427387904) (h:∀ i:Nat,i<n→body (g i,(i:Int))=some (.next (g (i+1),(i:Int)+1))) (he:body (g n,(n:Int))=some (.ret e)):Qu body fuel (a0,0)=some e:=by
 subst h0;exact Q34 (fun i:Nat=>(g i,(i:Int))) n rfl hn h he
theorem all_inR {xs:List Int} {n:Int}:xs.all (inR n)=true↔∀ j:Nat,j<xs.length→0≤ix xs j∧ix xs j<n:=by
 rw [List.all_eq_true];constructor
 ·intro h j hj;have:=h _ (List.getElem_mem hj);rw [QT _ _ hj] at this;simp only [inR,Bool.and_eq_true,decide_eq_true_eq] at this;omega
 intro h x hx;obtain ⟨i,hi,rfl⟩:=List.getElem_of_mem hx;rw [QT _ _ hi];have:=h i hi;simp only [inR,Bool.and_eq_true,decide_eq_true_eq];omega
theorem Q56 {ε β:Type} {body:Int→Option (Ctl Int ε)} {K:ε→Option β} {r:β} (n:Nat) (p:Nat→Prop) {eb eg:ε} (hn:n<4611686018427387904) (h1:∀ i:Nat,i<n→p i→body (i:Int)=some (.next ((i:Int)+1))) (h2:∀ i:Nat,i<n→¬ p i→body (i:Int)=some (.ret eb)) (h3:body (n:Int)=some (.ret eg))
  (hb:(¬ ∀ i:Nat,i<n→p i)→K eb=some r) (hg:(∀ i:Nat,i<n→p i)→K eg=some r):(Qu body fuel 0).bind K=some r:=by
 rw [Q7m n p hn h1 h2 h3]
 by_cases h:∀ i:Nat,i<n→p i
 ·rw [if_pos h];exact hg h
 rw [if_neg h];exact hb h
theorem Q2Z {α ε β:Type} {body:α × Int→Option (Ctl (α × Int) ε)} {K:ε→Option β} {r:Option β} {a0:α} (n:Nat) (g:Nat→α) {e:ε} (h0:a0=g 0) (hn:n<4611686018427387904) (h:∀ i:Nat,i<n→body (g i,(i:Int))=some (.next (g (i+1),(i:Int)+1))) (he:body (g n,(n:Int))=some (.ret e)) (hk:K e=r):(Qu body fuel (a0,0)).bind K=r:=by
 rw [Q5h g n h0 hn h he];exact hk
attribute [local simp] eL eI Qw
noncomputable def Q1l (a_:List (List Int)) (b_:List (List Int)):Option Bool :=
 if ¬ ((a_.length:Int)=(b_.length:Int)) then
  some false
 else
  (Qu (σ:=Int) (ε:=Unit ⊕ Bool) (fun s9 =>
   if s9<(a_.length:Int) then
    ass (0≤s9∧s9<(a_.length:Int)) <|
    ass (0≤s9∧s9<(b_.length:Int)) <|
    (Q28 (rx a_ s9) (rx b_ s9)).bind fun v13 =>
    if ¬ (v13=true) then
     some (Ctl.ret (Sum.inr false))
    else
     ass (B64 (s9+1)) <|
     some (Ctl.next (s9+1))
   else
    some (Ctl.ret (Sum.inl ()))) fuel 0).bind fun e2 =>
  match e2 with
  | .inl b2 =>
   some true
  | .inr p2 =>
   some p2
theorem wkQ8 {F : Fx} {st st' : St} (m : List (Nat × Nat)) (h : (m.map Prod.fst).Nodup ∧ (m.map Prod.snd).Nodup ∧ (∀ id, id < F.pins → look id m = some id) ∧ (∀ p ∈ m, p.2 < st'.n) ∧ (∀ p ∈ st'.h, p.1 < st'.n) ∧ (∀ p ∈ st'.s, p.2 = rl m (st.get p.1) ∨ p.2 = .bot) ∧ ∀ p ∈ st'.h, hhOk m st.h p.1 p.2 := by simp [hP, hhOk, back, UA, U1, IA, I1, LA, L1, BA, B1, EA, E1, E2, eB, eI, eL, Cat.cells, Fn.cells, Prf.cells]) : Wk F st st' := Wk.r1 m h
theorem Q5t (a_:List (List Int)) (b_:List (List Int)) (r:Bool) (h:Q1l a_ b_=some r):Contract Try.prog 31 [.lst true 1 (Ls a_),.lst true 1 (Ls b_)] (.val (.bool r)):=by
 refine Qg (rvs:=[.tmp 4]) (rs:=[.val (.bool r)]) Try.func31 rfl rfl rfl rfl (by simp [Try.f31]) fun F hN hP=>?_;unfold Q1l at h;refine Q5 ?_;refine runQ hN fun K hK=>?_;simp [-Q0,-Q7,-Q1,-Q8,-Q2];repeat refine sdQ ?_
 refine hK _ ?_;clear hK K;refine tn ?_;refine Q9 (st':=⟨[(0,.lst true 1 (Ls a_)),(1,.lst true 1 (Ls b_))],[],0⟩) (wkQ8 []) ?_;refine Q5 ?_;refine Q5 ?_;refine runQ hN fun K hK=>?_;simp [-Q0,-Q7,-Q1,-Q8,-Q2];repeat refine sdQ ?_
 refine hK _ ?_;clear hK K;refine tn ?_;refine Q9 (st':=⟨[(0,.lst true 1 (Ls a_)),(1,.lst true 1 (Ls b_)),(10,.val (.bool ((a_.length:Int) != (b_.length:Int))))],[],0⟩) (wkQ8 []) ?_;refine Qc rfl (fun g=>?_) fun g=>?_
 ·have g1:¬ ((a_.length:Int)=(b_.length:Int)):=gQ;clear g;replace h:=if_l g1 h;refine Q5 ?_;refine runQ hN fun K hK=>?_;simp [-Q0,-Q7,-Q1,-Q8,-Q2];repeat refine sdQ ?_
  refine hK _ ?_;clear hK K;refine tn ?_;refine Q9 (st':=⟨[(4,.val (.bool false))],[],0⟩) (wkQ8 []) ?_;refine Qh ?_;refine tr ?_;have hr:=Option.some.inj h;rw [← hr];refine ⟨_,(.tmp .nil),?_⟩;refine ⟨(.one rfl rfl .nil),[.val (.bool false)],[],by simp [UA,U1,IA,I1,LA,L1,BA,B1,EA,E1,E2,eB,eI,eL],by simp,(UpL.refl _)⟩
 have g1:¬ (¬ ((a_.length:Int)=(b_.length:Int))):=gQ;clear g;replace h:=if_r g1 h;refine Qd ?_;refine tn ?_;refine Q5 ?_;refine Q5 ?_;refine runQ hN fun K hK=>?_;simp [-Q0,-Q7,-Q1,-Q8,-Q2];repeat refine sdQ ?_
 refine hK _ ?_;clear hK K;refine tn ?_;refine Q9 (st':=⟨[(0,.lst true 1 (Ls a_)),(1,.lst true 1 (Ls b_)),(5,iV 0)],[],0⟩) (wkQ8 []) ?_;replace h:=bind_some h;obtain ⟨e2,h,h2⟩:=h;refine Qj (fun b2:Unit=>⟨[],[],0⟩) (fun b2=>Sum.inl b2=e2) ?_ ?_
 ·refine Qa ?_;refine Qr h (fun s9:Int=>⟨[(0,.lst true 1 (Ls a_)),(1,.lst true 1 (Ls b_)),(5,iV s9)],[],0⟩) (wkQ8 []) ?_;clear h;intro k9 s9 c9 h hk9;refine Q5 ?_;refine Q5 ?_;refine runQ hN fun K hK=>?_;simp [-Q0,-Q7,-Q1,-Q8,-Q2];repeat refine sdQ ?_
  refine hK _ ?_;clear hK K;refine tn ?_;refine Q9 (st':=⟨[(0,.lst true 1 (Ls a_)),(1,.lst true 1 (Ls b_)),(5,iV s9),(14,.val (.bool (decide (s9<(a_.length:Int)))))],[],0⟩) (wkQ8 []) ?_;refine Qc rfl (fun g=>?_) fun g=>?_
  ·have g10:s9<(a_.length:Int):=gQ;clear g;replace h:=if_l g10 h;refine Qd ?_;refine tn ?_;refine Q5 ?_;refine Qa ?_;refine Q5 ?_;refine runQ hN fun K hK=>?_;replace h:=Q4 h;obtain ⟨a11,h⟩:=h;replace h:=Q4 h;obtain ⟨a12,h⟩:=h;simp [-Q0,-Q7,-Q1,-Q8,-Q2,at_L a11,at_L a12];(repeat with_reducible refine sdQ ?_);replace h:=bind_some h;obtain ⟨v13,hv13,h⟩:=h;refine Q3 (Q6e _ _ v13 hv13) (.cons .lst (.cons .lst .nil)) ?_;simp [-Q0,-Q7,-Q1,-Q8,-Q2,unk,unA,unE,unT,unC,flat,at_L a11,at_L a12];(repeat refine sdQ ?_);refine hK _ ?_;clear hK K;refine tn ?_;refine Q9 (st':=⟨[(0,.lst true 1 (Ls a_)),(1,.lst true 1 (Ls b_)),(5,iV s9),(26,.val (.bool (!v13)))],[],0⟩) (wkQ8 []) ?_;refine Qc rfl (fun g=>?_) fun g=>?_
   ·have g14:¬ (v13=true):=gQ;clear g;replace h:=if_l g14 h;refine Q5 ?_;refine runQ hN fun K hK=>?_;simp [-Q0,-Q7,-Q1,-Q8,-Q2];(repeat refine sdQ ?_);refine hK _ ?_;clear hK K;refine tn ?_;refine Q9 (st':=⟨[(4,.val (.bool false))],[],0⟩) (wkQ8 []) ?_;refine Qh ?_;refine br ?_;refine tr ?_;refine lr ?_;refine br ?_;refine tr ?_;cases h;have q:_=e2:=hk9;have h:=h2;rw [← q] at h;clear q;(try dsimp only at h);have hr:=Option.some.inj h;rw [← hr];refine ⟨_,(.tmp .nil),?_⟩;refine ⟨(.one rfl rfl .nil),[.val (.bool false)],[],by simp [UA,U1,IA,I1,LA,L1,BA,B1,EA,E1,E2,eB,eI,eL],by simp,(UpL.refl _)⟩
   have g14:¬ (¬ (v13=true)):=gQ;clear g;replace h:=if_r g14 h;refine Qd ?_;refine bn ?_;refine tn ?_;refine runQ hN fun K hK=>?_;replace h:=Q4 h;obtain ⟨a15,h⟩:=h;simp [-Q0,-Q7,-Q1,-Q8,-Q2,Qn a15];(repeat refine sdQ ?_);refine hK _ ?_;clear hK K;cases h;exact rn (s':=s9+1) hk9 (wkQ8 [])
  have g10:¬ (s9<(a_.length:Int)):=gQ;clear g;replace h:=if_r g10 h;refine Ql ?_;refine tx ?_;refine lx ?_;refine bh ?_;cases h;exact jn (b:=()) hk9 (wkQ8 [])
 intro b2 hb2;have h:=h2;try rw [← hb2] at h
 clear h2;try dsimp only at h
 refine Q5 ?_;refine runQ hN fun K hK=>?_;simp [-Q0,-Q7,-Q1,-Q8,-Q2];repeat refine sdQ ?_
 refine hK _ ?_;clear hK K;refine tn ?_;refine Q9 (st':=⟨[(4,.val (.bool true))],[],0⟩) (wkQ8 []) ?_;refine Qh ?_;have hr:=Option.some.inj h;rw [← hr];refine ⟨_,(.tmp .nil),?_⟩;refine ⟨(.one rfl rfl .nil),[.val (.bool true)],[],by simp [UA,U1,IA,I1,LA,L1,BA,B1,EA,E1,E2,eB,eI,eL],by simp,(UpL.refl _)⟩
attribute [local simp] eL eI Qw
noncomputable def Q1w (a_:List (List (List Int))) (b_:List (List (List Int))):Option Bool :=
 if ¬ ((a_.length:Int)=(b_.length:Int)) then
  some false
 else
  (Qu (σ:=Int) (ε:=Unit ⊕ Bool) (fun s9 =>
   if s9<(a_.length:Int) then
    ass (0≤s9∧s9<(a_.length:Int)) <|
    ass (0≤s9∧s9<(b_.length:Int)) <|
    (Q1l (gx a_ s9) (gx b_ s9)).bind fun v13 =>
    if ¬ (v13=true) then
     some (Ctl.ret (Sum.inr false))
    else
     ass (B64 (s9+1)) <|
     some (Ctl.next (s9+1))
   else
    some (Ctl.ret (Sum.inl ()))) fuel 0).bind fun e2 =>
  match e2 with
  | .inl b2 =>
   some true
  | .inr p2 =>
   some p2
theorem Q4I (a_:List (List (List Int))) (b_:List (List (List Int))) (r:Bool) (h:Q1w a_ b_=some r):Contract Try.prog 69 [.lst true 1 (Es eL a_),.lst true 1 (Es eL b_)] (.val (.bool r)):=by
 refine Qg (rvs:=[.tmp 4]) (rs:=[.val (.bool r)]) Try.func69 rfl rfl rfl rfl (by simp [Try.f69]) fun F hN hP=>?_;unfold Q1w at h;refine Q5 ?_;refine runQ hN fun K hK=>?_;simp [-Q0,-Q7,-Q1,-Q8,-Q2];repeat refine sdQ ?_
 refine hK _ ?_;clear hK K;refine tn ?_;refine Q9 (st':=⟨[(0,.lst true 1 (Es eL a_)),(1,.lst true 1 (Es eL b_))],[],0⟩) (wkQ8 []) ?_;refine Q5 ?_;refine Q5 ?_;refine runQ hN fun K hK=>?_;simp [-Q0,-Q7,-Q1,-Q8,-Q2];repeat refine sdQ ?_
 refine hK _ ?_;clear hK K;refine tn ?_;refine Q9 (st':=⟨[(0,.lst true 1 (Es eL a_)),(1,.lst true 1 (Es eL b_)),(10,.val (.bool ((a_.length:Int) != (b_.length:Int))))],[],0⟩) (wkQ8 []) ?_;refine Qc rfl (fun g=>?_) fun g=>?_
 ·have g1:¬ ((a_.length:Int)=(b_.length:Int)):=gQ;clear g;replace h:=if_l g1 h;refine Q5 ?_;refine runQ hN fun K hK=>?_;simp [-Q0,-Q7,-Q1,-Q8,-Q2];repeat refine sdQ ?_
  refine hK _ ?_;clear hK K;refine tn ?_;refine Q9 (st':=⟨[(4,.val (.bool false))],[],0⟩) (wkQ8 []) ?_;refine Qh ?_;refine tr ?_;have hr:=Option.some.inj h;rw [← hr];refine ⟨_,(.tmp .nil),?_⟩;refine ⟨(.one rfl rfl .nil),[.val (.bool false)],[],by simp [UA,U1,IA,I1,LA,L1,BA,B1,EA,E1,E2,eB,eI,eL],by simp,(UpL.refl _)⟩
 have g1:¬ (¬ ((a_.length:Int)=(b_.length:Int))):=gQ;clear g;replace h:=if_r g1 h;refine Qd ?_;refine tn ?_;refine Q5 ?_;refine Q5 ?_;refine runQ hN fun K hK=>?_;simp [-Q0,-Q7,-Q1,-Q8,-Q2];repeat refine sdQ ?_
 refine hK _ ?_;clear hK K;refine tn ?_;refine Q9 (st':=⟨[(0,.lst true 1 (Es eL a_)),(1,.lst true 1 (Es eL b_)),(5,iV 0)],[],0⟩) (wkQ8 []) ?_;replace h:=bind_some h;obtain ⟨e2,h,h2⟩:=h;refine Qj (fun b2:Unit=>⟨[],[],0⟩) (fun b2=>Sum.inl b2=e2) ?_ ?_
 ·refine Qa ?_;refine Qr h (fun s9:Int=>⟨[(0,.lst true 1 (Es eL a_)),(1,.lst true 1 (Es eL b_)),(5,iV s9)],[],0⟩) (wkQ8 []) ?_;clear h;intro k9 s9 c9 h hk9;refine Q5 ?_;refine Q5 ?_;refine runQ hN fun K hK=>?_;simp [-Q0,-Q7,-Q1,-Q8,-Q2];repeat refine sdQ ?_
  refine hK _ ?_;clear hK K;refine tn ?_;refine Q9 (st':=⟨[(0,.lst true 1 (Es eL a_)),(1,.lst true 1 (Es eL b_)),(5,iV s9),(14,.val (.bool (decide (s9<(a_.length:Int)))))],[],0⟩) (wkQ8 []) ?_;refine Qc rfl (fun g=>?_) fun g=>?_
  ·have g10:s9<(a_.length:Int):=gQ;clear g;replace h:=if_l g10 h;refine Qd ?_;refine tn ?_;refine Q5 ?_;refine Qa ?_;refine Q5 ?_;refine runQ hN fun K hK=>?_;replace h:=Q4 h;obtain ⟨a11,h⟩:=h;replace h:=Q4 h;obtain ⟨a12,h⟩:=h;simp [-Q0,-Q7,-Q1,-Q8,-Q2,at_E (c:=eL) a11,at_E (c:=eL) a12];(repeat with_reducible refine sdQ ?_);replace h:=bind_some h;obtain ⟨v13,hv13,h⟩:=h;refine Q3 (Q5t _ _ v13 hv13) (.cons .lst (.cons .lst .nil)) ?_;simp [-Q0,-Q7,-Q1,-Q8,-Q2,unk,unA,unE,unT,unC,flat,at_E (c:=eL) a11,at_E (c:=eL) a12];(repeat refine sdQ ?_);refine hK _ ?_;clear hK K;refine tn ?_;refine Q9 (st':=⟨[(0,.lst true 1 (Es eL a_)),(1,.lst true 1 (Es eL b_)),(5,iV s9),(26,.val (.bool (!v13)))],[],0⟩) (wkQ8 []) ?_;refine Qc rfl (fun g=>?_) fun g=>?_
   ·have g14:¬ (v13=true):=gQ;clear g;replace h:=if_l g14 h;refine Q5 ?_;refine runQ hN fun K hK=>?_;simp [-Q0,-Q7,-Q1,-Q8,-Q2];(repeat refine sdQ ?_);refine hK _ ?_;clear hK K;refine tn ?_;refine Q9 (st':=⟨[(4,.val (.bool false))],[],0⟩) (wkQ8 []) ?_;refine Qh ?_;refine br ?_;refine tr ?_;refine lr ?_;refine br ?_;refine tr ?_;cases h;have q:_=e2:=hk9;have h:=h2;rw [← q] at h;clear q;(try dsimp only at h);have hr:=Option.some.inj h;rw [← hr];refine ⟨_,(.tmp .nil),?_⟩;refine ⟨(.one rfl rfl .nil),[.val (.bool false)],[],by simp [UA,U1,IA,I1,LA,L1,BA,B1,EA,E1,E2,eB,eI,eL],by simp,(UpL.refl _)⟩
   have g14:¬ (¬ (v13=true)):=gQ;clear g;replace h:=if_r g14 h;refine Qd ?_;refine bn ?_;refine tn ?_;refine runQ hN fun K hK=>?_;replace h:=Q4 h;obtain ⟨a15,h⟩:=h;simp [-Q0,-Q7,-Q1,-Q8,-Q2,Qn a15];(repeat refine sdQ ?_);refine hK _ ?_;clear hK K;cases h;exact rn (s':=s9+1) hk9 (wkQ8 [])
  have g10:¬ (s9<(a_.length:Int)):=gQ;clear g;replace h:=if_r g10 h;refine Ql ?_;refine tx ?_;refine lx ?_;refine bh ?_;cases h;exact jn (b:=()) hk9 (wkQ8 [])
 intro b2 hb2;have h:=h2;try rw [← hb2] at h
 clear h2;try dsimp only at h
 refine Q5 ?_;refine runQ hN fun K hK=>?_;simp [-Q0,-Q7,-Q1,-Q8,-Q2];repeat refine sdQ ?_
 refine hK _ ?_;clear hK K;refine tn ?_;refine Q9 (st':=⟨[(4,.val (.bool true))],[],0⟩) (wkQ8 []) ?_;refine Qh ?_;have hr:=Option.some.inj h;rw [← hr];refine ⟨_,(.tmp .nil),?_⟩;refine ⟨(.one rfl rfl .nil),[.val (.bool true)],[],by simp [UA,U1,IA,I1,LA,L1,BA,B1,EA,E1,E2,eB,eI,eL],by simp,(UpL.refl _)⟩
attribute [local simp] eL eI Qw
noncomputable def Q1x (a_:List (List (List Int))) (left_:Int):Option Int :=
 ass (B64 (left_ - (a_.length:Int))) <|
 if (left_ - (a_.length:Int))<0 then
  some (-1)
 else
  (Qu (σ:=Int × Int) (ε:=Int ⊕ Int) (fun s9 =>
   if s9.2<(a_.length:Int) then
    ass (0≤s9.2∧s9.2<(a_.length:Int)) <|
    (Q1L (gx a_ s9.2) s9.1).bind fun v12 =>
    if v12<0 then
     some (Ctl.ret (Sum.inr (-1)))
    else
     ass (B64 (s9.2+1)) <|
     some (Ctl.next (v12,s9.2+1))
   else
    some (Ctl.ret (Sum.inl s9.1))) fuel (left_ - (a_.length:Int),0)).bind fun e3 =>
  match e3 with
  | .inl b3 =>
   some b3
  | .inr p3 =>
   some p3
theorem Q4J (a_:List (List (List Int))) (left_:Int) (r:Int) (h:Q1x a_ left_=some r):Contract Try.prog 57 [.lst true 1 (Es eL a_),iV left_] (iV r):=by
 refine Qg (rvs:=[.tmp 4]) (rs:=[iV r]) Try.func57 rfl rfl rfl rfl (by simp [Try.f57]) fun F hN hP=>?_;unfold Q1x at h;refine Q5 ?_;refine runQ hN fun K hK=>?_;simp [-Q0,-Q7,-Q1,-Q8,-Q2];repeat refine sdQ ?_
 refine hK _ ?_;clear hK K;refine tn ?_;refine Q9 (st':=⟨[(0,.lst true 1 (Es eL a_)),(1,iV left_)],[],0⟩) (wkQ8 []) ?_;refine Q5 ?_;refine runQ hN fun K hK=>?_;replace h:=Q4 h;obtain ⟨a1,h⟩:=h;simp [-Q0,-Q7,-Q1,-Q8,-Q2,Qn a1];repeat refine sdQ ?_
 refine hK _ ?_;clear hK K;refine tn ?_;refine Q9 (st':=⟨[(0,.lst true 1 (Es eL a_)),(1,iV (left_ - (a_.length:Int)))],[],0⟩) (wkQ8 []) ?_;refine Q5 ?_;refine Q5 ?_;refine runQ hN fun K hK=>?_;simp [-Q0,-Q7,-Q1,-Q8,-Q2];repeat refine sdQ ?_
 refine hK _ ?_;clear hK K;refine tn ?_;refine Q9 (st':=⟨[(0,.lst true 1 (Es eL a_)),(1,iV (left_ - (a_.length:Int))),(11,.val (.bool (decide ((left_ - (a_.length:Int))<0))))],[],0⟩) (wkQ8 []) ?_;refine Qc rfl (fun g=>?_) fun g=>?_
 ·have g2:(left_ - (a_.length:Int))<0:=gQ;clear g;replace h:=if_l g2 h;refine Q5 ?_;refine runQ hN fun K hK=>?_;simp [-Q0,-Q7,-Q1,-Q8,-Q2];repeat refine sdQ ?_
  refine hK _ ?_;clear hK K;refine tn ?_;refine Q9 (st':=⟨[(4,iV (-1))],[],0⟩) (wkQ8 []) ?_;refine Qh ?_;refine tr ?_;have hr:=Option.some.inj h;rw [← hr];refine ⟨_,(.tmp .nil),?_⟩;refine ⟨(.one rfl rfl .nil),[iV (-1)],[],by simp [UA,U1,IA,I1,LA,L1,BA,B1,EA,E1,E2,eB,eI,eL],by simp,(UpL.refl _)⟩
 have g2:¬ ((left_ - (a_.length:Int))<0):=gQ;clear g;replace h:=if_r g2 h;refine Qd ?_;refine tn ?_;refine Q5 ?_;refine Q5 ?_;refine runQ hN fun K hK=>?_;simp [-Q0,-Q7,-Q1,-Q8,-Q2];repeat refine sdQ ?_
 refine hK _ ?_;clear hK K;refine tn ?_;refine Q9 (st':=⟨[(0,.lst true 1 (Es eL a_)),(1,iV (left_ - (a_.length:Int))),(5,iV 0)],[],0⟩) (wkQ8 []) ?_;replace h:=bind_some h;obtain ⟨e3,h,h3⟩:=h;refine Qj (fun b3:Int=>⟨[(1,iV b3)],[],0⟩) (fun b3=>Sum.inl b3=e3) ?_ ?_
 ·refine Qa ?_;refine Qr h (fun s9:Int × Int=>⟨[(0,.lst true 1 (Es eL a_)),(1,iV s9.1),(5,iV s9.2)],[],0⟩) (wkQ8 []) ?_;clear h;intro k9 s9 c9 h hk9;refine Q5 ?_;refine Q5 ?_;refine runQ hN fun K hK=>?_;simp [-Q0,-Q7,-Q1,-Q8,-Q2];repeat refine sdQ ?_
  refine hK _ ?_;clear hK K;refine tn ?_;refine Q9 (st':=⟨[(0,.lst true 1 (Es eL a_)),(1,iV s9.1),(5,iV s9.2),(15,.val (.bool (decide (s9.2<(a_.length:Int)))))],[],0⟩) (wkQ8 []) ?_;refine Qc rfl (fun g=>?_) fun g=>?_
  ·have g10:s9.2<(a_.length:Int):=gQ;clear g;replace h:=if_l g10 h;refine Qd ?_;refine tn ?_;refine Q5 ?_;refine Qa ?_;refine Q5 ?_;refine runQ hN fun K hK=>?_;replace h:=Q4 h;obtain ⟨a11,h⟩:=h;simp [-Q0,-Q7,-Q1,-Q8,-Q2,at_E (c:=eL) a11];(repeat with_reducible refine sdQ ?_);replace h:=bind_some h;obtain ⟨v12,hv12,h⟩:=h;refine Q3 (Q5u _ _ v12 hv12) (.cons .lst (.cons .val .nil)) ?_;simp [-Q0,-Q7,-Q1,-Q8,-Q2,unk,unA,unE,unT,unC,flat,at_E (c:=eL) a11];(repeat refine sdQ ?_);refine hK _ ?_;clear hK K;refine tn ?_;refine Q9 (st':=⟨[(0,.lst true 1 (Es eL a_)),(1,iV v12),(5,iV s9.2)],[],0⟩) (wkQ8 []) ?_;refine Q5 ?_;refine runQ hN fun K hK=>?_;simp [-Q0,-Q7,-Q1,-Q8,-Q2];(repeat refine sdQ ?_);refine hK _ ?_;clear hK K;refine tn ?_;refine Q9 (st':=⟨[(0,.lst true 1 (Es eL a_)),(1,iV v12),(5,iV s9.2),(25,.val (.bool (decide (v12<0))))],[],0⟩) (wkQ8 []) ?_;refine Qc rfl (fun g=>?_) fun g=>?_
   ·have g13:v12<0:=gQ;clear g;replace h:=if_l g13 h;refine Q5 ?_;refine runQ hN fun K hK=>?_;simp [-Q0,-Q7,-Q1,-Q8,-Q2];(repeat refine sdQ ?_);refine hK _ ?_;clear hK K;refine tn ?_;refine Q9 (st':=⟨[(4,iV (-1))],[],0⟩) (wkQ8 []) ?_;refine Qh ?_;refine br ?_;refine tr ?_;refine lr ?_;refine br ?_;refine tr ?_;cases h;have q:_=e3:=hk9;have h:=h3;rw [← q] at h;clear q;(try dsimp only at h);have hr:=Option.some.inj h;rw [← hr];refine ⟨_,(.tmp .nil),?_⟩;refine ⟨(.one rfl rfl .nil),[iV (-1)],[],by simp [UA,U1,IA,I1,LA,L1,BA,B1,EA,E1,E2,eB,eI,eL],by simp,(UpL.refl _)⟩
   have g13:¬ (v12<0):=gQ;clear g;replace h:=if_r g13 h;refine Qd ?_;refine bn ?_;refine tn ?_;refine runQ hN fun K hK=>?_;replace h:=Q4 h;obtain ⟨a14,h⟩:=h;simp [-Q0,-Q7,-Q1,-Q8,-Q2,Qn a14];(repeat refine sdQ ?_);refine hK _ ?_;clear hK K;cases h;exact rn (s':=(v12,s9.2+1)) hk9 (wkQ8 [])
  have g10:¬ (s9.2<(a_.length:Int)):=gQ;clear g;replace h:=if_r g10 h;refine Ql ?_;refine tx ?_;refine lx ?_;refine bh ?_;cases h;exact jn (b:=s9.1) hk9 (wkQ8 [])
 intro b3 hb3;have h:=h3;try rw [← hb3] at h
 clear h3;try dsimp only at h
 refine Q5 ?_;refine runQ hN fun K hK=>?_;simp [-Q0,-Q7,-Q1,-Q8,-Q2];repeat refine sdQ ?_
 refine hK _ ?_;clear hK K;refine tn ?_;refine Q9 (st':=⟨[(4,iV b3)],[],0⟩) (wkQ8 []) ?_;refine Qh ?_;have hr:=Option.some.inj h;rw [← hr];refine ⟨_,(.tmp .nil),?_⟩;refine ⟨(.one rfl rfl .nil),[iV b3],[],by simp [UA,U1,IA,I1,LA,L1,BA,B1,EA,E1,E2,eB,eI,eL],by simp,(UpL.refl _)⟩
attribute [local simp] eL eI Qw
noncomputable def Q1y (a_:List (List (List Int))):Option (List (List (List Int))) :=
 ass (0≤(a_.length:Int)∧(a_.length:Int)≤1073741824) <|
 (Qu (σ:=List (List (List Int)) × Int) (ε:=List (List (List Int))) (fun s8 =>
  if s8.2<(a_.length:Int) then
   ass (0≤s8.2∧s8.2<(a_.length:Int)) <|
   (Q1M (gx a_ s8.2)).bind fun v11 =>
   ass (0≤s8.2∧s8.2<(s8.1.length:Int)) <|
   ass (B64 (s8.2+1)) <|
   some (Ctl.next (s8.1.set s8.2.toNat v11,s8.2+1))
  else
   some (Ctl.ret s8.1)) fuel (List.replicate ((a_.length:Int).toNat) ([]:List (List Int)),0)).bind fun b2 =>
 some b2
theorem Q4K (a_:List (List (List Int))) (r:List (List (List Int))) (h:Q1y a_=some r):Contract Try.prog 61 [.lst true 1 (Es eL a_)] (.lst true 1 (Es eL r)):=by
 refine Qg (rvs:=[.tmp 2]) (rs:=[.lst true 1 (Es eL r)]) Try.func61 rfl rfl rfl rfl (by simp [Try.f61]) fun F hN hP=>?_;unfold Q1y at h;refine Q5 ?_;refine runQ hN fun K hK=>?_;simp [-Q0,-Q7,-Q1,-Q8,-Q2];repeat refine sdQ ?_
 refine hK _ ?_;clear hK K;refine tn ?_;refine Q9 (st':=⟨[(0,.lst true 1 (Es eL a_))],[],0⟩) (wkQ8 []) ?_;refine Q5 ?_;refine w_runX [7] mo (by rw [hN];decide) fun K hK=>?_;replace h:=Q4 h;obtain ⟨a1,h⟩:=h;simp [-Q0,-Q7,-Q1,-Q8,-Q2];repeat refine sdQ ?_
 refine hK _ ?_;clear hK K;refine tn ?_;refine Q9 (st':=⟨[(0,.lst true 1 (Es eL a_)),(3,.own 0 0 ((List.replicate ((a_.length:Int).toNat) ([]:List (List Int))).length))],[(0,.row 1 (Es eL (List.replicate ((a_.length:Int).toNat) ([]:List (List Int)))))],1⟩) (wkQ8 [(0,0)]) ?_;refine Q5 ?_;refine Q5 ?_;refine runQ hN fun K hK=>?_;simp [-Q0,-Q7,-Q1,-Q8,-Q2];repeat refine sdQ ?_
 refine hK _ ?_;clear hK K;refine tn ?_;refine Q9 (st':=⟨[(0,.lst true 1 (Es eL a_)),(3,.own 0 0 ((List.replicate ((a_.length:Int).toNat) ([]:List (List Int))).length)),(4,iV 0)],[(0,.row 1 (Es eL (List.replicate ((a_.length:Int).toNat) ([]:List (List Int)))))],1⟩) (wkQ8 [(0,0)]) ?_;replace h:=bind_some h;obtain ⟨e2,h,h2⟩:=h;refine Qj (fun b2:List (List (List Int))=>⟨[(3,.own 0 0 b2.length)],[(0,.row 1 (Es eL b2))],1⟩) (fun b2=>b2=e2) ?_ ?_
 ·refine Qa ?_;refine Qr h (fun s8:List (List (List Int)) × Int=>⟨[(0,.lst true 1 (Es eL a_)),(3,.own 0 0 s8.1.length),(4,iV s8.2)],[(0,.row 1 (Es eL s8.1))],1⟩) (wkQ8 [(0,0)]) ?_;clear h;intro k8 s8 c8 h hk8;refine Q5 ?_;refine Q5 ?_;refine runQ hN fun K hK=>?_;simp [-Q0,-Q7,-Q1,-Q8,-Q2];repeat refine sdQ ?_
  refine hK _ ?_;clear hK K;refine tn ?_;refine Q9 (st':=⟨[(0,.lst true 1 (Es eL a_)),(3,.own 0 0 s8.1.length),(4,iV s8.2),(11,.val (.bool (decide (s8.2<(a_.length:Int)))))],[(0,.row 1 (Es eL s8.1))],1⟩) (wkQ8 [(0,0)]) ?_;refine Qc rfl (fun g=>?_) fun g=>?_
  ·have g9:s8.2<(a_.length:Int):=gQ;clear g;replace h:=if_l g9 h;refine Qd ?_;refine tn ?_;refine Q5 ?_;refine Qa ?_;refine w_runX [] mo (by rw [hN];decide) fun K hK=>?_;replace h:=Q4 h;obtain ⟨a10,h⟩:=h;simp [-Q0,-Q7,-Q1,-Q8,-Q2,at_E (c:=eL) a10];(repeat with_reducible refine sdQ ?_);replace h:=bind_some h;obtain ⟨v11,hv11,h⟩:=h;refine Q6o (fz:=[]) (Q5v _ v11 hv11) (.cons .lst .nil) ?_;replace h:=Q4 h;obtain ⟨a12,h⟩:=h;simp [-Q0,-Q7,-Q1,-Q8,-Q2,unk,unA,unE,unT,unC,flat,at_E (c:=eL) a10,at_E (c:=eL) a12];(repeat with_reducible refine sdQ ?_);refine stoX_row (fz:=[]) [] tf_23 rfl (b:=.lst true 1 (Ls v11)) (ds:=[1]) (es2:=Es eL (s8.1.set s8.2.toNat v11)) rfl (by simp) (by first|(simp;done)|(simp;omega)|omega) (by simp) (by simp) (by simp) (by simp) (Es_st (fun _=>rfl) rfl) ?_;simp [-Q0,-Q7,-Q1,-Q8,-Q2,at_E (c:=eL) a10,at_E (c:=eL) a12];(repeat refine sdQ ?_);refine hK _ ?_;clear hK K;refine bn ?_;refine tn ?_;refine Q9 (st':=⟨[(0,.lst true 1 (Es eL a_)),(3,.own 0 0 ((s8.1.set s8.2.toNat v11).length)),(4,iV s8.2)],[(0,.row 1 (Es eL (s8.1.set s8.2.toNat v11)))],1⟩) (wkQ8 [(0,0)]) ?_;refine runQ hN fun K hK=>?_;replace h:=Q4 h;obtain ⟨a13,h⟩:=h;simp [-Q0,-Q7,-Q1,-Q8,-Q2,Qn a13];(repeat refine sdQ ?_);refine hK _ ?_;clear hK K;cases h;exact rn (s':=(s8.1.set s8.2.toNat v11,s8.2+1)) hk8 (wkQ8 [(0,0)])
  have g9:¬ (s8.2<(a_.length:Int)):=gQ;clear g;replace h:=if_r g9 h;refine Ql ?_;refine tx ?_;refine lx ?_;refine bh ?_;cases h;exact jn (b:=s8.1) hk8 (wkQ8 [(0,0)])
 intro b2 hb2;have h:=h2;try rw [← hb2] at h
 clear h2;try dsimp only at h
 refine Q5 ?_;refine runQ hN fun K hK=>?_;simp [-Q0,-Q7,-Q1,-Q8,-Q2];repeat refine sdQ ?_
 refine hK _ ?_;clear hK K;refine tn ?_;refine Q9 (st':=⟨[(2,.own 0 0 b2.length)],[(0,.row 1 (Es eL b2))],1⟩) (wkQ8 [(0,0)]) ?_;refine Qh ?_;have hr:=Option.some.inj h;rw [← hr];refine ⟨_,(.tmp .nil),?_⟩;refine ⟨(.one rfl rfl .nil),[.lst true 1 (Es eL b2)],[0],by simp [UA,U1,IA,I1,LA,L1,BA,B1,EA,E1,E2,eB,eI,eL],by simp,(UpL.refl _)⟩
def sumN (x:List (List (List Int))):Nat:=(x.map sumL).sum
def runn (k:Int):List (List (List Int))→List (List (List Int))
 | []=>[]
 | a :: r=>runs k a :: runn (k+sumL a) r
def okN (x:List (List (List Int))):Prop:=∀ a∈x,a.length≤1048576∧∀ b∈a,b.length≤1048576
@[simp] theorem runn_len (x:List (List (List Int))):∀ k,(runn k x).length=x.length:=by
 induction x with
 | nil=>intro k;rfl
 | cons c r ih=>intro k;simp [runn,ih]
theorem sumN_take (x:List (List (List Int))):∀ (i:Nat) (h:i<x.length),sumN (x.take (i+1))=sumN (x.take i)+sumL x[i]:=by
 induction x with
 | nil=>intro i h;simp at h
 | cons c r ih =>
  intro i h;cases i with
  | zero=>simp [sumN]
  | succ i =>
   have:=ih i (by simpa using h);simp only [sumN,List.take_succ_cons,List.map_cons,List.sum_cons,List.getElem_cons_succ] at this ⊢;omega
theorem sumN_le (x:List (List (List Int))):∀ (i:Nat),sumN (x.take i)≤sumN x:=by
 induction x with
 | nil=>intro i;simp [sumN]
 | cons c r ih =>
  intro i;cases i with
  | zero=>simp [sumN]
  | succ i =>
   have:=ih i;simp only [sumN,List.take_succ_cons,List.map_cons,List.sum_cons] at this ⊢;omega
theorem runn_get (x:List (List (List Int))):∀ (k:Int) (i:Nat) (h:i<x.length),(runn k x)[i]'(by simpa using h)=runs (k+sumN (x.take i)) x[i]:=by
 induction x with
 | nil=>intro k i h;simp at h
 | cons c r ih =>
  intro k i h;cases i with
  | zero=>simp [runn,sumN]
  | succ i =>
   simp only [runn,List.getElem_cons_succ];rw [ih _ i (by simpa using h)];have e:k+(sumL c:Int)+(sumN (r.take i):Int)=k+(sumN ((c :: r).take (i+1)):Int):=by
    simp only [sumN,List.take_succ_cons,List.map_cons,List.sum_cons]
    push_cast
    omega
   rw [e]
theorem set_takeN {α:Type} {xs ys:List α} {i:Nat} (h1:i<xs.length) (h2:i<ys.length) (h:ys.take i=xs.take i):(ys.set i xs[i]).take (i+1)=xs.take (i+1):=by
 rw [List.take_succ_eq_append_getElem h1,List.take_succ_eq_append_getElem (by simpa using h2),List.take_set_of_le (Nat.le_refl _),h];simp
theorem Es_nget {ys:List (List (List Int))} {i:Nat} (h:i<ys.length):(Es eL ys).getD i []=[.lst true 1 (Ls ys[i])]:=by
 simp [Es,List.getD_eq_getElem?_getD,h,eL]
theorem Es_nset {ys:List (List (List Int))} {i:Nat} {a:List (List Int)}:(Es eL ys).set i [.lst true 1 (Ls a)]=Es eL (ys.set i a):=by
 simp [Es,List.map_set,eL]
def Q1B (l:Int):List (List (List Int))→Int
 | []=>l
 | a :: r=>if Q11 l a<0 then -1 else Q1B (Q11 l a) r
def Q3P (l:Int) (x:List (List (List Int))):Int:=if l - x.length<0 then -1 else Q1B (l - x.length) x
theorem lessNS_le (x:List (List (List Int))):∀ l:Int,l≤1048576→Q1B l x≤1048576:=by
 induction x with
 | nil=>intro l h;simpa [Q1B] using h
 | cons x r ih=>intro l h;simp only [Q1B];split<;>first|omega|(exact ih _ (Q2m h))
theorem Q5f {l:Int} {xs:List (List (List Int))} (h:l≤1048576):Q3P l xs≤1048576:=by
 unfold Q3P;split
 ·omega
 exact lessNS_le _ _ (by omega)
theorem Q7I {l:Int} {xs:List (List Int)} (h:0≤Q11 l xs):Q11 l xs≤l - sumL xs:=by
 unfold Q11 at h ⊢;split at h
 ·omega
 rename_i h1;rw [if_neg h1];obtain ⟨b1,b2,b3⟩:=Q7k xs _ h;omega
theorem lessNS_ok (x:List (List (List Int))):∀ l:Int,0≤Q1B l x→(sumN x:Int)≤l∧(∀ a∈x,(a.length:Int)≤l∧∀ b∈a,(b.length:Int)≤l)∧Q1B l x≤l:=by
 induction x with
 | nil=>intro l h;simp only [Q1B] at h ⊢;simp [sumN];exact h
 | cons x r ih =>
  intro l h;simp only [Q1B] at h ⊢;split at h
  ·omega
  rename_i h1;rw [if_neg h1];obtain ⟨a1,a2,a3,a4⟩:=Q4l (l:=l) (xs:=x) (by omega);have a5:=Q7I (l:=l) (xs:=x) (by omega);obtain ⟨b1,b2,b3⟩:=ih _ h;have hs:sumN (x :: r)=sumL x+sumN r:=by simp [sumN]
  refine ⟨by rw [hs];push_cast;omega,fun y hy=>?_,by omega⟩;rcases List.mem_cons.1 hy with rfl|hy
  ·exact ⟨a1,a3⟩
  have:=b2 y hy;exact ⟨by omega,fun b hb=>by have:=this.2 b hb;omega⟩
theorem Q7j {l:Int} {xs:List (List (List Int))} (h:0≤Q3P l xs):(xs.length:Int)≤l∧(sumN xs:Int)≤l∧(∀ x∈xs,(x.length:Int)≤l∧∀ b∈x,(b.length:Int)≤l)∧Q3P l xs≤l:=by
 unfold Q3P at h ⊢;split at h
 ·omega
 rename_i h1;rw [if_neg h1];obtain ⟨b1,b2,b3⟩:=lessNS_ok xs _ h;exact ⟨by omega,by omega,fun x hx=>⟨by have:=(b2 x hx).1;omega,fun y hy=>by have:=(b2 x hx).2 y hy;omega⟩,by omega⟩
theorem Q6z (l:Int) (x:List (List (List Int))) (i:Nat) (h:i<x.length):Q1B l (x.drop i)=if Q11 l x[i]<0 then -1 else Q1B (Q11 l x[i]) (x.drop (i+1)):=by
 rw [List.drop_eq_getElem_cons h];rfl
theorem Contract.good {P : Program} {f : Nat} {av : List AV} {res : AV} (k : Nat) (hk : k < av.length) (he : ∃ fn, P.funcs[f]? = some fn ∧ (fn.name == "runtime.NumGoroutine") = false ∧ fn.body.isSome = true) (h : Good (av.getD k .bot) → Contract P f av res) : Contract P f av res :=
 ⟨he,fun w R vals hR hv hx=>(h (hx k hk).good).calls w R vals hR hv hx⟩
theorem goodN {x:List (List (List Int))} (h:Good (.lst true 1 (Es eL x))):x.length≤9223372036854775807:=by
 cases h with
 | lst h1=>simp [maxLen] at h1;omega
 | other h=>exact h.elim
theorem nset_fill {α:Type} (xs:List α) (k:Nat) (v z:α) {i:Nat} (h:i=xs.length):(xs++List.replicate (k+1) z).set i v=(xs++[v])++List.replicate k z:=by
 subst h;simp [List.replicate_succ]
theorem Q60 {σ ε β:Type} {body:σ→Option (Ctl σ ε)} {K:ε→Option β} {r:Option β} {s0:σ} (n:Nat) (g:Nat→σ) {e:ε} (h0:s0=g 0) (hn:n<4611686018427387904) (h:∀ i:Nat,i<n→body (g i)=some (.next (g (i+1)))) (he:body (g n)=some (.ret e)) (hk:K e=r):(Qu body fuel s0).bind K=r:=by
 rw [Q34 g n h0 hn h he];exact hk
theorem nloop_rel {σ ε:Type} {body:σ→Option (Ctl σ ε)} {I:Nat→σ→Prop} {J:ε→Prop} {n:Nat} (hs:∀ i s,i<n→I i s→(∃ s',body s=some (.next s')∧I (i+1) s')∨∃ e,body s=some (.ret e)∧J e) (he:∀ s,I n s→∃ e,body s=some (.ret e)∧J e) :
  ∀ (r i:Nat) (s:σ) (F:Nat),i+r=n→r<F→I i s→∃ e,Qu body F s=some e∧J e:=by
 intro r
 induction r with
 | zero =>
  intro i s F hi hF hI;obtain ⟨e,h1,h2⟩:=he s (by rw [show n=i by omega];exact hI);obtain ⟨F',rfl⟩:∃ F',F=F' + 1:=⟨F - 1,by omega⟩;simp only [Qu,h1];exact ⟨e,rfl,h2⟩
 | succ r ih =>
  intro i s F hi hF hI;obtain ⟨F',rfl⟩:∃ F',F=F' + 1:=⟨F - 1,by omega⟩;rcases hs i s (by omega) hI with ⟨s',h1,h2⟩|⟨e,h1,h2⟩
  ·simp only [Qu,h1];exact ih (i+1) s' F' (by omega) (by omega) h2
  simp only [Qu,h1];exact ⟨e,rfl,h2⟩
theorem Q35 {σ ε β:Type} {body:σ→Option (Ctl σ ε)} {K:ε→Option β} {s0:σ} {Q:Option β→Prop} (n:Nat) (I:Nat→σ→Prop) (J:ε→Prop) (hn:n<4611686018427387904) (h0:I 0 s0) (hs:∀ i s,i<n→I i s→(∃ s',body s=some (.next s')∧I (i+1) s')∨∃ e,body s=some (.ret e)∧J e)
  (he:∀ s,I n s→∃ e,body s=some (.ret e)∧J e) (hk:∀ e,J e→Q (K e)):Q ((Qu body fuel s0).bind K):=by
 obtain ⟨e,h1,h2⟩:=nloop_rel hs he n 0 s0 fuel (by omega) (by unfold fuel;omega) h0;rw [h1];exact hk e h2
theorem markN (x:List (List (List Int))) (k:Int) (h1:x.length≤1048576) (h1':okN x) (h2:0≤k) (h3:k+sumN x≤1152921504606846976) :
  MContract Try.prog 70 [.own 0 0 x.length,iV k] [⟨1,Es eL x,Es eL (runn k x)⟩] (iV (k+sumN x)):=by
 refine QQ (ts:=[4]) (rv:=.int .i64 (k+sumN x)) Try.func70 rfl rfl ?_ rfl (by simp [Try.f70]) ?_ fun F hN hP=>?_
 ·have:(-9223372036854775808≤k+sumN x)∧k+sumN x≤9223372036854775807:=by omega
  simp [resV,this]
 ·intro j hj;simp at hj;subst hj;simp
 refine srQ hN fun K hK=>?_;simp;refine hK _ ?_;clear hK K;refine Q5 (w_sr mo (by rw [hN];decide) fun K hK=>?_);simp;refine hK _ (Qa ?_);clear hK K;refine QC (fun p:Nat × List (List (List Int))=>⟨[(0,.own 0 0 x.length),(1,iV (k+sumN (x.take p.1))),(5,iV p.1)],[(0,.row 1 (Es eL p.2))],1⟩) (fun p=>p.1≤x.length∧p.2.length=x.length∧p.2.take p.1=(runn k x).take p.1∧p.2.drop p.1=x.drop p.1) (fun p=>x.length - p.1) (0,x) (by simp) (Wk.cut (by simp [sumN]) (by simp [Q3C]) rfl) ?_
 rintro ⟨i,ys⟩ ⟨hi,hy,ht,hd⟩
 simp at hi hy ht hd;refine Q5 (w_sr mo (by rw [hN];decide) fun K hK=>?_);simp;refine hK _ (Qc rfl (fun h=>?_) fun h=>?_)<;>clear hK K
 ·simp at h;have hiy:i<ys.length:=by omega
  have he:ys[i]=x[i]:=by
   have h5:=congrArg (fun l=>l[0]?) hd;simpa [h,hiy] using h5
  have hm:=h1' _ (List.getElem_mem h);refine Qd ?_;simp only [Q3c];have hget:(Es eL ys).getD i []=[.lst true 1 (Ls x[i])]:=by rw [Es_nget hiy,he]
  have hlen:(Es eL ys).length=x.length:=by simp [hy]
  generalize hE:Es eL ys=E at *;have hi2:i<E.length:=by omega
  have hgi:∀ q:i<E.length,E[i]'q=[.lst true 1 (Ls x[i])]:=fun q=>by
   rw [← hget];simp [List.getD_eq_getElem?_getD,hi2]
  refine Q5 (Qa (w_runM mo (by rw [hN];decide) fun K hK=>?_));simp [h,hlen,hgi];have hs1:=sumN_take x i h;have hs2:=sumN_le x (i+1);refine Q3u (m:=[1]) (m33 x[i] (k+sumN (x.take i)) hm.1 hm.2 (by omega) (by omega)) (MCall.cell (i:=i) (r:=0) (k:=0) (szr:=1) (esr:=E) (dels:=[1]) rfl rfl hi2 (by simp) (by simp [hgi,hi2]) (by simp [hgi,hi2]) (by simp) (by simp [Q5d])) rfl ?_ ?_ ?_
  ·intro q hq
   match q,hq with
   | 0,_ =>
    show MArg [1] (.own 1 0 x[i].length) (.own 0 0 x[i].length);exact .own (j:=0) (by simp)
   | 1,_=>exact .val
  ·intro j hj;have hj0:j=0:=(by simpa using hj);subst hj0;exact ⟨0,by simp,by simp [Occ]⟩
  simp [hgi,hi2];refine hK _ ?_;clear hK K;refine runQ hN fun K hK=>?_;simp;refine hK _ ?_;clear hK K;rw [Qp (n:=x.length) (by omega) (by omega)];refine ⟨(i+1,ys.set i (runs (k+sumN (x.take i)) x[i])),⟨by dsimp only;omega,by simp [hy],?_,?_⟩,by dsimp only;omega,Wk.relabel [(0,0)] (by simp) (by simp) (by rw [hP];simp) (by simp) (by simp) ?_ ?_⟩
  ·have:=set_takeN (xs:=runn k x) (ys:=ys) (i:=i) (by simpa using h) hiy ht;rw [runn_get x k i h] at this;exact this
  ·dsimp only;rw [List.drop_set_of_lt (by omega)];have:=congrArg (List.drop 1) hd;simpa [List.drop_drop,Nat.add_comm] using this
  ·simp [hs1,rl,Int.add_assoc]
  have hfin:E.set i [.lst true 1 (Ls (runs (k+sumN (x.take i)) x[i]))]=Es eL (ys.set i (runs (k+sumN (x.take i)) x[i])):=by
   rw [← hE,Es_nset]
  simp [rlE,hgi,hi2,hfin]
 simp at h;refine Ql ?_;simp;refine srQ hN fun K hK=>?_;simp;refine hK _ (Qh ?_);clear hK K;have hi':i=x.length:=by omega
 subst hi';rw [List.take_of_length_le (by omega),List.take_of_length_le (by simp)] at ht;subst ht;refine ⟨?_,?_⟩
 ·simp [Q6K]
 intro j hj;simp at hj;subst hj;simp
theorem e_szN (x:List (List (List Int))) (l:Int) (h0:0≤l) (hl:l≤1048576) (hx:x.length≤9223372036854775807):Q1x x l=some (Q3P l x):=by
 unfold Q1x;rw [Q6 (by unfold B64;omega)]
 by_cases h:l - x.length<0
 ·rw [if_pos h];unfold Q3P;rw [if_pos h]
 rw [if_neg h];have e1:Q3P l x=Q1B (l - x.length) x:=by unfold Q3P;rw [if_neg h]
 rw [e1];refine Q35 (σ:=Int × Int) (Q:=fun z=>z=some (Q1B (l - x.length) x)) x.length (fun i s=>s.2=(i:Int)∧0≤s.1∧s.1≤1048576∧Q1B (l - x.length) x=Q1B s.1 (x.drop i))
  (fun e=>match e with|.inl b=>Q1B (l - x.length) x=b|.inr b=>Q1B (l - x.length) x=b) (by omega) ⟨rfl,by simp;omega,by simp;omega,by simp⟩ ?_ ?_ ?_
 ·rintro i ⟨v,j⟩ hi ⟨rfl,a1,a2,a3⟩
  simp only at a1 a2 a3 ⊢;have hg:gx x i=x[i]:=by simp [gx,List.getD_eq_getElem?_getD,hi]
  rw [if_pos (by omega),Q6 (by omega),hg];unfold Q1L;rw [Q6 a1,Q6 a2];simp only [Option.bind_some];rw [Q6z _ _ i hi] at a3
  by_cases q:Q11 v x[i]<0
  ·rw [if_pos q] at a3;rw [if_pos q];exact .inr ⟨_,rfl,a3⟩
  rw [if_neg q] at a3;rw [if_neg q,Q6 (by unfold B64;omega)];exact .inl ⟨_,rfl,by push_cast;rfl,by omega,Q2m a2,a3⟩
 ·rintro ⟨v,j⟩ ⟨rfl,a1,a2,a3⟩
  simp only at a1 a2 a3 ⊢;rw [if_neg (by omega)];refine ⟨_,rfl,?_⟩;rw [a3,List.drop_of_length_le (Nat.le_refl _)];rfl
 rintro (b|b) hb<;>simp only at hb ⊢<;>rw [hb]
theorem cszN (u:Bool) (x:List (List (List Int))) (l:Int) (h1:0≤l) (h2:l≤1048576):Contract Try.prog 57 [.lst true 1 (Es eL x),iV l] (iV (Q3P l x)) :=
 Contract.good 0 (by simp) ⟨_,Try.func57,rfl,rfl⟩ fun g=>Q4J x l _ (e_szN x l h1 h2 (goodN (by simpa using g)))
theorem e_toN (x:List (List (List Int))) (h1:x.length≤1048576) (h2:okN x):Q1y x=some x:=by
 unfold Q1y;rw [Q6 (by omega)];refine Q35 (σ:=List (List (List Int)) × Int) (Q:=fun z=>z=some x) x.length (fun i s=>s=(x.take i++List.replicate (x.length - i) [],(i:Int))) (fun e=>e=x) (by omega) (by simp) ?_ ?_ (fun e he=>by rw [he])
 ·rintro i s hi rfl
  have hg:gx x i=x[i]:=by simp [gx,List.getD_eq_getElem?_getD,hi]
  have hm:=h2 _ (List.getElem_mem hi);simp only;rw [if_pos (by omega),Q6 (by omega),hg];unfold Q1M;rw [Q6 hm.1,Q6 hm.2];simp only [Option.bind_some];rw [Q6 (by simp;omega),Q6 (by unfold B64;omega)];refine .inl ⟨_,rfl,?_⟩;have e1:x.length - i=(x.length - (i+1))+1:=by omega
  refine Prod.ext ?_ (by push_cast;rfl);simp only [Int.toNat_natCast];rw [e1,nset_fill _ _ _ _ (by rw [List.length_take];omega),List.take_succ_eq_append_getElem hi]
 rintro s rfl
 simp only;rw [if_neg (by omega)];exact ⟨_,rfl,by simp⟩
theorem toN (u:Bool) (x:List (List (List Int))) (h1:x.length≤1048576) (h2:okN x):Contract Try.prog 61 [.lst true 1 (Es eL x)] (.lst true 1 (Es eL x)):=Q4K x _ (e_toN x h1 h2)
theorem e_eqSS (x:List (List Int)) (h:x.length≤1048576):Q1l x x=some true:=by
 unfold Q1l Q28;rw [if_neg (by simp)];refine Q56 x.length (fun _=>True) (eb:=Sum.inr false) (eg:=Sum.inl ()) (by omega) (fun i hi _=>?_) (fun i hi q=>absurd trivial q) (by rw [if_neg (by omega)]) (fun q=>absurd (fun _ _=>trivial) q) fun _=>rfl;rw [if_pos (by omega),Q6 (by omega),Q6 (by omega)];simp only [not_true_eq_false,if_false,Option.bind_some,decide_true];rw [Q6 (by unfold B64;omega)]
theorem e_eqN (x:List (List (List Int))) (h:x.length≤1048576) (h2:okN x):Q1w x x=some true:=by
 unfold Q1w;rw [if_neg (by simp)];refine Q56 x.length (fun _=>True) (eb:=Sum.inr false) (eg:=Sum.inl ()) (by omega) (fun i hi _=>?_) (fun i hi q=>absurd trivial q) (by rw [if_neg (by omega)]) (fun q=>absurd (fun _ _=>trivial) q) fun _=>rfl;have hg:gx x i=x[i]:=by simp [gx,List.getD_eq_getElem?_getD,hi]
 have hm:=h2 _ (List.getElem_mem hi);rw [if_pos (by omega),Q6 (by omega),Q6 (by omega),hg,e_eqSS _ hm.1];simp only [not_true_eq_false,if_false,Option.bind_some];rw [Q6 (by unfold B64;omega)]
theorem eqN (u v:Bool) (x:List (List (List Int))) (h:x.length≤1048576) (h2:okN x):Contract Try.prog 69 [.lst true 1 (Es eL x),.lst true 1 (Es eL x)] (.val (.bool true)):=Q4I x x true (e_eqN x h h2)
theorem toCat (u:Bool) (c:Cat) (hc:c.ok):Contract Try.prog 45 [.agg (c.cells u)] (.agg (c.cells true)):=c18 c u hc
theorem cszCat (u:Bool) (c:Cat) (l:Int) (h1:0≤l) (h2:l≤1048576):Contract Try.prog 42 [.agg (c.cells u),iV l] (iV (Q2g l c)):=c13 u c l h1 h2
theorem Q1o {l:Int} {f:Cat} (h:l≤1048576):Q2g l f≤1048576:=szCat_le h
theorem mu_len {ms:List Mu} (h:∀ u∈ms,u.fs.length=u.es.length):∀ j,j<ms.length→(ms.getD j .none).fs.length=(ms.getD j .none).es.length:=fun j hj=>by rw [List.getD_eq_getElem?_getD,List.getElem?_eq_getElem hj];exact h _ (List.getElem_mem hj)
theorem Q5i (f:Cat) (k:Int) (hf:f.ok) (h2:0≤k) (h3:k+f.size≤576460752303423488):MContract Try.prog 34 [.agg [iV f.n,.own 0 0 f.fr.length,.own 1 0 f.to.length,.own 2 0 f.id.length,.own 3 0 f.cs.length],iV k] (f.mu k) (iV (k+f.size)):=by
 have q:=m31 f k hf h2 (by omega)
 rwa [show k+f.fr.length+f.to.length+f.id.length+sumL f.cs=k+f.size by simp [Cat.size,Int.add_assoc]] at q
def Fn.mu (f:Fn) (k:Int):List Mu:=[⟨1,Is f.s.fr,Is (f.mark k).s.fr⟩,⟨1,Is f.s.to,Is (f.mark k).s.to⟩,⟨1,Is f.s.id,Is (f.mark k).s.id⟩,⟨1,Ls f.s.cs,Ls (f.mark k).s.cs⟩,⟨1,Is f.t.fr,Is (f.mark k).t.fr⟩,⟨1,Is f.t.to,Is (f.mark k).t.to⟩,⟨1,Is f.t.id,Is (f.mark k).t.id⟩,⟨1,Ls f.t.cs,Ls (f.mark k).t.cs⟩,⟨1,Is f.ob,Is (f.mark k).ob⟩,⟨1,Is f.ar,Is (f.mark k).ar⟩]
theorem eqFn (u v:Bool) (f:Fn):Contract Try.prog 21 [.agg (f.cells u),.agg (f.cells v)] (.val (.bool true)):=by
 refine Qe (rs:=[.val (.bool true)]) Try.func21 rfl rfl rfl rfl (by simp [Try.f21]) fun F hN hP=>?_;refine srQ hN fun K hK=>?_;simp [Fn.cells];refine hK _ ?_;clear hK K;refine Q5 ?_;refine srQ hN fun K hK=>?_;simp;refine Q3 (c26 u v f.s) (.cons (.aggL Cat.pur) (.cons (.aggL Cat.pur) .nil)) ?_;simp [unk,unA,unE,flat];refine hK _ ?_;clear hK K;refine Qc rfl (fun h=>by simp at h) fun _=>?_;refine Qd ?_;refine Q5 ?_;refine srQ hN fun K hK=>?_;simp;refine Q3 (c26 u v f.t) (.cons (.aggL Cat.pur) (.cons (.aggL Cat.pur) .nil)) ?_;simp [unk,unA,unE,flat];refine hK _ ?_;clear hK K;refine Qc rfl (fun h=>by simp at h) fun _=>?_;refine Qd ?_;refine Q5 ?_;refine srQ hN fun K hK=>?_;simp;refine Q3 (c29 u v f.ob f.ob) (.cons .lst (.cons .lst .nil)) ?_;simp [unk,unA,unE,flat];refine hK _ ?_;clear hK K;refine Qc rfl (fun h=>by simp at h) fun _=>?_;refine Qd ?_;refine Q5 ?_;refine srQ hN fun K hK=>?_;simp;refine Q3 (c29 u v f.ar f.ar) (.cons .lst (.cons .lst .nil)) ?_;simp [unk,unA,unE,flat];refine hK _ ?_;clear hK K;refine Qc rfl (fun h=>by simp at h) fun _=>?_;refine Qd ?_;refine srQ hN fun K hK=>?_;simp;refine hK _ ?_;clear hK K;refine Qh (Qk rfl rfl)
theorem heldFn (u:Bool) (f:Fn) (k:Int) (hf:f.ok) (h2:0≤k) (h3:k+f.size≤1152921504606846976):Contract Try.prog 25 [.agg ((f.mark k).cells u),iV k] (iV (k+f.size)):=by
 obtain ⟨hs,ht,hob,har⟩:=hf;have hz:f.size=f.s.size+f.t.size+f.ob.length+f.ar.length:=rfl;refine Qe (rs:=[iV (k+f.size)]) Try.func25 rfl rfl rfl rfl (by simp [Try.f25]) fun F hN hP=>?_;refine srQ hN fun K hK=>?_;simp [Fn.cells,Cat.mark,Fn.mark];refine hK _ ?_;clear hK K;refine srQ hN fun K hK=>?_;simp;refine Q3 (c36 u f.s (k) hs (by omega) (by omega)) (.cons (.aggL (.cons .val (.cons .lst (.cons .lst (.cons .lst (.cons .lst .nil)))))) (.cons .val .nil)) ?_;simp [unk,unA,unE,flat];refine hK _ ?_;clear hK K;refine Q5 ?_;refine srQ hN fun K hK=>?_;simp;refine hK _ ?_;clear hK K;refine Qc rfl (fun g=>?_) fun g=>?_
 ·simp at g;omega
 refine Qd ?_;refine srQ hN fun K hK=>?_;simp;refine Q3 (c36 u f.t (k+f.s.size) ht (by omega) (by omega)) (.cons (.aggL (.cons .val (.cons .lst (.cons .lst (.cons .lst (.cons .lst .nil)))))) (.cons .val .nil)) ?_;simp [unk,unA,unE,flat];refine hK _ ?_;clear hK K;refine Q5 ?_;refine srQ hN fun K hK=>?_;simp;refine hK _ ?_;clear hK K;refine Qc rfl (fun g=>?_) fun g=>?_
 ·simp at g;omega
 refine Qd ?_;refine srQ hN fun K hK=>?_;simp;refine Q3 (c53 u (run (k+f.s.size+f.t.size) f.ob.length) (k+f.s.size+f.t.size) (by simpa using hob) (by omega) (by omega)) (.cons .lst (.cons .val .nil)) ?_;simp [unk,unA,unE,flat];refine hK _ ?_;clear hK K;refine Q5 ?_;refine srQ hN fun K hK=>?_;simp;refine hK _ ?_;clear hK K;refine Qc rfl (fun g=>?_) fun g=>?_
 ·simp at g;omega
 refine Qd ?_;refine srQ hN fun K hK=>?_;simp;refine Q3 (c53 u (run (k+f.s.size+f.t.size+f.ob.length) f.ar.length) (k+f.s.size+f.t.size+f.ob.length) (by simpa using har) (by omega) (by omega)) (.cons .lst (.cons .val .nil)) ?_;simp [unk,unA,unE,flat];refine hK _ ?_;clear hK K;refine Q5 ?_;refine srQ hN fun K hK=>?_;simp;refine hK _ ?_;clear hK K;refine Qc rfl (fun g=>?_) fun g=>?_
 ·simp at g;omega
 refine Qd ?_;refine srQ hN fun K hK=>?_;simp;refine hK _ ?_;clear hK K;refine Qh (Qk rfl ?_);simp [hz,Int.add_assoc]
theorem markFn (f:Fn) (k:Int) (hf:f.ok) (h2:0≤k) (h3:k+f.size≤576460752303423488) :
  MContract Try.prog 22 [.agg [iV f.s.n,.own 0 0 f.s.fr.length,.own 1 0 f.s.to.length,.own 2 0 f.s.id.length,.own 3 0 f.s.cs.length,iV f.t.n,.own 4 0 f.t.fr.length,.own 5 0 f.t.to.length,.own 6 0 f.t.id.length,.own 7 0 f.t.cs.length,.own 8 0 f.ob.length,.own 9 0 f.ar.length],iV k] (f.mu k) (iV (k+f.size)):=by
 obtain ⟨hs,ht,hob,har⟩:=hf;have hz:f.size=f.s.size+f.t.size+f.ob.length+f.ar.length:=rfl;refine QQ (ts:=[4]) (rv:=.int .i64 (k+f.size)) Try.func22 rfl rfl ?_ rfl (by simp [Try.f22]) ?_ fun F hN hP=>?_
 ·have:(-9223372036854775808≤k+f.size)∧k+f.size≤9223372036854775807:=by omega
  simp [resV,this]
 ·exact mu_len (by simp [Fn.mu,Fn.mark,Cat.mark])
 refine srQ hN fun K hK=>?_;simp [Q3C,Fn.mu];refine hK _ ?_;clear hK K;refine Q3s mo (by rw [hN];decide) fun K hK=>?_;simp;refine Q1p (m:=[0,1,2,3]) (Q5i f.s (k) hs (by omega) (by omega)) (by decide) (.cons rfl (.cons rfl (.cons rfl (.cons rfl .nil)))) (.cons (.aggL (.cons .val (.cons (.own (j:=0) (by decide)) (.cons (.own (j:=1) (by decide)) (.cons (.own (j:=2) (by decide)) (.cons (.own (j:=3) (by decide)) .nil)))))) (.cons .val .nil)) rfl (by simp) ?_;simp [Q3m,Cat.mu];refine hK _ ?_;clear hK K;refine Q3s mo (by rw [hN];decide) fun K hK=>?_;simp;refine Q1p (m:=[4,5,6,7]) (Q5i f.t (k+f.s.size) ht (by omega) (by omega)) (by decide) (.cons rfl (.cons rfl (.cons rfl (.cons rfl .nil)))) (.cons (.aggL (.cons .val (.cons (.own (j:=0) (by decide)) (.cons (.own (j:=1) (by decide)) (.cons (.own (j:=2) (by decide)) (.cons (.own (j:=3) (by decide)) .nil)))))) (.cons .val .nil)) rfl (by simp) ?_;simp [Q3m,Cat.mu];refine hK _ ?_;clear hK K;refine Q3s mo (by rw [hN];decide) fun K hK=>?_;simp;refine Q15 (m32 f.ob (k+f.s.size+f.t.size) hob (by omega) (by omega)) rfl (by simp) ?_;simp;refine hK _ ?_;clear hK K;refine Q3s mo (by rw [hN];decide) fun K hK=>?_;simp;refine Q15 (m32 f.ar (k+f.s.size+f.t.size+f.ob.length) har (by omega) (by omega)) rfl (by simp) ?_;simp;refine hK _ ?_;clear hK K;refine srQ hN fun K hK=>?_;simp;refine hK _ ?_;clear hK K;refine Qh (mret ?_ ?_)
 ·simp [hz,Int.add_assoc]
 exact (.cons rfl (.cons rfl (.cons rfl (.cons rfl (.cons rfl (.cons rfl (.cons rfl (.cons rfl (.cons rfl (.cons rfl .nil))))))))))
theorem Prf.pur {h:HP} {u v:Bool} {c:Prf}:PurL h (c.cells u) (c.cells v):=.cons .val (.cons .lst (.cons .lst (.cons .lst (.cons .lst (.cons .val (.cons .lst (.cons .lst (.cons .lst (.cons .lst (.cons .lst (.cons .lst (.cons .lst .nil))))))))))))
def Prf.mark (k:Int) (f:Prf):Prf:=⟨f.s.mark (k),f.t.mark (k+f.s.size),runs (k+f.s.size+f.t.size) f.sz,runn (k+f.s.size+f.t.size+sumL f.sz) f.bf,runn (k+f.s.size+f.t.size+sumL f.sz+sumN f.bf) f.bh⟩
def Prf.size (f:Prf):Nat:=f.s.size+f.t.size+sumL f.sz+sumN f.bf+sumN f.bh
def Prf.ok (f:Prf):Prop:=f.s.ok∧f.t.ok∧f.sz.length≤1048576∧(∀ xs∈f.sz,xs.length≤1048576)∧sumL f.sz≤1099511627776∧f.bf.length≤1048576∧okN f.bf∧sumN f.bf≤1099511627776∧f.bh.length≤1048576∧okN f.bh∧sumN f.bh≤1099511627776
def Prf.mu (f:Prf) (k:Int):List Mu:=[⟨1,Is f.s.fr,Is (f.mark k).s.fr⟩,⟨1,Is f.s.to,Is (f.mark k).s.to⟩,⟨1,Is f.s.id,Is (f.mark k).s.id⟩,⟨1,Ls f.s.cs,Ls (f.mark k).s.cs⟩,⟨1,Is f.t.fr,Is (f.mark k).t.fr⟩,⟨1,Is f.t.to,Is (f.mark k).t.to⟩,⟨1,Is f.t.id,Is (f.mark k).t.id⟩,⟨1,Ls f.t.cs,Ls (f.mark k).t.cs⟩,⟨1,Ls f.sz,Ls (f.mark k).sz⟩,⟨1,Es eL f.bf,Es eL (f.mark k).bf⟩,⟨1,Es eL f.bh,Es eL (f.mark k).bh⟩]
theorem Prf.ok_size {f:Prf} (h:f.ok):f.size≤5497564430336:=by
 obtain ⟨hs,ht,hsz1,hsz2,hsz3,hbf1,hbf2,hbf3,hbh1,hbh2,hbh3⟩:=h;have s_s:=Cat.ok_size hs;have s_t:=Cat.ok_size ht;simp only [Prf.size];omega
theorem eqPrf (u v:Bool) (f:Prf) (hf:f.ok):Contract Try.prog 14 [.agg (f.cells u),.agg (f.cells v)] (.val (.bool true)):=by
 obtain ⟨hs,ht,hsz1,hsz2,hsz3,hbf1,hbf2,hbf3,hbh1,hbh2,hbh3⟩:=hf;refine Qe (rs:=[.val (.bool true)]) Try.func14 rfl rfl rfl rfl (by simp [Try.f14]) fun F hN hP=>?_;refine srQ hN fun K hK=>?_;simp [Prf.cells];refine hK _ ?_;clear hK K;refine Q5 ?_;refine srQ hN fun K hK=>?_;simp;refine Q3 (c26 u v f.s) (.cons (.aggL Cat.pur) (.cons (.aggL Cat.pur) .nil)) ?_;simp [unk,unA,unE,flat];refine hK _ ?_;clear hK K;refine Qc rfl (fun h=>by simp at h) fun _=>?_;refine Qd ?_;refine Q5 ?_;refine srQ hN fun K hK=>?_;simp;refine Q3 (c26 u v f.t) (.cons (.aggL Cat.pur) (.cons (.aggL Cat.pur) .nil)) ?_;simp [unk,unA,unE,flat];refine hK _ ?_;clear hK K;refine Qc rfl (fun h=>by simp at h) fun _=>?_;refine Qd ?_;refine Q5 ?_;refine srQ hN fun K hK=>?_;simp;refine Q3 (c30 u v f.sz) (.cons .lst (.cons .lst .nil)) ?_;simp [unk,unA,unE,flat];refine hK _ ?_;clear hK K;refine Qc rfl (fun h=>by simp at h) fun _=>?_;refine Qd ?_;refine Q5 ?_;refine srQ hN fun K hK=>?_;simp;refine Q3 (eqN u v f.bf hbf1 hbf2) (.cons .lst (.cons .lst .nil)) ?_;simp [unk,unA,unE,flat];refine hK _ ?_;clear hK K;refine Qc rfl (fun h=>by simp at h) fun _=>?_;refine Qd ?_;refine Q5 ?_;refine srQ hN fun K hK=>?_;simp;refine Q3 (eqN u v f.bh hbh1 hbh2) (.cons .lst (.cons .lst .nil)) ?_;simp [unk,unA,unE,flat];refine hK _ ?_;clear hK K;refine Qc rfl (fun h=>by simp at h) fun _=>?_;refine Qd ?_;refine srQ hN fun K hK=>?_;simp;refine hK _ ?_;clear hK K;refine Qh (Qk rfl rfl)
theorem toPrf (u:Bool) (f:Prf) (hf:f.ok):Contract Try.prog 12 [.agg (f.cells u)] (.agg (f.cells true)):=by
 obtain ⟨hs,ht,hsz1,hsz2,hsz3,hbf1,hbf2,hbf3,hbh1,hbh2,hbh3⟩:=hf;refine Q12 Try.func12 rfl rfl tf_32 rfl rfl (by simp [Try.f12]) fun F hN hP=>?_;refine srQ hN fun K hK=>?_;simp [Prf.cells];refine hK _ ?_;clear hK K;refine srQ hN fun K hK=>?_;simp;refine hK _ ?_;clear hK K;refine srQ hN fun K hK=>?_;simp;refine Q3 (toCat u f.s hs) (.cons (.aggL Cat.pur) .nil) ?_;simp [unk,unA,unE,flat,unC,Cat.cells];refine hK _ ?_;clear hK K;refine srQ hN fun K hK=>?_;simp;refine Q3 (toCat u f.t ht) (.cons (.aggL Cat.pur) .nil) ?_;simp [unk,unA,unE,flat,unC,Cat.cells];refine hK _ ?_;clear hK K;refine srQ hN fun K hK=>?_;simp;refine Q3 (c20 u f.sz hsz1 hsz2) (.cons .lst .nil) ?_;simp [unk,unA,unE,flat];refine hK _ ?_;clear hK K;refine srQ hN fun K hK=>?_;simp;refine Q3 (toN u f.bf hbf1 hbf2) (.cons .lst .nil) ?_;simp [unk,unA,unE,flat];refine hK _ ?_;clear hK K;refine srQ hN fun K hK=>?_;simp;refine Q3 (toN u f.bh hbh1 hbh2) (.cons .lst .nil) ?_;simp [unk,unA,unE,flat];refine hK _ ?_;clear hK K;refine srQ hN fun K hK=>?_;simp;refine hK _ ?_;clear hK K;refine Qh ⟨_,_,_,_,_,rfl,rfl,by simp,by simp,?_⟩;exact ⟨.agg rfl .nil,[iV f.s.n,lI f.s.fr,lI f.s.to,lI f.s.id,.lst true 1 (Ls f.s.cs),iV f.t.n,lI f.t.fr,lI f.t.to,lI f.t.id,.lst true 1 (Ls f.t.cs),.lst true 1 (Ls f.sz),.lst true 1 (Es eL f.bf),.lst true 1 (Es eL f.bh)],[4,5,6,7,9,10,11,12,13,14,15],by simp,by simp,UpL.refl _⟩
def Q4x (l:Int) (f:Prf):Int:=nn (Q2g l f.s) fun a0=>nn (Q2g a0 f.t) fun a1=>nn (Q11 a1 f.sz) fun a2=>nn (Q3P a2 f.bf) fun a3=>nn (Q3P a3 f.bh) fun a4=>a4
theorem szPrf_ok {l:Int} {f:Prf} (hl:l≤1048576) (h:0≤Q4x l f):f.ok:=by
 unfold Q4x at h;obtain ⟨p0,q0,_⟩:=Q5m h;have b0:=Q1o (f:=f.s) hl;obtain ⟨p1,q1,_⟩:=Q5m q0;have b1:=Q1o (f:=f.t) b0;obtain ⟨p2,q2,_⟩:=Q5m q1;obtain ⟨e2,e2a,e2b,_⟩:=Q4l p2;have b2:=Q2m (xs:=f.sz) b1;obtain ⟨p3,q3,_⟩:=Q5m q2;obtain ⟨e3,e3a,e3b,_⟩:=Q7j p3;have b3:=Q5f (xs:=f.bf) b2;obtain ⟨p4,q4,_⟩:=Q5m q3;obtain ⟨e4,e4a,e4b,_⟩:=Q7j p4;have b4:=Q5f (xs:=f.bh) b3;exact ⟨Q7A hl p0,Q7A b0 p1,by omega,fun x hx=>by have:=e2b x hx;omega,by omega,by omega,fun x hx=>⟨by have:=(e3b x hx).1;omega,fun y hy=>by have:=(e3b x hx).2 y hy;omega⟩,by omega,by omega,fun x hx=>⟨by have:=(e4b x hx).1;omega,fun y hy=>by have:=(e4b x hx).2 y hy;omega⟩,by omega⟩
theorem cszPrf (u:Bool) (f:Prf) (l:Int) (h1:0≤l) (h2:l≤1048576):Contract Try.prog 10 [.agg (f.cells u),iV l] (iV (Q4x l f)):=by
 refine Qe (rs:=[iV (Q4x l f)]) Try.func10 rfl rfl rfl rfl (by simp [Try.f10]) fun F hN hP=>?_;refine srQ hN fun K hK=>?_;simp [Prf.cells];refine hK _ ?_;clear hK K;refine srQ hN fun K hK=>?_;simp;refine Q3 (cszCat u f.s (l) h1 (h2)) (.cons (.aggL Cat.pur) (.cons .val .nil)) ?_;simp [unk,unA,unE,flat];refine hK _ ?_;clear hK K;refine Q5 ?_;refine srQ hN fun K hK=>?_;simp;refine hK _ ?_;clear hK K;refine Qc rfl (fun g1=>?_) fun g1=>?_
 ·simp at g1;refine srQ hN fun K hK=>?_;simp;refine hK _ ?_;clear hK K;refine Qh (Qk rfl ?_);simp only [Q4x,nn];rw [if_pos g1]
 simp at g1;refine Qd ?_;refine srQ hN fun K hK=>?_;simp;refine Q3 (cszCat u f.t (Q2g (l) f.s) g1 (Q1o (h2))) (.cons (.aggL Cat.pur) (.cons .val .nil)) ?_;simp [unk,unA,unE,flat];refine hK _ ?_;clear hK K;refine Q5 ?_;refine srQ hN fun K hK=>?_;simp;refine hK _ ?_;clear hK K;refine Qc rfl (fun g2=>?_) fun g2=>?_
 ·simp at g2;refine srQ hN fun K hK=>?_;simp;refine hK _ ?_;clear hK K;refine Qh (Qk rfl ?_);simp only [Q4x,nn];rw [if_neg (Int.not_lt.2 g1),if_pos g2]
 simp at g2;refine Qd ?_;refine srQ hN fun K hK=>?_;simp;refine Q3 (c15 u f.sz (Q2g (Q2g (l) f.s) f.t) g2 (Q1o (Q1o (h2)))) (.cons .lst (.cons .val .nil)) ?_;simp [unk,unA,unE,flat];refine hK _ ?_;clear hK K;refine Q5 ?_;refine srQ hN fun K hK=>?_;simp;refine hK _ ?_;clear hK K;refine Qc rfl (fun g3=>?_) fun g3=>?_
 ·simp at g3;refine srQ hN fun K hK=>?_;simp;refine hK _ ?_;clear hK K;refine Qh (Qk rfl ?_);simp only [Q4x,nn];rw [if_neg (Int.not_lt.2 g1),if_neg (Int.not_lt.2 g2),if_pos g3]
 simp at g3;refine Qd ?_;refine srQ hN fun K hK=>?_;simp;refine Q3 (cszN u f.bf (Q11 (Q2g (Q2g (l) f.s) f.t) f.sz) g3 (Q2m (Q1o (Q1o (h2))))) (.cons .lst (.cons .val .nil)) ?_;simp [unk,unA,unE,flat];refine hK _ ?_;clear hK K;refine Q5 ?_;refine srQ hN fun K hK=>?_;simp;refine hK _ ?_;clear hK K;refine Qc rfl (fun g4=>?_) fun g4=>?_
 ·simp at g4;refine srQ hN fun K hK=>?_;simp;refine hK _ ?_;clear hK K;refine Qh (Qk rfl ?_);simp only [Q4x,nn];rw [if_neg (Int.not_lt.2 g1),if_neg (Int.not_lt.2 g2),if_neg (Int.not_lt.2 g3),if_pos g4]
 simp at g4;refine Qd ?_;refine srQ hN fun K hK=>?_;simp;refine Q3 (cszN u f.bh (Q3P (Q11 (Q2g (Q2g (l) f.s) f.t) f.sz) f.bf) g4 (Q5f (Q2m (Q1o (Q1o (h2)))))) (.cons .lst (.cons .val .nil)) ?_;simp [unk,unA,unE,flat];refine hK _ ?_;clear hK K;refine Q5 ?_;refine srQ hN fun K hK=>?_;simp;refine hK _ ?_;clear hK K;refine Qc rfl (fun g5=>?_) fun g5=>?_
 ·simp at g5;refine srQ hN fun K hK=>?_;simp;refine hK _ ?_;clear hK K;refine Qh (Qk rfl ?_);simp only [Q4x,nn];rw [if_neg (Int.not_lt.2 g1),if_neg (Int.not_lt.2 g2),if_neg (Int.not_lt.2 g3),if_neg (Int.not_lt.2 g4),if_pos g5]
 simp at g5;refine Qd ?_;refine srQ hN fun K hK=>?_;simp;refine hK _ ?_;clear hK K;refine Qh (Qk rfl ?_);simp only [Q4x,nn];rw [if_neg (Int.not_lt.2 g1),if_neg (Int.not_lt.2 g2),if_neg (Int.not_lt.2 g3),if_neg (Int.not_lt.2 g4),if_neg (Int.not_lt.2 g5)]
theorem markPrf (f:Prf) (k:Int) (hf:f.ok) (h2:0≤k) (h3:k+f.size≤576460752303423488) :
  MContract Try.prog 15 [.agg [iV f.s.n,.own 0 0 f.s.fr.length,.own 1 0 f.s.to.length,.own 2 0 f.s.id.length,.own 3 0 f.s.cs.length,iV f.t.n,.own 4 0 f.t.fr.length,.own 5 0 f.t.to.length,.own 6 0 f.t.id.length,.own 7 0 f.t.cs.length,.own 8 0 f.sz.length,.own 9 0 f.bf.length,.own 10 0 f.bh.length],iV k] (f.mu k) (iV (k+f.size)):=by
 obtain ⟨hs,ht,hsz1,hsz2,hsz3,hbf1,hbf2,hbf3,hbh1,hbh2,hbh3⟩:=hf;have hz:f.size=f.s.size+f.t.size+sumL f.sz+sumN f.bf+sumN f.bh:=rfl;refine QQ (ts:=[4]) (rv:=.int .i64 (k+f.size)) Try.func15 rfl rfl ?_ rfl (by simp [Try.f15]) ?_ fun F hN hP=>?_
 ·have:(-9223372036854775808≤k+f.size)∧k+f.size≤9223372036854775807:=by omega
  simp [resV,this]
 ·exact mu_len (by simp [Prf.mu,Prf.mark,Cat.mark])
 refine srQ hN fun K hK=>?_;simp [Q3C,Prf.mu];refine hK _ ?_;clear hK K;refine Q3s mo (by rw [hN];decide) fun K hK=>?_;simp;refine Q1p (m:=[0,1,2,3]) (Q5i f.s (k) hs (by omega) (by omega)) (by decide) (.cons rfl (.cons rfl (.cons rfl (.cons rfl .nil)))) (.cons (.aggL (.cons .val (.cons (.own (j:=0) (by decide)) (.cons (.own (j:=1) (by decide)) (.cons (.own (j:=2) (by decide)) (.cons (.own (j:=3) (by decide)) .nil)))))) (.cons .val .nil)) rfl (by simp) ?_;simp [Q3m,Cat.mu];refine hK _ ?_;clear hK K;refine Q3s mo (by rw [hN];decide) fun K hK=>?_;simp;refine Q1p (m:=[4,5,6,7]) (Q5i f.t (k+f.s.size) ht (by omega) (by omega)) (by decide) (.cons rfl (.cons rfl (.cons rfl (.cons rfl .nil)))) (.cons (.aggL (.cons .val (.cons (.own (j:=0) (by decide)) (.cons (.own (j:=1) (by decide)) (.cons (.own (j:=2) (by decide)) (.cons (.own (j:=3) (by decide)) .nil)))))) (.cons .val .nil)) rfl (by simp) ?_;simp [Q3m,Cat.mu];refine hK _ ?_;clear hK K;refine Q3s mo (by rw [hN];decide) fun K hK=>?_;simp;refine Q15 (m33 f.sz (k+f.s.size+f.t.size) hsz1 hsz2 (by omega) (by omega)) rfl (by simp) ?_;simp;refine hK _ ?_;clear hK K;refine Q3s mo (by rw [hN];decide) fun K hK=>?_;simp;refine Q15 (markN f.bf (k+f.s.size+f.t.size+sumL f.sz) hbf1 hbf2 (by omega) (by omega)) rfl (by simp) ?_;simp;refine hK _ ?_;clear hK K;refine Q3s mo (by rw [hN];decide) fun K hK=>?_;simp;refine Q15 (markN f.bh (k+f.s.size+f.t.size+sumL f.sz+sumN f.bf) hbh1 hbh2 (by omega) (by omega)) rfl (by simp) ?_;simp;refine hK _ ?_;clear hK K;refine srQ hN fun K hK=>?_;simp;refine hK _ ?_;clear hK K;refine Qh (mret ?_ ?_)
 ·simp [hz,Int.add_assoc]
 exact (.cons rfl (.cons rfl (.cons rfl (.cons rfl (.cons rfl (.cons rfl (.cons rfl (.cons rfl (.cons rfl (.cons rfl (.cons rfl .nil)))))))))))
structure Fn.Is (f:Fn):Prop where
 s:f.s.Is
 t:f.t.Is
 lo:(f.ob.length:Int)=f.s.n
 la:f.ar.length=f.s.fr.length
 ob:∀ j:Nat,j<f.ob.length→0≤ix f.ob j∧ix f.ob j<f.t.n
 ar:∀ j:Nat,j<f.ar.length→0≤ix f.ar j∧ix f.ar j<f.t.fr.length
 ends:∀ a:Nat,a<f.s.fr.length→ix f.t.fr (ix f.ar a)=ix f.ob (ix f.s.fr a)∧ix f.t.to (ix f.ar a)=ix f.ob (ix f.s.to a)
 ids:∀ x:Nat,x<f.s.id.length→ix f.ar (ix f.s.id x)=ix f.t.id (ix f.ob x)
 comp:∀ a:Nat,a<f.s.fr.length→∀ b:Nat,b<f.s.fr.length→ix f.s.to a=ix f.s.fr b→ix f.ar (ix (rx f.s.cs a) b)=ix (rx f.t.cs (ix f.ar a)) (ix f.ar b)
attribute [local simp] eL eI Qw Q17 eP_Fn Cat.cells Fn.cells
noncomputable def Q1X (c_:Cat) (d_:Cat) (objects_:List Int) (arrows_:List Int):Option Fn :=
 (QR c_).bind fun v1 =>
 (QR d_).bind fun v2 =>
 (Q2V objects_).bind fun v3 =>
 (Q2V arrows_).bind fun v4 =>
 some (⟨v1,v2,v3,v4⟩:Fn)
theorem Q6X (c_:Cat) (d_:Cat) (objects_:List Int) (arrows_:List Int) (r:Fn) (h:Q1X c_ d_ objects_ arrows_=some r):Contract Try.prog 87 [.rptr (c_.cells true),.rptr (d_.cells true),lI objects_,lI arrows_] (.agg (r.cells true)):=by
 refine Qg (rvs:=[.cell 8 44]) (rs:=[.agg (r.cells true)]) Try.func87 rfl rfl rfl rfl (by simp [Try.f87]) fun F hN hP=>?_;unfold Q1X at h;refine Q5 ?_;refine runQ hN fun K hK=>?_;simp [-Q0,-Q7,-Q1,-Q8,-Q2];repeat refine sdQ ?_
 refine hK _ ?_;clear hK K;refine tn ?_;refine Q9 (st':=⟨[(0,.rptr (Cat.cells true c_)),(1,.rptr (Cat.cells true d_)),(2,lI objects_),(3,lI arrows_),(8,.adr 0 0 0)],[(0,.mix 12 [[iV 0,.val (.slice none 0 0),.val (.slice none 0 0),.val (.slice none 0 0),.val (.slice none 0 0),iV 0,.val (.slice none 0 0),.val (.slice none 0 0),.val (.slice none 0 0),.val (.slice none 0 0),.val (.slice none 0 0),.val (.slice none 0 0)]])],1⟩) (wkQ8 [(0,0)]) ?_;refine Q5 ?_;refine runQ hN fun K hK=>?_;simp [-Q0,-Q7,-Q1,-Q8,-Q2];repeat with_reducible refine sdQ ?_
 replace h:=bind_some h;obtain ⟨v1,hv1,h⟩:=h;refine Q3 (Q2t _ v1 hv1) (.cons (.preT (by simp [Cat.cells])) .nil) ?_;simp [-Q0,-Q7,-Q1,-Q8,-Q2,unk,unA,unE,unT,unC,flat];repeat with_reducible refine sdQ ?_
 replace h:=bind_some h;obtain ⟨v2,hv2,h⟩:=h;refine Q3 (Q2t _ v2 hv2) (.cons (.preT (by simp [Cat.cells])) .nil) ?_;simp [-Q0,-Q7,-Q1,-Q8,-Q2,unk,unA,unE,unT,unC,flat];repeat with_reducible refine sdQ ?_
 replace h:=bind_some h;obtain ⟨v3,hv3,h⟩:=h;refine Q3 (Q6d _ v3 hv3) (.cons .lst .nil) ?_;simp [-Q0,-Q7,-Q1,-Q8,-Q2,unk,unA,unE,unT,unC,flat];repeat with_reducible refine sdQ ?_
 replace h:=bind_some h;obtain ⟨v4,hv4,h⟩:=h;refine Q3 (Q6d _ v4 hv4) (.cons .lst .nil) ?_;simp [-Q0,-Q7,-Q1,-Q8,-Q2,unk,unA,unE,unT,unC,flat];repeat refine sdQ ?_
 refine hK _ ?_;clear hK K;refine tn ?_;refine Q9 (st':=⟨[(8,.adr 0 0 0)],[(0,.mix 12 [[iV v1.n,.own 1 0 v1.fr.length,.own 2 0 v1.to.length,.own 3 0 v1.id.length,.own 4 0 v1.cs.length,iV v2.n,.own 5 0 v2.fr.length,.own 6 0 v2.to.length,.own 7 0 v2.id.length,.own 8 0 v2.cs.length,.own 9 0 v3.length,.own 10 0 v4.length]]),(1,rI v1.fr),(2,rI v1.to),(3,rI v1.id),(4,.row 1 (Ls v1.cs)),(5,rI v2.fr),(6,rI v2.to),(7,rI v2.id),(8,.row 1 (Ls v2.cs)),(9,rI v3),(10,rI v4)],11⟩) (wkQ8 [(0,0),(2,1),(3,2),(4,3),(5,4),(7,5),(8,6),(9,7),(10,8),(11,9),(12,10)]) ?_;refine Qh ?_;have hr:=Option.some.inj h;rw [← hr];refine ⟨_,(.cell Q6a rfl rfl rfl (by simp) (by simp) .nil),?_⟩;refine ⟨(.agg rfl .nil),[iV v1.n,lI v1.fr,lI v1.to,lI v1.id,.lst true 1 (Ls v1.cs),iV v2.n,lI v2.fr,lI v2.to,lI v2.id,.lst true 1 (Ls v2.cs),lI v3,lI v4],[1,2,3,4,5,6,7,8,9,10],by simp [Cat.cells,Fn.cells,UA,U1,IA,I1,LA,L1,BA,B1,EA,E1,E2,eB,eI,eL],by simp,(UpL.refl _)⟩
attribute [local simp] eL eI Qw
noncomputable def Q1r (n_:Int):Option (List Int) :=
 ass (0≤n_∧n_≤1073741824) <|
 (Qu (σ:=List Int × Int) (ε:=List Int) (fun s6 =>
  if s6.2<((List.replicate n_.toNat 0).length:Int) then
   ass (0≤s6.2∧s6.2<(s6.1.length:Int)) <|
   ass (B64 (s6.2+1)) <|
   some (Ctl.next (s6.1.set s6.2.toNat s6.2,s6.2+1))
  else
   some (Ctl.ret s6.1)) fuel (List.replicate n_.toNat 0,0)).bind fun b2 =>
 some b2
theorem Q4A (n_:Int) (r:List Int) (h:Q1r n_=some r):Contract Try.prog 188 [iV n_] (lI r):=by
 refine Qg (rvs:=[.tmp 2]) (rs:=[lI r]) Try.func188 rfl rfl rfl rfl (by simp [Try.f188]) fun F hN hP=>?_;unfold Q1r at h;refine Q5 ?_;refine runQ hN fun K hK=>?_;simp [-Q0,-Q7,-Q1,-Q8,-Q2];repeat refine sdQ ?_
 refine hK _ ?_;clear hK K;refine tn ?_;refine Q9 (st':=⟨[(0,iV n_)],[],0⟩) (wkQ8 []) ?_;refine Q5 ?_;refine runQ hN fun K hK=>?_;replace h:=Q4 h;obtain ⟨a1,h⟩:=h;simp [-Q0,-Q7,-Q1,-Q8,-Q2];repeat refine sdQ ?_
 refine hK _ ?_;clear hK K;refine tn ?_;refine Q9 (st':=⟨[(3,.own 0 0 ((List.replicate n_.toNat 0).length))],[(0,rI (List.replicate n_.toNat 0))],1⟩) (wkQ8 [(0,0)]) ?_;refine Q5 ?_;refine Q5 ?_;refine runQ hN fun K hK=>?_;simp [-Q0,-Q7,-Q1,-Q8,-Q2];repeat refine sdQ ?_
 refine hK _ ?_;clear hK K;refine tn ?_;refine Q9 (st':=⟨[(3,.own 0 0 ((List.replicate n_.toNat 0).length)),(8,iV ((List.replicate n_.toNat 0).length:Int)),(9,iV 0)],[(0,rI (List.replicate n_.toNat 0))],1⟩) (wkQ8 [(0,0)]) ?_;replace h:=bind_some h;obtain ⟨e2,h,h2⟩:=h;refine Qj (fun b2:List Int=>⟨[(3,.own 0 0 b2.length)],[(0,rI b2)],1⟩) (fun b2=>b2=e2) ?_ ?_
 ·refine Qa ?_;refine Qr h (fun s6:List Int × Int=>⟨[(3,.own 0 0 s6.1.length),(8,iV ((List.replicate n_.toNat 0).length:Int)),(9,iV s6.2)],[(0,rI s6.1)],1⟩) (wkQ8 [(0,0)]) ?_;clear h;intro k6 s6 c6 h hk6;refine Q5 ?_;refine runQ hN fun K hK=>?_;simp [-Q0,-Q7,-Q1,-Q8,-Q2];repeat refine sdQ ?_
  refine hK _ ?_;clear hK K;refine tn ?_;refine Q9 (st':=⟨[(3,.own 0 0 s6.1.length),(8,iV ((List.replicate n_.toNat 0).length:Int)),(9,iV s6.2),(10,.val (.bool (decide (s6.2<((List.replicate n_.toNat 0).length:Int)))))],[(0,rI s6.1)],1⟩) (wkQ8 [(0,0)]) ?_;refine Q5 ?_;refine Qc rfl (fun g=>?_) fun g=>?_
  ·have g7:s6.2<((List.replicate n_.toNat 0).length:Int):=gQ;clear g;replace h:=if_l g7 h;refine Qd ?_;refine tn ?_;refine Q5 ?_;refine Qa ?_;refine Q5 ?_;refine runQ hN fun K hK=>?_;simp [-Q0,-Q7,-Q1,-Q8,-Q2];(repeat refine sdQ ?_);refine hK _ ?_;clear hK K;refine tn ?_;refine Q9 (st':=⟨[(3,.own 0 0 s6.1.length),(4,iV s6.2),(8,iV ((List.replicate n_.toNat 0).length:Int)),(9,iV s6.2)],[(0,rI s6.1)],1⟩) (wkQ8 [(0,0)]) ?_;refine runQ hN fun K hK=>?_;replace h:=Q4 h;obtain ⟨a8,h⟩:=h;simp [-Q0,-Q7,-Q1,-Q8,-Q2,at_I a8];(repeat refine sdQ ?_);refine hK _ ?_;clear hK K;refine bn ?_;refine tn ?_;refine Q9 (st':=⟨[(3,.own 0 0 ((s6.1.set s6.2.toNat s6.2).length)),(8,iV ((List.replicate n_.toNat 0).length:Int)),(9,iV s6.2)],[(0,rI (s6.1.set s6.2.toNat s6.2))],1⟩) (wkQ8 [(0,0)]) ?_;refine runQ hN fun K hK=>?_;replace h:=Q4 h;obtain ⟨a9,h⟩:=h;simp [-Q0,-Q7,-Q1,-Q8,-Q2,Qn a9];(repeat refine sdQ ?_);refine hK _ ?_;clear hK K;cases h;exact rn (s':=(s6.1.set s6.2.toNat s6.2,s6.2+1)) hk6 (wkQ8 [(0,0)])
  have g7:¬ (s6.2<((List.replicate n_.toNat 0).length:Int)):=gQ;clear g;replace h:=if_r g7 h;refine Ql ?_;refine tx ?_;refine lx ?_;refine bh ?_;cases h;exact jn (b:=s6.1) hk6 (wkQ8 [(0,0)])
 intro b2 hb2;have h:=h2;try rw [← hb2] at h
 clear h2;try dsimp only at h
 refine Q5 ?_;refine runQ hN fun K hK=>?_;simp [-Q0,-Q7,-Q1,-Q8,-Q2];repeat refine sdQ ?_
 refine hK _ ?_;clear hK K;refine tn ?_;refine Q9 (st':=⟨[(2,.own 0 0 b2.length)],[(0,rI b2)],1⟩) (wkQ8 [(0,0)]) ?_;refine Qh ?_;have hr:=Option.some.inj h;rw [← hr];refine ⟨_,(.tmp .nil),?_⟩;refine ⟨(.one rfl rfl .nil),[lI b2],[0],by simp [UA,U1,IA,I1,LA,L1,BA,B1,EA,E1,E2,eB,eI,eL],by simp,(UpL.refl _)⟩
attribute [local simp] eL eI Qw Q17 eP_Fn Cat.cells Fn.cells
noncomputable def Q1Y (c_:Cat) (d_:Cat) (objects_:List Int) (arrows_:List Int):Option Fn :=
 (Q2r c_).bind fun v1 =>
 (Q2r d_).bind fun v2 =>
 (Q2q objects_).bind fun v3 =>
 (Q2q arrows_).bind fun v4 =>
 some (⟨v1,v2,v3,v4⟩:Fn)
theorem Q6Y (c_:Cat) (d_:Cat) (objects_:List Int) (arrows_:List Int) (r:Fn) (h:Q1Y c_ d_ objects_ arrows_=some r):Contract Try.prog 84 [.agg (c_.cells true),.agg (d_.cells true),lI objects_,lI arrows_] (.agg (r.cells true)):=by
 refine Qg (rvs:=[.cell 8 44]) (rs:=[.agg (r.cells true)]) Try.func84 rfl rfl rfl rfl (by simp [Try.f84]) fun F hN hP=>?_;unfold Q1Y at h;refine Q5 ?_;refine runQ hN fun K hK=>?_;simp [-Q0,-Q7,-Q1,-Q8,-Q2];repeat refine sdQ ?_
 refine hK _ ?_;clear hK K;refine tn ?_;refine Q9 (st':=⟨[(2,lI objects_),(3,lI arrows_),(4,.adr 0 0 0),(5,.adr 1 0 0),(8,.adr 2 0 0)],[(0,.mix 5 [(Cat.cells true c_)]),(1,.mix 5 [(Cat.cells true d_)]),(2,.mix 12 [[iV 0,.val (.slice none 0 0),.val (.slice none 0 0),.val (.slice none 0 0),.val (.slice none 0 0),iV 0,.val (.slice none 0 0),.val (.slice none 0 0),.val (.slice none 0 0),.val (.slice none 0 0),.val (.slice none 0 0),.val (.slice none 0 0)]])],3⟩) (wkQ8 [(0,0),(1,1),(2,2)]) ?_;refine Q5 ?_;refine runQ hN fun K hK=>?_;simp [-Q0,-Q7,-Q1,-Q8,-Q2];repeat with_reducible refine sdQ ?_
 replace h:=bind_some h;obtain ⟨v1,hv1,h⟩:=h;refine Q3 (Q55 _ v1 hv1) (.cons (.aggL (.cons .val (.cons .lst (.cons .lst (.cons .lst (.cons .lst .nil)))))) .nil) ?_;simp [-Q0,-Q7,-Q1,-Q8,-Q2,unk,unA,unE,unT,unC,flat];repeat with_reducible refine sdQ ?_
 replace h:=bind_some h;obtain ⟨v2,hv2,h⟩:=h;refine Q3 (Q55 _ v2 hv2) (.cons (.aggL (.cons .val (.cons .lst (.cons .lst (.cons .lst (.cons .lst .nil)))))) .nil) ?_;simp [-Q0,-Q7,-Q1,-Q8,-Q2,unk,unA,unE,unT,unC,flat];repeat with_reducible refine sdQ ?_
 replace h:=bind_some h;obtain ⟨v3,hv3,h⟩:=h;refine Q3 (Q53 _ v3 hv3) (.cons .lst .nil) ?_;simp [-Q0,-Q7,-Q1,-Q8,-Q2,unk,unA,unE,unT,unC,flat];repeat with_reducible refine sdQ ?_
 replace h:=bind_some h;obtain ⟨v4,hv4,h⟩:=h;refine Q3 (Q53 _ v4 hv4) (.cons .lst .nil) ?_;simp [-Q0,-Q7,-Q1,-Q8,-Q2,unk,unA,unE,unT,unC,flat];repeat refine sdQ ?_
 refine hK _ ?_;clear hK K;refine tn ?_;refine Q9 (st':=⟨[(8,.adr 0 0 0)],[(0,.mix 12 [[iV v1.n,.own 1 0 v1.fr.length,.own 2 0 v1.to.length,.own 3 0 v1.id.length,.own 4 0 v1.cs.length,iV v2.n,.own 5 0 v2.fr.length,.own 6 0 v2.to.length,.own 7 0 v2.id.length,.own 8 0 v2.cs.length,.own 9 0 v3.length,.own 10 0 v4.length]]),(1,rI v1.fr),(2,rI v1.to),(3,rI v1.id),(4,.row 1 (Ls v1.cs)),(5,rI v2.fr),(6,rI v2.to),(7,rI v2.id),(8,.row 1 (Ls v2.cs)),(9,rI v3),(10,rI v4)],11⟩) (wkQ8 [(2,0),(4,1),(5,2),(6,3),(7,4),(9,5),(10,6),(11,7),(12,8),(13,9),(14,10)]) ?_;refine Qh ?_;have hr:=Option.some.inj h;rw [← hr];refine ⟨_,(.cell Q6a rfl rfl rfl (by simp) (by simp) .nil),?_⟩;refine ⟨(.agg rfl .nil),[iV v1.n,lI v1.fr,lI v1.to,lI v1.id,.lst true 1 (Ls v1.cs),iV v2.n,lI v2.fr,lI v2.to,lI v2.id,.lst true 1 (Ls v2.cs),lI v3,lI v4],[1,2,3,4,5,6,7,8,9,10],by simp [Cat.cells,Fn.cells,UA,U1,IA,I1,LA,L1,BA,B1,EA,E1,E2,eB,eI,eL],by simp,(UpL.refl _)⟩
theorem ix_iota (n:Nat) {j:Int} (h0:0≤j) (h1:j<n):ix (iota n) j=j:=by
 obtain ⟨i,rfl⟩:∃ i:Nat,j=i:=⟨j.toNat,by omega⟩;rw [← QT _ _ (show i<(iota n).length by simp [iota];omega)];simp [iota]
theorem set_fill {α:Type} (xs:List α) (k:Nat) (v z:α) {i:Nat} (h:i=xs.length):(xs++List.replicate (k+1) z).set i v=(xs++[v])++List.replicate k z:=by
 subst h;simp [List.replicate_succ]
theorem mem_bnd {f:List Int} {n:Int} (h:∀ j:Nat,j<f.length→0≤ix f j∧ix f j<n):∀ y∈f,0≤y∧y<n:=by
 intro y hy;obtain ⟨i,hi,rfl⟩:=List.getElem_of_mem hy;rw [QT _ _ hi];exact h i hi
theorem Cat.Is.ok {c:Cat} (h:c.Is):c.ok:=h.1.size2.1
theorem e_l06Make {c d:Cat} {ob ar:List Int} (hc:c.ok) (hd:d.ok) (ho:ob.length≤1048576) (ha:ar.length≤1048576):Q1Y c d ob ar=some ⟨c,d,ob,ar⟩:=by
 simp [Q1Y,Q2r,Q2q,hc,hd,ho,ha]
theorem e_functor {c d:Cat} {ob ar:List Int} (hc:c.ok) (hd:d.ok) (ho:ob.length≤1048576) (ha:ar.length≤1048576):Q1X c d ob ar=some ⟨c,d,ob,ar⟩:=by
 simp [Q1X,QR,Q2V,hc,hd,ho,ha]
theorem e_numbers {n:Int} (h0:0≤n) (h1:n≤1048576):Q1r n=some (iota n.toNat):=by
 unfold Q1r;rw [Q6 (by omega)];simp only [List.length_replicate];refine Q2Z n.toNat (fun i:Nat=>iota i++List.replicate (n.toNat - i) 0) (e:=iota n.toNat) (by simp [iota]) (by omega) (fun i hi=>?_) (by simp) (by simp);obtain ⟨k,hk⟩:∃ k,n.toNat - i=k+1:=⟨n.toNat - i - 1,by omega⟩;have hl:(iota i).length=i:=by simp [iota]
 have hs:=set_fill (iota i) k (i:Int) 0 (i:=i) (by rw [hl]);rw [iota_succ,hk,show n.toNat - (i+1)=k by omega,← hs];simp (disch:=omega) [Q6,B64,hl];omega
attribute [local simp] eL eI Qw Q17 Cat.cells
noncomputable def QS (list_:List Cat):Option Bool :=
 (Qu (σ:=Int) (ε:=Unit ⊕ Bool) (fun s7 =>
  if s7<(list_.length:Int) then
   ass (0≤s7∧s7<(list_.length:Int)) <|
   (Qz (gx list_ s7)).bind fun v10 =>
   if ¬ (v10=true) then
    some (Ctl.ret (Sum.inr false))
   else
    ass (B64 (s7+1)) <|
    some (Ctl.next (s7+1))
  else
   some (Ctl.ret (Sum.inl ()))) fuel 0).bind fun e1 =>
 match e1 with
 | .inl b1 =>
  some true
 | .inr p1 =>
  some p1
theorem Q3T (list_:List Cat) (r:Bool) (h:QS list_=some r):Contract Try.prog 153 [.lst true 1 (Es Q17 list_)] (.val (.bool r)):=by
 refine Qg (rvs:=[.tmp 2]) (rs:=[.val (.bool r)]) Try.func153 rfl rfl rfl rfl (by simp [Try.f153]) fun F hN hP=>?_;unfold QS at h;refine Q5 ?_;refine runQ hN fun K hK=>?_;simp [-Q0,-Q7,-Q1,-Q8,-Q2];repeat refine sdQ ?_
 refine hK _ ?_;clear hK K;refine tn ?_;refine Q9 (st':=⟨[(0,.lst true 1 (Es Q17 list_))],[],0⟩) (wkQ8 []) ?_;refine Q5 ?_;refine Q5 ?_;refine runQ hN fun K hK=>?_;simp [-Q0,-Q7,-Q1,-Q8,-Q2];repeat refine sdQ ?_
 refine hK _ ?_;clear hK K;refine tn ?_;refine Q9 (st':=⟨[(5,.lst true 1 (Es Q17 list_)),(6,iV (list_.length:Int)),(7,iV 0)],[],0⟩) (wkQ8 []) ?_;replace h:=bind_some h;obtain ⟨e1,h,h1⟩:=h;refine Qj (fun b1:Unit=>⟨[],[],0⟩) (fun b1=>Sum.inl b1=e1) ?_ ?_
 ·refine Qa ?_;refine Qr h (fun s7:Int=>⟨[(5,.lst true 1 (Es Q17 list_)),(6,iV (list_.length:Int)),(7,iV s7)],[],0⟩) (wkQ8 []) ?_;clear h;intro k7 s7 c7 h hk7;refine Q5 ?_;refine runQ hN fun K hK=>?_;simp [-Q0,-Q7,-Q1,-Q8,-Q2];repeat refine sdQ ?_
  refine hK _ ?_;clear hK K;refine tn ?_;refine Q9 (st':=⟨[(5,.lst true 1 (Es Q17 list_)),(6,iV (list_.length:Int)),(7,iV s7),(8,.val (.bool (decide (s7<(list_.length:Int)))))],[],0⟩) (wkQ8 []) ?_;refine Q5 ?_;refine Qc rfl (fun g=>?_) fun g=>?_
  ·have g8:s7<(list_.length:Int):=gQ;clear g;replace h:=if_l g8 h;refine Qd ?_;refine tn ?_;refine Q5 ?_;refine Qa ?_;refine Q5 ?_;refine runQ hN fun K hK=>?_;replace h:=Q4 h;obtain ⟨a9,h⟩:=h;simp [-Q0,-Q7,-Q1,-Q8,-Q2,at_E (c:=Q17) a9];(repeat refine sdQ ?_);refine hK _ ?_;clear hK K;refine tn ?_;refine Q9 (st':=⟨[(4,.rptr (Cat.cells true (gx list_ s7))),(5,.lst true 1 (Es Q17 list_)),(6,iV (list_.length:Int)),(7,iV s7)],[],0⟩) (wkQ8 []) ?_;refine Q5 ?_;refine runQ hN fun K hK=>?_;simp [-Q0,-Q7,-Q1,-Q8,-Q2];(repeat with_reducible refine sdQ ?_);replace h:=bind_some h;obtain ⟨v10,hv10,h⟩:=h;refine Q3 (Q2B _ v10 hv10) (.cons (.preT (by simp [Cat.cells])) .nil) ?_;simp [-Q0,-Q7,-Q1,-Q8,-Q2,unk,unA,unE,unT,unC,flat];(repeat refine sdQ ?_);refine hK _ ?_;clear hK K;refine tn ?_;refine Q9 (st':=⟨[(5,.lst true 1 (Es Q17 list_)),(6,iV (list_.length:Int)),(7,iV s7),(13,.val (.bool (!v10)))],[],0⟩) (wkQ8 []) ?_;refine Qc rfl (fun g=>?_) fun g=>?_
   ·have g11:¬ (v10=true):=gQ;clear g;replace h:=if_l g11 h;refine Q5 ?_;refine runQ hN fun K hK=>?_;simp [-Q0,-Q7,-Q1,-Q8,-Q2];(repeat refine sdQ ?_);refine hK _ ?_;clear hK K;refine tn ?_;refine Q9 (st':=⟨[(2,.val (.bool false))],[],0⟩) (wkQ8 []) ?_;refine Qh ?_;refine br ?_;refine tr ?_;refine lr ?_;refine br ?_;refine tr ?_;cases h;have q:_=e1:=hk7;have h:=h1;rw [← q] at h;clear q;(try dsimp only at h);have hr:=Option.some.inj h;rw [← hr];refine ⟨_,(.tmp .nil),?_⟩;refine ⟨(.one rfl rfl .nil),[.val (.bool false)],[],by simp [Cat.cells,UA,U1,IA,I1,LA,L1,BA,B1,EA,E1,E2,eB,eI,eL],by simp,(UpL.refl _)⟩
   have g11:¬ (¬ (v10=true)):=gQ;clear g;replace h:=if_r g11 h;refine Qd ?_;refine bn ?_;refine tn ?_;refine runQ hN fun K hK=>?_;replace h:=Q4 h;obtain ⟨a12,h⟩:=h;simp [-Q0,-Q7,-Q1,-Q8,-Q2,Qn a12];(repeat refine sdQ ?_);refine hK _ ?_;clear hK K;cases h;exact rn (s':=s7+1) hk7 (wkQ8 [])
  have g8:¬ (s7<(list_.length:Int)):=gQ;clear g;replace h:=if_r g8 h;refine Ql ?_;refine tx ?_;refine lx ?_;refine bh ?_;cases h;exact jn (b:=()) hk7 (wkQ8 [])
 intro b1 hb1;have h:=h1;try rw [← hb1] at h
 clear h1;try dsimp only at h
 refine Q5 ?_;refine runQ hN fun K hK=>?_;simp [-Q0,-Q7,-Q1,-Q8,-Q2];repeat refine sdQ ?_
 refine hK _ ?_;clear hK K;refine tn ?_;refine Q9 (st':=⟨[(2,.val (.bool true))],[],0⟩) (wkQ8 []) ?_;refine Qh ?_;have hr:=Option.some.inj h;rw [← hr];refine ⟨_,(.tmp .nil),?_⟩;refine ⟨(.one rfl rfl .nil),[.val (.bool true)],[],by simp [Cat.cells,UA,U1,IA,I1,LA,L1,BA,B1,EA,E1,E2,eB,eI,eL],by simp,(UpL.refl _)⟩
structure Para (f g:Fn):Prop where
 hf:f.Is
 hg:g.Is
 s:f.s=g.s
 t:f.t=g.t
theorem gx_nat {α:Type} [Inhabited α] (xs:List α) {i:Nat} (h:i<xs.length):gx xs i=xs[i]:=by simp [gx,List.getD_eq_getElem?_getD,h]
theorem e_areCats (cs:List Cat) (hl:cs.length≤1048576):QS cs=some (bo (∀ c∈cs,c.Is)):=by
 unfold QS;refine Q56 cs.length (fun i:Nat=>(gx cs i).Is) (eb:=Sum.inr false) (eg:=Sum.inl ()) (by omega) (fun a hi hp=>?_) (fun a hi hp=>?_) (by simp) (fun hx=>?_) fun q1=>?_
 ·simp (disch:=omega) [Q6,B64,Qz,Qm hp,hi]
 ·simp (disch:=omega) [Q6,B64,Qz,Qf hp,hi]
 ·rw [Qf (show ¬ ∀ c∈cs,c.Is from fun q=>hx fun i hi=>q _ (by rw [gx_nat _ hi];exact List.getElem_mem hi))]
 rw [Qm (show ∀ c∈cs,c.Is from fun c hc=>by obtain ⟨i,hi,rfl⟩:=List.getElem_of_mem hc;have:=q1 i hi;rwa [gx_nat _ hi] at this)]
def tab {α:Type} (n:Nat) (g:Nat→α):List α:=(List.range n).map g
@[simp] theorem Q3R {α:Type} (n:Nat) (g:Nat→α):(tab n g).length=n:=by simp [tab]
theorem Q1z {α:Type} (n:Nat) (g:Nat→α):tab (n+1) g=tab n g++[g n]:=by simp [tab,List.range_succ]
theorem ix_tab (n:Nat) (g:Nat→Int) {i:Nat} (h:i<n):ix (tab n g) i=g i:=by
 rw [← QT _ _ (show i<(tab n g).length by simpa using h)];simp [tab]
theorem Cat.Is.size {c:Cat} (h:c.Is):c.size≤2000:=h.1.size2.2
def zeroF:Fn:=⟨⟨0,[],[],[],[]⟩,⟨0,[],[],[],[]⟩,[],[]⟩
attribute [local simp] eL eI Qw Q17 Cat.cells
noncomputable def QA (c_:Cat) (x_:Int) (y_:Int):Option (List Int) :=
 (Qu (σ:=List Int × Int) (ε:=List Int) (fun s11 =>
  if s11.2<(c_.fr.length:Int) then
   (
    (
     ass (0≤s11.2∧s11.2<(c_.fr.length:Int)) <|
     if (ix c_.fr s11.2)=x_ then
      ass (0≤s11.2∧s11.2<(c_.to.length:Int)) <|
      some ((ix c_.to s11.2) == y_)
     else
      some false:Option (Bool)).bind fun b14 =>
    if b14=true then
     ass ((s11.1++[s11.2]).length≤1073741824) <|
     some (s11.1++[s11.2])
    else
     some s11.1:Option (List Int)).bind fun b13 =>
   ass (B64 (s11.2+1)) <|
   some (Ctl.next (b13,s11.2+1))
  else
   some (Ctl.ret s11.1)) fuel ([],0)).bind fun b1 =>
 some b1
theorem Q2G (c_:Cat) (x_:Int) (y_:Int) (r:List Int) (h:QA c_ x_ y_=some r):Contract Try.prog 86 [.rptr (c_.cells true),iV x_,iV y_] (lI r):=by
 refine Qg (rvs:=[.tmp 6]) (rs:=[lI r]) Try.func86 rfl rfl rfl rfl (by simp [Try.f86]) fun F hN hP=>?_;unfold QA at h;refine Q5 ?_;refine runQ hN fun K hK=>?_;simp [-Q0,-Q7,-Q1,-Q8,-Q2];repeat refine sdQ ?_
 refine hK _ ?_;clear hK K;refine tn ?_;refine Q9 (st':=⟨[(0,.rptr (Cat.cells true c_)),(1,iV x_),(2,iV y_)],[],0⟩) (wkQ8 []) ?_;refine Q5 ?_;refine runQ hN fun K hK=>?_;simp [-Q0,-Q7,-Q1,-Q8,-Q2];repeat refine sdQ ?_
 refine hK _ ?_;clear hK K;refine tn ?_;refine Q9 (st':=⟨[(0,.rptr (Cat.cells true c_)),(1,iV x_),(2,iV y_),(7,.own 0 0 0)],[(0,.mix 1 [])],1⟩) (wkQ8 [(0,0)]) ?_;refine Q5 ?_;refine Q5 ?_;refine runQ hN fun K hK=>?_;simp [-Q0,-Q7,-Q1,-Q8,-Q2];repeat refine sdQ ?_
 refine hK _ ?_;clear hK K;refine tn ?_;refine Q9 (st':=⟨[(0,.rptr (Cat.cells true c_)),(1,iV x_),(2,iV y_),(7,.own 0 0 0),(14,iV (c_.fr.length:Int)),(15,iV 0)],[(0,.mix 1 [])],1⟩) (wkQ8 [(0,0)]) ?_;replace h:=bind_some h;obtain ⟨e1,h,h1⟩:=h;refine Qj (fun b1:List Int=>⟨[(7,.own 0 0 b1.length)],[(0,rI b1)],1⟩) (fun b1=>b1=e1) ?_ ?_
 ·refine Qa ?_;refine Qr h (fun s11:List Int × Int=>⟨[(0,.rptr (Cat.cells true c_)),(1,iV x_),(2,iV y_),(7,.own 0 0 s11.1.length),(14,iV (c_.fr.length:Int)),(15,iV s11.2)],[(0,rI s11.1)],1⟩) (Q5x ⟨[(0,.rptr (Cat.cells true c_)),(1,iV x_),(2,iV y_),(7,.own 0 0 0),(14,iV (c_.fr.length:Int)),(15,iV 0)],[(0,rI [])],1⟩ (Wk.nils [] (by simp) (by simp) (by simp [nlA]) (by simp [entN,nlL,nlA,Cat.cells,UA,U1,IA,I1,LA,L1,BA,B1,EA,E1,E2,eB,eI,eL]) (by simp)) (wkQ8 [(0,0)])) ?_;clear h;intro k11 s11 c11 h hk11;refine Q5 ?_;refine runQ hN fun K hK=>?_;simp [-Q0,-Q7,-Q1,-Q8,-Q2];repeat refine sdQ ?_
  refine hK _ ?_;clear hK K;refine tn ?_;refine Q9 (st':=⟨[(0,.rptr (Cat.cells true c_)),(1,iV x_),(2,iV y_),(7,.own 0 0 s11.1.length),(14,iV (c_.fr.length:Int)),(15,iV s11.2),(16,.val (.bool (decide (s11.2<(c_.fr.length:Int)))))],[(0,rI s11.1)],1⟩) (wkQ8 [(0,0)]) ?_;refine Q5 ?_;refine Qc rfl (fun g=>?_) fun g=>?_
  ·have g12:s11.2<(c_.fr.length:Int):=gQ;clear g;replace h:=if_l g12 h;refine Qd ?_;refine tn ?_;refine Q5 ?_;replace h:=bind_some h;obtain ⟨e13,h,h13⟩:=h;refine Qj (fun b13:List Int=>⟨[(0,.rptr (Cat.cells true c_)),(1,iV x_),(2,iV y_),(7,.own 0 0 b13.length),(14,iV (c_.fr.length:Int)),(15,iV s11.2)],[(0,rI b13)],1⟩) (fun b13=>b13=e13) ?_ ?_
   ·refine Qa ?_;refine Q5 ?_;refine runQ hN fun K hK=>?_;simp [-Q0,-Q7,-Q1,-Q8,-Q2];(repeat refine sdQ ?_);refine hK _ ?_;clear hK K;refine tn ?_;refine Q9 (st':=⟨[(0,.rptr (Cat.cells true c_)),(1,iV x_),(2,iV y_),(7,.own 0 0 s11.1.length),(8,iV s11.2),(14,iV (c_.fr.length:Int)),(15,iV s11.2)],[(0,rI s11.1)],1⟩) (wkQ8 [(0,0)]) ?_;refine Q5 ?_;replace h:=bind_some h;obtain ⟨e14,h,h14⟩:=h;refine Qj (fun b14:Bool=>⟨[(0,.rptr (Cat.cells true c_)),(1,iV x_),(2,iV y_),(7,.own 0 0 s11.1.length),(8,iV s11.2),(14,iV (c_.fr.length:Int)),(15,iV s11.2),(37,.val (.bool b14))],[(0,rI s11.1)],1⟩) (fun b14=>b14=e14) ?_ ?_
    ·refine runQ hN fun K hK=>?_;replace h:=Q4 h;obtain ⟨a15,h⟩:=h;simp [-Q0,-Q7,-Q1,-Q8,-Q2,at_I a15];(repeat with_reducible refine sdQ ?_);refine Qs (fun g=>?_) (fun g=>?_)
     ·have g16:(ix c_.fr s11.2)=x_:=gQ;clear g;replace h:=if_l g16 h;replace h:=Q4 h;obtain ⟨a17,h⟩:=h;simp [-Q0,-Q7,-Q1,-Q8,-Q2,at_I a15,at_I a17];(repeat refine sdQ ?_);refine hK _ ?_;exact jn (b:=(ix c_.to s11.2) == y_) (Option.some.inj h) (wkQ8 [(0,0)])
     have g16:¬ ((ix c_.fr s11.2)=x_):=gQ;clear g;replace h:=if_r g16 h;simp [-Q0,-Q7,-Q1,-Q8,-Q2,at_I a15];(repeat refine sdQ ?_);refine hK _ ?_;exact jn (b:=false) (Option.some.inj h) (wkQ8 [(0,0)])
    intro b14 hb14;have h:=h14;(try rw [← hb14] at h);clear h14;(try dsimp only at h);refine Qc rfl (fun g=>?_) fun g=>?_
    ·have g18:b14=true:=gQ;clear g;replace h:=if_l g18 h;refine runQ hN fun K hK=>?_;replace h:=Q4 h;obtain ⟨a19,h⟩:=h;(try simp only [List.length_append,List.length_cons,List.length_nil] at a19);simp [-Q0,-Q7,-Q1,-Q8,-Q2,a19];(repeat refine sdQ ?_);refine hK _ ?_;clear hK K;refine bn ?_;exact jn (b:=s11.1++[s11.2]) (Option.some.inj h) (wkQ8 [(2,0)])
    have g18:¬ (b14=true):=gQ;clear g;replace h:=if_r g18 h;refine Qd ?_;refine bn ?_;exact jn (b:=s11.1) (Option.some.inj h) (wkQ8 [(0,0)])
   intro b13 hb13;have h:=h13;(try rw [← hb13] at h);clear h13;(try dsimp only at h);refine runQ hN fun K hK=>?_;replace h:=Q4 h;obtain ⟨a20,h⟩:=h;simp [-Q0,-Q7,-Q1,-Q8,-Q2,Qn a20];(repeat refine sdQ ?_);refine hK _ ?_;clear hK K;cases h;exact rn (s':=(b13,s11.2+1)) hk11 (wkQ8 [(0,0)])
  have g12:¬ (s11.2<(c_.fr.length:Int)):=gQ;clear g;replace h:=if_r g12 h;refine Ql ?_;refine tx ?_;refine lx ?_;refine bh ?_;cases h;exact jn (b:=s11.1) hk11 (wkQ8 [(0,0)])
 intro b1 hb1;have h:=h1;try rw [← hb1] at h
 clear h1;try dsimp only at h
 refine Q5 ?_;refine runQ hN fun K hK=>?_;simp [-Q0,-Q7,-Q1,-Q8,-Q2];repeat refine sdQ ?_
 refine hK _ ?_;clear hK K;refine tn ?_;refine Q9 (st':=⟨[(6,.own 0 0 b1.length)],[(0,rI b1)],1⟩) (wkQ8 [(0,0)]) ?_;refine Qh ?_;have hr:=Option.some.inj h;rw [← hr];refine ⟨_,(.tmp .nil),?_⟩;refine ⟨(.one rfl rfl .nil),[lI b1],[0],by simp [Cat.cells,UA,U1,IA,I1,LA,L1,BA,B1,EA,E1,E2,eB,eI,eL],by simp,(UpL.refl _)⟩
attribute [local simp] eL eI Qw Q17 Cat.cells
noncomputable def Q1P (c_:Cat) (x_:Int) (y_:Int):Option (List Int) :=
 (Qu (σ:=List Int × Int) (ε:=List Int) (fun s11 =>
  if s11.2<(c_.fr.length:Int) then
   (
    (
     ass (0≤s11.2∧s11.2<(c_.fr.length:Int)) <|
     if (ix c_.fr s11.2)=x_ then
      ass (0≤s11.2∧s11.2<(c_.to.length:Int)) <|
      some ((ix c_.to s11.2) == y_)
     else
      some false:Option (Bool)).bind fun b14 =>
    if b14=true then
     ass ((s11.1++[s11.2]).length≤1073741824) <|
     some (s11.1++[s11.2])
    else
     some s11.1:Option (List Int)).bind fun b13 =>
   ass (B64 (s11.2+1)) <|
   some (Ctl.next (b13,s11.2+1))
  else
   some (Ctl.ret s11.1)) fuel ([],0)).bind fun b1 =>
 some b1
theorem Q54 (c_:Cat) (x_:Int) (y_:Int) (r:List Int) (h:Q1P c_ x_ y_=some r):Contract Try.prog 83 [.agg (c_.cells true),iV x_,iV y_] (lI r):=by
 refine Qg (rvs:=[.tmp 6]) (rs:=[lI r]) Try.func83 rfl rfl rfl rfl (by simp [Try.f83]) fun F hN hP=>?_;unfold Q1P at h;refine Q5 ?_;refine runQ hN fun K hK=>?_;simp [-Q0,-Q7,-Q1,-Q8,-Q2];repeat refine sdQ ?_
 refine hK _ ?_;clear hK K;refine tn ?_;refine Q9 (st':=⟨[(1,iV x_),(2,iV y_),(3,.adr 0 0 0)],[(0,.mix 5 [(Cat.cells true c_)])],1⟩) (wkQ8 [(0,0)]) ?_;refine Q5 ?_;refine runQ hN fun K hK=>?_;simp [-Q0,-Q7,-Q1,-Q8,-Q2];repeat refine sdQ ?_
 refine hK _ ?_;clear hK K;refine tn ?_;refine Q9 (st':=⟨[(1,iV x_),(2,iV y_),(3,.adr 0 0 0),(7,.own 1 0 0)],[(0,.mix 5 [(Cat.cells true c_)]),(1,.mix 1 [])],2⟩) (wkQ8 [(0,0),(1,1)]) ?_;refine Q5 ?_;refine Q5 ?_;refine runQ hN fun K hK=>?_;simp [-Q0,-Q7,-Q1,-Q8,-Q2];repeat refine sdQ ?_
 refine hK _ ?_;clear hK K;refine tn ?_;refine Q9 (st':=⟨[(1,iV x_),(2,iV y_),(3,.adr 0 0 0),(7,.own 1 0 0),(8,iV 0)],[(0,.mix 5 [(Cat.cells true c_)]),(1,.mix 1 [])],2⟩) (wkQ8 [(0,0),(1,1)]) ?_;replace h:=bind_some h;obtain ⟨e1,h,h1⟩:=h;refine Qj (fun b1:List Int=>⟨[(7,.own 0 0 b1.length)],[(0,rI b1)],1⟩) (fun b1=>b1=e1) ?_ ?_
 ·refine Qa ?_;refine Qr h (fun s11:List Int × Int=>⟨[(1,iV x_),(2,iV y_),(3,.adr 0 0 0),(7,.own 1 0 s11.1.length),(8,iV s11.2)],[(0,.mix 5 [(Cat.cells true c_)]),(1,rI s11.1)],2⟩) (Q5x ⟨[(1,iV x_),(2,iV y_),(3,.adr 0 0 0),(7,.own 1 0 0),(8,iV 0)],[(0,.mix 5 [(Cat.cells true c_)]),(1,rI [])],2⟩ (Wk.nils [] (by simp) (by simp) (by simp [nlA]) (by simp [entN,nlL,nlA,Cat.cells,UA,U1,IA,I1,LA,L1,BA,B1,EA,E1,E2,eB,eI,eL]) (by simp)) (wkQ8 [(0,0),(1,1)])) ?_;clear h;intro k11 s11 c11 h hk11;refine Q5 ?_;refine Q5 ?_;refine runQ hN fun K hK=>?_;simp [-Q0,-Q7,-Q1,-Q8,-Q2];repeat refine sdQ ?_
  refine hK _ ?_;clear hK K;refine tn ?_;refine Q9 (st':=⟨[(1,iV x_),(2,iV y_),(3,.adr 0 0 0),(7,.own 1 0 s11.1.length),(8,iV s11.2),(14,.val (.bool (decide (s11.2<(c_.fr.length:Int)))))],[(0,.mix 5 [(Cat.cells true c_)]),(1,rI s11.1)],2⟩) (wkQ8 [(0,0),(1,1)]) ?_;refine Qc rfl (fun g=>?_) fun g=>?_
  ·have g12:s11.2<(c_.fr.length:Int):=gQ;clear g;replace h:=if_l g12 h;refine Qd ?_;refine tn ?_;refine Q5 ?_;replace h:=bind_some h;obtain ⟨e13,h,h13⟩:=h;refine Qj (fun b13:List Int=>⟨[(1,iV x_),(2,iV y_),(3,.adr 0 0 0),(7,.own 1 0 b13.length),(8,iV s11.2)],[(0,.mix 5 [(Cat.cells true c_)]),(1,rI b13)],2⟩) (fun b13=>b13=e13) ?_ ?_
   ·refine Qa ?_;refine Q5 ?_;replace h:=bind_some h;obtain ⟨e14,h,h14⟩:=h;refine Qj (fun b14:Bool=>⟨[(1,iV x_),(2,iV y_),(3,.adr 0 0 0),(7,.own 1 0 s11.1.length),(8,iV s11.2),(32,.val (.bool b14))],[(0,.mix 5 [(Cat.cells true c_)]),(1,rI s11.1)],2⟩) (fun b14=>b14=e14) ?_ ?_
    ·refine runQ hN fun K hK=>?_;replace h:=Q4 h;obtain ⟨a15,h⟩:=h;simp [-Q0,-Q7,-Q1,-Q8,-Q2,at_I a15];(repeat with_reducible refine sdQ ?_);refine Qs (fun g=>?_) (fun g=>?_)
     ·have g16:(ix c_.fr s11.2)=x_:=gQ;clear g;replace h:=if_l g16 h;replace h:=Q4 h;obtain ⟨a17,h⟩:=h;simp [-Q0,-Q7,-Q1,-Q8,-Q2,at_I a15,at_I a17];(repeat refine sdQ ?_);refine hK _ ?_;exact jn (b:=(ix c_.to s11.2) == y_) (Option.some.inj h) (wkQ8 [(0,0),(1,1)])
     have g16:¬ ((ix c_.fr s11.2)=x_):=gQ;clear g;replace h:=if_r g16 h;simp [-Q0,-Q7,-Q1,-Q8,-Q2,at_I a15];(repeat refine sdQ ?_);refine hK _ ?_;exact jn (b:=false) (Option.some.inj h) (wkQ8 [(0,0),(1,1)])
    intro b14 hb14;have h:=h14;(try rw [← hb14] at h);clear h14;(try dsimp only at h);refine Qc rfl (fun g=>?_) fun g=>?_
    ·have g18:b14=true:=gQ;clear g;replace h:=if_l g18 h;refine runQ hN fun K hK=>?_;replace h:=Q4 h;obtain ⟨a19,h⟩:=h;(try simp only [List.length_append,List.length_cons,List.length_nil] at a19);simp [-Q0,-Q7,-Q1,-Q8,-Q2,a19];(repeat refine sdQ ?_);refine hK _ ?_;clear hK K;refine bn ?_;exact jn (b:=s11.1++[s11.2]) (Option.some.inj h) (wkQ8 [(0,0),(3,1)])
    have g18:¬ (b14=true):=gQ;clear g;replace h:=if_r g18 h;refine Qd ?_;refine bn ?_;exact jn (b:=s11.1) (Option.some.inj h) (wkQ8 [(0,0),(1,1)])
   intro b13 hb13;have h:=h13;(try rw [← hb13] at h);clear h13;(try dsimp only at h);refine runQ hN fun K hK=>?_;replace h:=Q4 h;obtain ⟨a20,h⟩:=h;simp [-Q0,-Q7,-Q1,-Q8,-Q2,Qn a20];(repeat refine sdQ ?_);refine hK _ ?_;clear hK K;cases h;exact rn (s':=(b13,s11.2+1)) hk11 (wkQ8 [(0,0),(1,1)])
  have g12:¬ (s11.2<(c_.fr.length:Int)):=gQ;clear g;replace h:=if_r g12 h;refine Ql ?_;refine tx ?_;refine lx ?_;refine bh ?_;cases h;exact jn (b:=s11.1) hk11 (wkQ8 [(1,0)])
 intro b1 hb1;have h:=h1;try rw [← hb1] at h
 clear h1;try dsimp only at h
 refine Q5 ?_;refine runQ hN fun K hK=>?_;simp [-Q0,-Q7,-Q1,-Q8,-Q2];repeat refine sdQ ?_
 refine hK _ ?_;clear hK K;refine tn ?_;refine Q9 (st':=⟨[(6,.own 0 0 b1.length)],[(0,rI b1)],1⟩) (wkQ8 [(0,0)]) ?_;refine Qh ?_;have hr:=Option.some.inj h;rw [← hr];refine ⟨_,(.tmp .nil),?_⟩;refine ⟨(.one rfl rfl .nil),[lI b1],[0],by simp [Cat.cells,UA,U1,IA,I1,LA,L1,BA,B1,EA,E1,E2,eB,eI,eL],by simp,(UpL.refl _)⟩
noncomputable def flt (n:Nat) (p:Nat→Prop):List Int:=((List.range n).filter fun i=>bo (p i)).map Int.ofNat
noncomputable def fstN (n:Nat) (p:Nat→Prop):Int:=(((List.range n).find? fun i=>bo (p i)).map Int.ofNat).getD (-1)
theorem flt_pos {n:Nat} {p:Nat→Prop} (h:p n):flt (n+1) p=flt n p++[(n:Int)]:=by simp [flt,List.range_succ,Qm h]
theorem Q6t {n:Nat} {p:Nat→Prop} (h:¬ p n):flt (n+1) p=flt n p:=by simp [flt,List.range_succ,Qf h]
theorem Q6s (n:Nat) (p:Nat→Prop):(flt n p).length≤n:=by
 unfold flt;rw [List.length_map];exact Nat.le_trans (List.length_filter_le _ _) (by simp)
theorem mem_flt {n:Nat} {p:Nat→Prop} {x:Int}:x∈flt n p↔∃ i:Nat,i<n∧p i∧x=(i:Int):=by
 simp only [flt,List.mem_map,List.mem_filter,List.mem_range,bo_tt];constructor
 ·rintro ⟨i,⟨h1,h2⟩,rfl⟩;exact ⟨i,h1,h2,rfl⟩
 rintro ⟨i,h1,h2,rfl⟩;exact ⟨i,⟨h1,h2⟩,rfl⟩
theorem Q5a (n:Nat) (p:Nat→Prop):(fstN n p = -1∧∀ i,i<n→¬ p i)∨∃ k:Nat,k<n∧p k∧fstN n p=(k:Int):=by
 unfold fstN;cases h:(List.range n).find? fun i=>bo (p i) with
 | none =>
  refine .inl ⟨rfl,fun i hi=>?_⟩;have:=List.find?_eq_none.1 h i (by simpa using hi);simpa [bo_tt] using this
 | some k =>
  have h1:=List.find?_some h;have h2:=List.mem_of_find?_eq_some h;exact .inr ⟨k,by simpa using h2,by simpa [bo_tt] using h1,rfl⟩
theorem e_hom {c:Cat} (h:c.Is) (x y:Int):QA c x y=some (flt c.fr.length fun a=>ix c.fr a=x∧ix c.to a=y):=by
 have k1:=h.1.lt;have k2:=h.1.m40;unfold QA;refine Q2Z c.fr.length (fun i=>flt i fun a=>ix c.fr a=x∧ix c.to a=y) (e:=flt c.fr.length fun a=>ix c.fr a=x∧ix c.to a=y) rfl (by omega) (fun i hi=>?_) (by simp) rfl;have hl:=Q6s i fun a=>ix c.fr a=x∧ix c.to a=y
 by_cases h1:ix c.fr i=x
 ·by_cases h2:ix c.to i=y
  ·rw [flt_pos ⟨h1,h2⟩];simp (disch:=omega) [Q6,B64,h1,h2];try omega
  rw [Q6t fun q=>h2 q.2];simp (disch:=omega) [Q6,B64,h1,h2];try omega
 rw [Q6t fun q=>h1 q.1];simp (disch:=omega) [Q6,B64,h1];try omega
theorem e_l02Hom (c:Cat) (x y:Int):Q1P c x y=QA c x y:=rfl
theorem Cat.Is.two {c:Cat} (h:c.Is) {f g:Int} (f0:0≤f∧f<c.fr.length) (g0:0≤g∧g<c.fr.length) (e:ix c.to f=ix c.fr g):(0≤ix (rx c.cs f) g∧ix (rx c.cs f) g<c.fr.length)∧ix c.fr (ix (rx c.cs f) g)=ix c.fr f∧ix c.to (ix (rx c.cs f) g)=ix c.to g:=by
 have:=(h.1.cell' f0.1 f0.2 g0.1 g0.2).2 e;exact ⟨⟨this.1,this.2.1⟩,this.2.2⟩
abbrev Ar (c:Cat) (f x y:Int):Prop:=(0≤f∧f<(c.fr.length:Int))∧ix c.fr f=x∧ix c.to f=y
theorem mem_ix {xs:List Int} {P:Int→Prop} (h:∀ x∈xs,P x) {i:Nat} (hi:i<xs.length):P (ix xs i):=by
 rw [← QT _ _ hi];exact h _ (List.getElem_mem hi)
noncomputable def homL (c:Cat) (x y:Int):List Int:=flt c.fr.length fun a=>ix c.fr a=x∧ix c.to a=y
theorem homL_mem {c:Cat} {x y:Int}:∀ f∈homL c x y,Ar c f x y:=by
 intro f hf;obtain ⟨i,h1,h2,rfl⟩:=mem_flt.1 hf;exact ⟨by omega,h2⟩
theorem Q3A (c:Cat) (x y:Int):(homL c x y).length≤c.fr.length:=Q6s _ _
theorem Q79 {c:Cat} (h:c.Is) (x y:Int):Q1P c x y=some (homL c x y)∧QA c x y=some (homL c x y):=⟨by rw [e_l02Hom,e_hom h];rfl,e_hom h x y⟩
attribute [local simp] eL eI Qw Q2F Prf.cells
noncomputable def QJ (p_:Prf):Option Bool :=
 (Qu (σ:=Int) (ε:=Unit ⊕ Bool) (fun s112 =>
  if s112<p_.t.n then
   (
    (Qu (σ:=Int) (ε:=Unit ⊕ Bool) (fun s135 =>
     if s135<(p_.s.id.length:Int) then
      ass (0≤s135∧s135<(p_.s.id.length:Int)) <|
      (
       ass (0≤ix p_.s.id s135∧ix p_.s.id s135<(p_.bf.length:Int)) <|
       ass (0≤s112∧s112<((gx p_.bf (ix p_.s.id s135)).length:Int)) <|
       ass (0≤s135∧s135<(p_.sz.length:Int)) <|
       ass (0≤s112∧s112<((rx p_.sz s135).length:Int)) <|
       (Q1r (ix (rx p_.sz s135) s112)).bind fun v143 =>
       (Q1k (rx (gx p_.bf (ix p_.s.id s135)) s112) v143).bind fun v144 =>
       if ¬ (v144=true) then
        some true
       else
        ass (0≤s112∧s112<(p_.t.id.length:Int)) <|
        ass (0≤ix p_.t.id s112∧ix p_.t.id s112<(p_.bh.length:Int)) <|
        ass (0≤s135∧s135<((gx p_.bh (ix p_.t.id s112)).length:Int)) <|
        ass (0≤s135∧s135<(p_.sz.length:Int)) <|
        ass (0≤s112∧s112<((rx p_.sz s135).length:Int)) <|
        (Q1r (ix (rx p_.sz s135) s112)).bind fun v151 =>
        (Q1k (rx (gx p_.bh (ix p_.t.id s112)) s135) v151).bind fun v152 =>
        some (!v152):Option (Bool)).bind fun b138 =>
      if b138=true then
       some (Ctl.ret (Sum.inr false))
      else
       ass (B64 (s135+1)) <|
       some (Ctl.next (s135+1))
     else
      some (Ctl.ret (Sum.inl ()))) fuel 0).bind fun e115 =>
    match e115 with
    | .inl b115 =>
     (Qu (σ:=Int) (ε:=Bool ⊕ Unit) (fun s188 =>
      if s188<(p_.s.cs.length:Int) then
       (
        ass (0≤s188∧s188<(p_.s.cs.length:Int)) <|
        (Qu (σ:=Int) (ε:=Bool ⊕ Unit) (fun s206 =>
         if s206<((rx p_.s.cs s188).length:Int) then
          ass (0≤s206∧s206<((rx p_.s.cs s188).length:Int)) <|
          (
           if (ix (rx p_.s.cs s188) s206) ≥ 0 then
            ass (0≤ix (rx p_.s.cs s188) s206∧ix (rx p_.s.cs s188) s206<(p_.bf.length:Int)) <|
            ass (0≤s112∧s112<((gx p_.bf (ix (rx p_.s.cs s188) s206)).length:Int)) <|
            ass (0≤s206∧s206<(p_.bf.length:Int)) <|
            ass (0≤s112∧s112<((gx p_.bf s206).length:Int)) <|
            ass (0≤s188∧s188<(p_.bf.length:Int)) <|
            ass (0≤s112∧s112<((gx p_.bf s188).length:Int)) <|
            (Q1c (rx (gx p_.bf s206) s112) (rx (gx p_.bf s188) s112)).bind fun v217 =>
            (Q1k (rx (gx p_.bf (ix (rx p_.s.cs s188) s206)) s112) v217).bind fun v218 =>
            some (!v218)
           else
            some false:Option (Bool)).bind fun b209 =>
          if b209=true then
           some (Ctl.ret (Sum.inl false))
          else
           ass (B64 (s206+1)) <|
           some (Ctl.next (s206+1))
         else
          some (Ctl.ret (Sum.inr ()))) fuel 0).bind fun e206 =>
        match e206 with
        | .inl p206 =>
         some (Sum.inr p206)
        | .inr p206 =>
         some (Sum.inl p206):Option (Unit ⊕ Bool)).bind fun e190 =>
       match e190 with
       | .inl b190 =>
        ass (B64 (s188+1)) <|
        some (Ctl.next (s188+1))
       | .inr p190 =>
        some (Ctl.ret (Sum.inl p190))
      else
       some (Ctl.ret (Sum.inr ()))) fuel 0).bind fun e188 =>
     match e188 with
     | .inl p188 =>
      some (Sum.inr p188)
     | .inr p188 =>
      some (Sum.inl p188)
    | .inr p115 =>
     some (Sum.inr p115):Option (Unit ⊕ Bool)).bind fun e114 =>
   match e114 with
   | .inl b114 =>
    ass (B64 (s112+1)) <|
    some (Ctl.next (s112+1))
   | .inr p114 =>
    some (Ctl.ret (Sum.inr p114))
  else
   some (Ctl.ret (Sum.inl ()))) fuel 0).bind fun e1 =>
 match e1 with
 | .inl b1 =>
  (Qu (σ:=Int) (ε:=Unit ⊕ Bool) (fun s294 =>
   if s294<p_.s.n then
    (
     (Qu (σ:=Int) (ε:=Bool ⊕ Unit) (fun s330 =>
      if s330<(p_.t.cs.length:Int) then
       (
        ass (0≤s330∧s330<(p_.t.cs.length:Int)) <|
        (Qu (σ:=Int) (ε:=Bool ⊕ Unit) (fun s348 =>
         if s348<((rx p_.t.cs s330).length:Int) then
          ass (0≤s348∧s348<((rx p_.t.cs s330).length:Int)) <|
          (
           if (ix (rx p_.t.cs s330) s348) ≥ 0 then
            ass (0≤ix (rx p_.t.cs s330) s348∧ix (rx p_.t.cs s330) s348<(p_.bh.length:Int)) <|
            ass (0≤s294∧s294<((gx p_.bh (ix (rx p_.t.cs s330) s348)).length:Int)) <|
            ass (0≤s330∧s330<(p_.bh.length:Int)) <|
            ass (0≤s294∧s294<((gx p_.bh s330).length:Int)) <|
            ass (0≤s348∧s348<(p_.bh.length:Int)) <|
            ass (0≤s294∧s294<((gx p_.bh s348).length:Int)) <|
            (Q1c (rx (gx p_.bh s330) s294) (rx (gx p_.bh s348) s294)).bind fun v359 =>
            (Q1k (rx (gx p_.bh (ix (rx p_.t.cs s330) s348)) s294) v359).bind fun v360 =>
            some (!v360)
           else
            some false:Option (Bool)).bind fun b351 =>
          if b351=true then
           some (Ctl.ret (Sum.inl false))
          else
           ass (B64 (s348+1)) <|
           some (Ctl.next (s348+1))
         else
          some (Ctl.ret (Sum.inr ()))) fuel 0).bind fun e348 =>
        match e348 with
        | .inl p348 =>
         some (Sum.inr p348)
        | .inr p348 =>
         some (Sum.inl p348):Option (Unit ⊕ Bool)).bind fun e332 =>
       match e332 with
       | .inl b332 =>
        ass (B64 (s330+1)) <|
        some (Ctl.next (s330+1))
       | .inr p332 =>
        some (Ctl.ret (Sum.inl p332))
      else
       some (Ctl.ret (Sum.inr ()))) fuel 0).bind fun e330 =>
     match e330 with
     | .inl p330 =>
      some (Sum.inr p330)
     | .inr p330 =>
      some (Sum.inl p330):Option (Unit ⊕ Bool)).bind fun e296 =>
    match e296 with
    | .inl b296 =>
     ass (B64 (s294+1)) <|
     some (Ctl.next (s294+1))
    | .inr p296 =>
     some (Ctl.ret (Sum.inr p296))
   else
    some (Ctl.ret (Sum.inl ()))) fuel 0).bind fun e223 =>
  match e223 with
  | .inl b223 =>
   some true
  | .inr p223 =>
   some p223
 | .inr p1 =>
  some p1
theorem Q3q (p_:Prf) (r:Bool) (h:QJ p_=some r):Contract Try.prog 123 [.rptr (p_.cells true)] (.val (.bool r)):=by
 refine Qg (rvs:=[.tmp 2]) (rs:=[.val (.bool r)]) Try.func123 rfl rfl rfl rfl (by simp [Try.f123]) fun F hN hP=>?_;unfold QJ at h;refine Q5 ?_;refine runQ hN fun K hK=>?_;simp [-Q0,-Q7,-Q1,-Q8,-Q2];repeat refine sdQ ?_
 refine hK _ ?_;clear hK K;refine tn ?_;refine Q9 (st':=⟨[(0,.rptr (Prf.cells true p_))],[],0⟩) (wkQ8 []) ?_;refine Q5 ?_;refine runQ hN fun K hK=>?_;simp [-Q0,-Q7,-Q1,-Q8,-Q2];repeat refine sdQ ?_
 refine hK _ ?_;clear hK K;refine tn ?_;refine Q9 (st':=⟨[(0,.rptr (Prf.cells true p_)),(3,.rptr (Prf.cells true p_)),(4,.rptr [iV p_.t.n,lI p_.t.fr,lI p_.t.to,lI p_.t.id,.lst true 1 (Ls p_.t.cs),.lst true 1 (Ls p_.sz),.lst true 1 (Es eL p_.bf),.lst true 1 (Es eL p_.bh)])],[],0⟩) (wkQ8 []) ?_;refine Q5 ?_;refine Q5 ?_;refine runQ hN fun K hK=>?_;simp [-Q0,-Q7,-Q1,-Q8,-Q2];repeat refine sdQ ?_
 refine hK _ ?_;clear hK K;refine tn ?_;refine Q9 (st':=⟨[(0,.rptr (Prf.cells true p_)),(3,.rptr (Prf.cells true p_)),(4,.rptr [iV p_.t.n,lI p_.t.fr,lI p_.t.to,lI p_.t.id,.lst true 1 (Ls p_.t.cs),.lst true 1 (Ls p_.sz),.lst true 1 (Es eL p_.bf),.lst true 1 (Es eL p_.bh)]),(5,iV 0)],[],0⟩) (wkQ8 []) ?_;replace h:=bind_some h;obtain ⟨e1,h,h1⟩:=h;refine Qj (fun b1:Unit=>⟨[(0,.rptr (Prf.cells true p_)),(3,.rptr (Prf.cells true p_)),(4,.rptr [iV p_.t.n,lI p_.t.fr,lI p_.t.to,lI p_.t.id,.lst true 1 (Ls p_.t.cs),.lst true 1 (Ls p_.sz),.lst true 1 (Es eL p_.bf),.lst true 1 (Es eL p_.bh)])],[],0⟩) (fun b1=>Sum.inl b1=e1) ?_ ?_
 ·refine Qa ?_;refine Qr h (fun s112:Int=>⟨[(0,.rptr (Prf.cells true p_)),(3,.rptr (Prf.cells true p_)),(4,.rptr [iV p_.t.n,lI p_.t.fr,lI p_.t.to,lI p_.t.id,.lst true 1 (Ls p_.t.cs),.lst true 1 (Ls p_.sz),.lst true 1 (Es eL p_.bf),.lst true 1 (Es eL p_.bh)]),(5,iV s112)],[],0⟩) (wkQ8 []) ?_;clear h;intro k112 s112 c112 h hk112;refine Q5 ?_;refine Q5 ?_;refine runQ hN fun K hK=>?_;simp [-Q0,-Q7,-Q1,-Q8,-Q2];repeat refine sdQ ?_
  refine hK _ ?_;clear hK K;refine tn ?_;refine Q9 (st':=⟨[(0,.rptr (Prf.cells true p_)),(3,.rptr (Prf.cells true p_)),(4,.rptr [iV p_.t.n,lI p_.t.fr,lI p_.t.to,lI p_.t.id,.lst true 1 (Ls p_.t.cs),.lst true 1 (Ls p_.sz),.lst true 1 (Es eL p_.bf),.lst true 1 (Es eL p_.bh)]),(5,iV s112),(28,.val (.bool (decide (s112<p_.t.n))))],[],0⟩) (wkQ8 []) ?_;refine Qc rfl (fun g=>?_) fun g=>?_
  ·have g113:s112<p_.t.n:=gQ;clear g;replace h:=if_l g113 h;refine Qd ?_;refine tn ?_;refine Q5 ?_;replace h:=bind_some h;obtain ⟨e114,h,h114⟩:=h;refine Qj (fun b114:Unit=>⟨[(0,.rptr (Prf.cells true p_)),(3,.rptr (Prf.cells true p_)),(4,.rptr [iV p_.t.n,lI p_.t.fr,lI p_.t.to,lI p_.t.id,.lst true 1 (Ls p_.t.cs),.lst true 1 (Ls p_.sz),.lst true 1 (Es eL p_.bf),.lst true 1 (Es eL p_.bh)]),(5,iV s112)],[],0⟩) (fun b114=>Sum.inl b114=e114) ?_ ?_
   ·refine Qa ?_;refine Q5 ?_;refine Q5 ?_;refine runQ hN fun K hK=>?_;simp [-Q0,-Q7,-Q1,-Q8,-Q2];(repeat refine sdQ ?_);refine hK _ ?_;clear hK K;refine tn ?_;refine Q9 (st':=⟨[(0,.rptr (Prf.cells true p_)),(3,.rptr (Prf.cells true p_)),(4,.rptr [iV p_.t.n,lI p_.t.fr,lI p_.t.to,lI p_.t.id,.lst true 1 (Ls p_.t.cs),.lst true 1 (Ls p_.sz),.lst true 1 (Es eL p_.bf),.lst true 1 (Es eL p_.bh)]),(5,iV s112),(34,lI p_.s.id),(35,iV (p_.s.id.length:Int)),(36,iV 0)],[],0⟩) (wkQ8 []) ?_;replace h:=bind_some h;obtain ⟨e115,h,h115⟩:=h;refine Qj (fun b115:Unit=>⟨[(0,.rptr (Prf.cells true p_)),(3,.rptr (Prf.cells true p_)),(4,.rptr [iV p_.t.n,lI p_.t.fr,lI p_.t.to,lI p_.t.id,.lst true 1 (Ls p_.t.cs),.lst true 1 (Ls p_.sz),.lst true 1 (Es eL p_.bf),.lst true 1 (Es eL p_.bh)]),(5,iV s112)],[],0⟩) (fun b115=>Sum.inl b115=e115) ?_ ?_
    ·refine Qa ?_;refine Qr h (fun s135:Int=>⟨[(0,.rptr (Prf.cells true p_)),(3,.rptr (Prf.cells true p_)),(4,.rptr [iV p_.t.n,lI p_.t.fr,lI p_.t.to,lI p_.t.id,.lst true 1 (Ls p_.t.cs),.lst true 1 (Ls p_.sz),.lst true 1 (Es eL p_.bf),.lst true 1 (Es eL p_.bh)]),(5,iV s112),(34,lI p_.s.id),(35,iV (p_.s.id.length:Int)),(36,iV s135)],[],0⟩) (wkQ8 []) ?_;clear h;intro k135 s135 c135 h hk135;refine Q5 ?_;refine runQ hN fun K hK=>?_;simp [-Q0,-Q7,-Q1,-Q8,-Q2];(repeat refine sdQ ?_);refine hK _ ?_;clear hK K;refine tn ?_;refine Q9 (st':=⟨[(0,.rptr (Prf.cells true p_)),(3,.rptr (Prf.cells true p_)),(4,.rptr [iV p_.t.n,lI p_.t.fr,lI p_.t.to,lI p_.t.id,.lst true 1 (Ls p_.t.cs),.lst true 1 (Ls p_.sz),.lst true 1 (Es eL p_.bf),.lst true 1 (Es eL p_.bh)]),(5,iV s112),(34,lI p_.s.id),(35,iV (p_.s.id.length:Int)),(36,iV s135),(37,.val (.bool (decide (s135<(p_.s.id.length:Int)))))],[],0⟩) (wkQ8 []) ?_;refine Q5 ?_;refine Qc rfl (fun g=>?_) fun g=>?_
     ·have g136:s135<(p_.s.id.length:Int):=gQ;clear g;replace h:=if_l g136 h;refine Qd ?_;refine tn ?_;refine Q5 ?_;refine Qa ?_;refine Q5 ?_;refine runQ hN fun K hK=>?_;replace h:=Q4 h;obtain ⟨a137,h⟩:=h;simp [-Q0,-Q7,-Q1,-Q8,-Q2,at_I a137];(repeat refine sdQ ?_);refine hK _ ?_;clear hK K;refine tn ?_;refine Q9 (st':=⟨[(0,.rptr (Prf.cells true p_)),(3,.rptr (Prf.cells true p_)),(4,.rptr [iV p_.t.n,lI p_.t.fr,lI p_.t.to,lI p_.t.id,.lst true 1 (Ls p_.t.cs),.lst true 1 (Ls p_.sz),.lst true 1 (Es eL p_.bf),.lst true 1 (Es eL p_.bh)]),(5,iV s112),(6,iV s135),(7,iV (ix p_.s.id s135)),(34,lI p_.s.id),(35,iV (p_.s.id.length:Int)),(36,iV s135)],[],0⟩) (wkQ8 []) ?_;refine Q5 ?_;replace h:=bind_some h;obtain ⟨e138,h,h138⟩:=h;refine Qj (fun b138:Bool=>⟨[(0,.rptr (Prf.cells true p_)),(3,.rptr (Prf.cells true p_)),(4,.rptr [iV p_.t.n,lI p_.t.fr,lI p_.t.to,lI p_.t.id,.lst true 1 (Ls p_.t.cs),.lst true 1 (Ls p_.sz),.lst true 1 (Es eL p_.bf),.lst true 1 (Es eL p_.bh)]),(5,iV s112),(34,lI p_.s.id),(35,iV (p_.s.id.length:Int)),(36,iV s135),(94,.val (.bool b138))],[],0⟩) (fun b138=>b138=e138) ?_ ?_
      ·refine runQ hN fun K hK=>?_;replace h:=Q4 h;obtain ⟨a139,h⟩:=h;replace h:=Q4 h;obtain ⟨a140,h⟩:=h;replace h:=Q4 h;obtain ⟨a141,h⟩:=h;replace h:=Q4 h;obtain ⟨a142,h⟩:=h;simp [-Q0,-Q7,-Q1,-Q8,-Q2,at_E (c:=eL) a139,at_L a140,at_L a141,at_I a142];(repeat with_reducible refine sdQ ?_);replace h:=bind_some h;obtain ⟨v143,hv143,h⟩:=h;refine Q3 (Q4A _ v143 hv143) (.cons .val .nil) ?_;simp [-Q0,-Q7,-Q1,-Q8,-Q2,unk,unA,unE,unT,unC,flat,at_E (c:=eL) a139,at_L a140,at_L a141,at_I a142];(repeat with_reducible refine sdQ ?_);replace h:=bind_some h;obtain ⟨v144,hv144,h⟩:=h;refine Q3 (Q3K _ _ v144 hv144) (.cons .lst (.cons (.whole (by simp) (by simp) (by simp)) .nil)) ?_;simp [-Q0,-Q7,-Q1,-Q8,-Q2,unk,unA,unE,unT,unC,flat,at_E (c:=eL) a139,at_L a140,at_L a141,at_I a142];(repeat with_reducible refine sdQ ?_);refine Qs (fun g=>?_) (fun g=>?_)
       ·have g145:¬ (¬ (v144=true)):=gQ;clear g;replace h:=if_r g145 h;replace h:=Q4 h;obtain ⟨a146,h⟩:=h;replace h:=Q4 h;obtain ⟨a147,h⟩:=h;replace h:=Q4 h;obtain ⟨a148,h⟩:=h;replace h:=Q4 h;obtain ⟨a149,h⟩:=h;replace h:=Q4 h;obtain ⟨a150,h⟩:=h;simp [-Q0,-Q7,-Q1,-Q8,-Q2,at_E (c:=eL) a139,at_L a140,at_L a141,at_I a142,at_I a146,at_E (c:=eL) a147,at_L a148,at_L a149,at_I a150];(repeat with_reducible refine sdQ ?_);replace h:=bind_some h;obtain ⟨v151,hv151,h⟩:=h;refine Q3 (Q4A _ v151 hv151) (.cons .val .nil) ?_;simp [-Q0,-Q7,-Q1,-Q8,-Q2,unk,unA,unE,unT,unC,flat,at_E (c:=eL) a139,at_L a140,at_L a141,at_I a142,at_I a146,at_E (c:=eL) a147,at_L a148,at_L a149,at_I a150];(repeat with_reducible refine sdQ ?_);replace h:=bind_some h;obtain ⟨v152,hv152,h⟩:=h;refine Q3 (Q3K _ _ v152 hv152) (.cons .lst (.cons (.whole (by simp) (by simp) (by simp)) .nil)) ?_;simp [-Q0,-Q7,-Q1,-Q8,-Q2,unk,unA,unE,unT,unC,flat,at_E (c:=eL) a139,at_L a140,at_L a141,at_I a142,at_I a146,at_E (c:=eL) a147,at_L a148,at_L a149,at_I a150];(repeat refine sdQ ?_);refine hK _ ?_;exact jn (b:=!v152) (Option.some.inj h) (wkQ8 [])
       have g145:¬ (v144=true):=gQ;clear g;replace h:=if_l g145 h;simp [-Q0,-Q7,-Q1,-Q8,-Q2,at_E (c:=eL) a139,at_L a140,at_L a141,at_I a142];(repeat refine sdQ ?_);refine hK _ ?_;exact jn (b:=true) (Option.some.inj h) (wkQ8 [])
      intro b138 hb138;have h:=h138;(try rw [← hb138] at h);clear h138;(try dsimp only at h);refine Qc rfl (fun g=>?_) fun g=>?_
      ·have g153:b138=true:=gQ;clear g;replace h:=if_l g153 h;refine Q5 ?_;refine runQ hN fun K hK=>?_;simp [-Q0,-Q7,-Q1,-Q8,-Q2];(repeat refine sdQ ?_);refine hK _ ?_;clear hK K;refine tn ?_;refine Q9 (st':=⟨[(2,.val (.bool false))],[],0⟩) (wkQ8 []) ?_;refine Qh ?_;refine br ?_;refine tr ?_;refine lr ?_;refine br ?_;refine tr ?_;refine br ?_;refine tr ?_;refine lr ?_;refine br ?_;refine tr ?_;cases h;have q:_=e115:=hk135;have h:=h115;rw [← q] at h;clear q;(try dsimp only at h);cases h;have h:=h114;(try dsimp only at h);cases h;have q:_=e1:=hk112;have h:=h1;rw [← q] at h;clear q;(try dsimp only at h);have hr:=Option.some.inj h;rw [← hr];refine ⟨_,(.tmp .nil),?_⟩;refine ⟨(.one rfl rfl .nil),[.val (.bool false)],[],by simp [Prf.cells,UA,U1,IA,I1,LA,L1,BA,B1,EA,E1,E2,eB,eI,eL],by simp,(UpL.refl _)⟩
      have g153:¬ (b138=true):=gQ;clear g;replace h:=if_r g153 h;refine Qd ?_;refine bn ?_;refine tn ?_;refine runQ hN fun K hK=>?_;replace h:=Q4 h;obtain ⟨a154,h⟩:=h;simp [-Q0,-Q7,-Q1,-Q8,-Q2,Qn a154];(repeat refine sdQ ?_);refine hK _ ?_;clear hK K;cases h;exact rn (s':=s135+1) hk135 (wkQ8 [])
     have g136:¬ (s135<(p_.s.id.length:Int)):=gQ;clear g;replace h:=if_r g136 h;refine Ql ?_;refine tx ?_;refine lx ?_;refine bh ?_;cases h;exact jn (b:=()) hk135 (wkQ8 [])
    intro b115 hb115;have h:=h115;(try rw [← hb115] at h);clear h115;(try dsimp only at h);refine Q5 ?_;refine runQ hN fun K hK=>?_;simp [-Q0,-Q7,-Q1,-Q8,-Q2];(repeat refine sdQ ?_);refine hK _ ?_;clear hK K;refine tn ?_;refine Q9 (st':=⟨[(0,.rptr (Prf.cells true p_)),(3,.rptr (Prf.cells true p_)),(4,.rptr [iV p_.t.n,lI p_.t.fr,lI p_.t.to,lI p_.t.id,.lst true 1 (Ls p_.t.cs),.lst true 1 (Ls p_.sz),.lst true 1 (Es eL p_.bf),.lst true 1 (Es eL p_.bh)]),(5,iV s112),(99,.lst true 1 (Ls p_.s.cs)),(100,iV (p_.s.cs.length:Int)),(101,iV 0)],[],0⟩) (wkQ8 []) ?_;refine Qa ?_;replace h:=bind_some h;obtain ⟨e188,he188,h188⟩:=h;refine Qr he188 (fun s188:Int=>⟨[(0,.rptr (Prf.cells true p_)),(3,.rptr (Prf.cells true p_)),(4,.rptr [iV p_.t.n,lI p_.t.fr,lI p_.t.to,lI p_.t.id,.lst true 1 (Ls p_.t.cs),.lst true 1 (Ls p_.sz),.lst true 1 (Es eL p_.bf),.lst true 1 (Es eL p_.bh)]),(5,iV s112),(99,.lst true 1 (Ls p_.s.cs)),(100,iV (p_.s.cs.length:Int)),(101,iV s188)],[],0⟩) (wkQ8 []) ?_;intro k188 s188 c188 h hk188;refine Q5 ?_;refine runQ hN fun K hK=>?_;simp [-Q0,-Q7,-Q1,-Q8,-Q2];(repeat refine sdQ ?_);refine hK _ ?_;clear hK K;refine tn ?_;refine Q9 (st':=⟨[(0,.rptr (Prf.cells true p_)),(3,.rptr (Prf.cells true p_)),(4,.rptr [iV p_.t.n,lI p_.t.fr,lI p_.t.to,lI p_.t.id,.lst true 1 (Ls p_.t.cs),.lst true 1 (Ls p_.sz),.lst true 1 (Es eL p_.bf),.lst true 1 (Es eL p_.bh)]),(5,iV s112),(99,.lst true 1 (Ls p_.s.cs)),(100,iV (p_.s.cs.length:Int)),(101,iV s188),(102,.val (.bool (decide (s188<(p_.s.cs.length:Int)))))],[],0⟩) (wkQ8 []) ?_;refine Q5 ?_;refine Qc rfl (fun g=>?_) fun g=>?_
    ·have g189:s188<(p_.s.cs.length:Int):=gQ;clear g;replace h:=if_l g189 h;refine Qd ?_;refine tn ?_;refine Q5 ?_;replace h:=bind_some h;obtain ⟨e190,h,h190⟩:=h;refine Qj (fun b190:Unit=>⟨[(0,.rptr (Prf.cells true p_)),(3,.rptr (Prf.cells true p_)),(4,.rptr [iV p_.t.n,lI p_.t.fr,lI p_.t.to,lI p_.t.id,.lst true 1 (Ls p_.t.cs),.lst true 1 (Ls p_.sz),.lst true 1 (Es eL p_.bf),.lst true 1 (Es eL p_.bh)]),(5,iV s112),(99,.lst true 1 (Ls p_.s.cs)),(100,iV (p_.s.cs.length:Int)),(101,iV s188)],[],0⟩) (fun b190=>Sum.inl b190=e190) ?_ ?_
     ·refine Qa ?_;refine Q5 ?_;refine runQ hN fun K hK=>?_;replace h:=Q4 h;obtain ⟨a191,h⟩:=h;simp [-Q0,-Q7,-Q1,-Q8,-Q2,at_L a191];(repeat refine sdQ ?_);refine hK _ ?_;clear hK K;refine tn ?_;refine Q9 (st':=⟨[(0,.rptr (Prf.cells true p_)),(3,.rptr (Prf.cells true p_)),(4,.rptr [iV p_.t.n,lI p_.t.fr,lI p_.t.to,lI p_.t.id,.lst true 1 (Ls p_.t.cs),.lst true 1 (Ls p_.sz),.lst true 1 (Es eL p_.bf),.lst true 1 (Es eL p_.bh)]),(5,iV s112),(8,iV s188),(9,lI (rx p_.s.cs s188)),(99,.lst true 1 (Ls p_.s.cs)),(100,iV (p_.s.cs.length:Int)),(101,iV s188)],[],0⟩) (wkQ8 []) ?_;refine Q5 ?_;refine runQ hN fun K hK=>?_;simp [-Q0,-Q7,-Q1,-Q8,-Q2];(repeat refine sdQ ?_);refine hK _ ?_;clear hK K;refine tn ?_;refine Q9 (st':=⟨[(0,.rptr (Prf.cells true p_)),(3,.rptr (Prf.cells true p_)),(4,.rptr [iV p_.t.n,lI p_.t.fr,lI p_.t.to,lI p_.t.id,.lst true 1 (Ls p_.t.cs),.lst true 1 (Ls p_.sz),.lst true 1 (Es eL p_.bf),.lst true 1 (Es eL p_.bh)]),(5,iV s112),(8,iV s188),(99,.lst true 1 (Ls p_.s.cs)),(100,iV (p_.s.cs.length:Int)),(101,iV s188),(106,lI (rx p_.s.cs s188)),(107,iV ((rx p_.s.cs s188).length:Int)),(108,iV 0)],[],0⟩) (wkQ8 []) ?_;refine Qa ?_;replace h:=bind_some h;obtain ⟨e206,he206,h206⟩:=h;refine Qr he206 (fun s206:Int=>⟨[(0,.rptr (Prf.cells true p_)),(3,.rptr (Prf.cells true p_)),(4,.rptr [iV p_.t.n,lI p_.t.fr,lI p_.t.to,lI p_.t.id,.lst true 1 (Ls p_.t.cs),.lst true 1 (Ls p_.sz),.lst true 1 (Es eL p_.bf),.lst true 1 (Es eL p_.bh)]),(5,iV s112),(8,iV s188),(99,.lst true 1 (Ls p_.s.cs)),(100,iV (p_.s.cs.length:Int)),(101,iV s188),(106,lI (rx p_.s.cs s188)),(107,iV ((rx p_.s.cs s188).length:Int)),(108,iV s206)],[],0⟩) (wkQ8 []) ?_;intro k206 s206 c206 h hk206;refine Q5 ?_;refine runQ hN fun K hK=>?_;simp [-Q0,-Q7,-Q1,-Q8,-Q2];(repeat refine sdQ ?_);refine hK _ ?_;clear hK K;refine tn ?_;refine Q9 (st':=⟨[(0,.rptr (Prf.cells true p_)),(3,.rptr (Prf.cells true p_)),(4,.rptr [iV p_.t.n,lI p_.t.fr,lI p_.t.to,lI p_.t.id,.lst true 1 (Ls p_.t.cs),.lst true 1 (Ls p_.sz),.lst true 1 (Es eL p_.bf),.lst true 1 (Es eL p_.bh)]),(5,iV s112),(8,iV s188),(99,.lst true 1 (Ls p_.s.cs)),(100,iV (p_.s.cs.length:Int)),(101,iV s188),(106,lI (rx p_.s.cs s188)),(107,iV ((rx p_.s.cs s188).length:Int)),(108,iV s206),(109,.val (.bool (decide (s206<((rx p_.s.cs s188).length:Int)))))],[],0⟩) (wkQ8 []) ?_;refine Q5 ?_;refine Qc rfl (fun g=>?_) fun g=>?_
      ·have g207:s206<((rx p_.s.cs s188).length:Int):=gQ;clear g;replace h:=if_l g207 h;refine Qd ?_;refine tn ?_;refine Q5 ?_;refine Qa ?_;refine Q5 ?_;refine runQ hN fun K hK=>?_;replace h:=Q4 h;obtain ⟨a208,h⟩:=h;simp [-Q0,-Q7,-Q1,-Q8,-Q2,at_I a208];(repeat refine sdQ ?_);refine hK _ ?_;clear hK K;refine tn ?_;refine Q9 (st':=⟨[(0,.rptr (Prf.cells true p_)),(3,.rptr (Prf.cells true p_)),(4,.rptr [iV p_.t.n,lI p_.t.fr,lI p_.t.to,lI p_.t.id,.lst true 1 (Ls p_.t.cs),.lst true 1 (Ls p_.sz),.lst true 1 (Es eL p_.bf),.lst true 1 (Es eL p_.bh)]),(5,iV s112),(8,iV s188),(10,iV s206),(11,iV (ix (rx p_.s.cs s188) s206)),(99,.lst true 1 (Ls p_.s.cs)),(100,iV (p_.s.cs.length:Int)),(101,iV s188),(106,lI (rx p_.s.cs s188)),(107,iV ((rx p_.s.cs s188).length:Int)),(108,iV s206)],[],0⟩) (wkQ8 []) ?_;refine Q5 ?_;replace h:=bind_some h;obtain ⟨e209,h,h209⟩:=h;refine Qj (fun b209:Bool=>⟨[(0,.rptr (Prf.cells true p_)),(3,.rptr (Prf.cells true p_)),(4,.rptr [iV p_.t.n,lI p_.t.fr,lI p_.t.to,lI p_.t.id,.lst true 1 (Ls p_.t.cs),.lst true 1 (Ls p_.sz),.lst true 1 (Es eL p_.bf),.lst true 1 (Es eL p_.bh)]),(5,iV s112),(8,iV s188),(99,.lst true 1 (Ls p_.s.cs)),(100,iV (p_.s.cs.length:Int)),(101,iV s188),(106,lI (rx p_.s.cs s188)),(107,iV ((rx p_.s.cs s188).length:Int)),(108,iV s206),(149,.val (.bool b209))],[],0⟩) (fun b209=>b209=e209) ?_ ?_
       ·refine runQ hN fun K hK=>?_;simp [-Q0,-Q7,-Q1,-Q8,-Q2];(repeat with_reducible refine sdQ ?_);refine Qs (fun g=>?_) (fun g=>?_)
        ·have g210:(ix (rx p_.s.cs s188) s206) ≥ 0:=gQ;clear g;replace h:=if_l g210 h;replace h:=Q4 h;obtain ⟨a211,h⟩:=h;replace h:=Q4 h;obtain ⟨a212,h⟩:=h;replace h:=Q4 h;obtain ⟨a213,h⟩:=h;replace h:=Q4 h;obtain ⟨a214,h⟩:=h;replace h:=Q4 h;obtain ⟨a215,h⟩:=h;replace h:=Q4 h;obtain ⟨a216,h⟩:=h;simp [-Q0,-Q7,-Q1,-Q8,-Q2,at_E (c:=eL) a211,at_L a212,at_E (c:=eL) a213,at_L a214,at_E (c:=eL) a215,at_L a216];(repeat with_reducible refine sdQ ?_);replace h:=bind_some h;obtain ⟨v217,hv217,h⟩:=h;refine Q3 (Q4e _ _ v217 hv217) (.cons .lst (.cons .lst .nil)) ?_;simp [-Q0,-Q7,-Q1,-Q8,-Q2,unk,unA,unE,unT,unC,flat,at_E (c:=eL) a211,at_L a212,at_E (c:=eL) a213,at_L a214,at_E (c:=eL) a215,at_L a216];(repeat with_reducible refine sdQ ?_);replace h:=bind_some h;obtain ⟨v218,hv218,h⟩:=h;refine Q3 (Q3K _ _ v218 hv218) (.cons .lst (.cons (.whole (by simp) (by simp) (by simp)) .nil)) ?_;simp [-Q0,-Q7,-Q1,-Q8,-Q2,unk,unA,unE,unT,unC,flat,at_E (c:=eL) a211,at_L a212,at_E (c:=eL) a213,at_L a214,at_E (c:=eL) a215,at_L a216];(repeat refine sdQ ?_);refine hK _ ?_;exact jn (b:=!v218) (Option.some.inj h) (wkQ8 [])
        have g210:¬ ((ix (rx p_.s.cs s188) s206) ≥ 0):=gQ;clear g;replace h:=if_r g210 h;simp [-Q0,-Q7,-Q1,-Q8,-Q2];(repeat refine sdQ ?_);refine hK _ ?_;exact jn (b:=false) (Option.some.inj h) (wkQ8 [])
       intro b209 hb209;have h:=h209;(try rw [← hb209] at h);clear h209;(try dsimp only at h);refine Qc rfl (fun g=>?_) fun g=>?_
       ·have g219:b209=true:=gQ;clear g;replace h:=if_l g219 h;refine Q5 ?_;refine runQ hN fun K hK=>?_;simp [-Q0,-Q7,-Q1,-Q8,-Q2];(repeat refine sdQ ?_);refine hK _ ?_;clear hK K;refine tn ?_;refine Q9 (st':=⟨[(2,.val (.bool false))],[],0⟩) (wkQ8 []) ?_;refine Qh ?_;refine br ?_;refine tr ?_;refine lr ?_;refine br ?_;refine br ?_;refine tr ?_;refine lr ?_;refine br ?_;refine br ?_;refine tr ?_;refine lr ?_;refine br ?_;refine tr ?_;cases h;have q:_=e206:=hk206;have h:=h206;rw [← q] at h;clear q;(try dsimp only at h);cases h;have h:=h190;(try dsimp only at h);cases h;have q:_=e188:=hk188;have h:=h188;rw [← q] at h;clear q;(try dsimp only at h);cases h;have h:=h114;(try dsimp only at h);cases h;have q:_=e1:=hk112;have h:=h1;rw [← q] at h;clear q;(try dsimp only at h);have hr:=Option.some.inj h;rw [← hr];refine ⟨_,(.tmp .nil),?_⟩;refine ⟨(.one rfl rfl .nil),[.val (.bool false)],[],by simp [Prf.cells,UA,U1,IA,I1,LA,L1,BA,B1,EA,E1,E2,eB,eI,eL],by simp,(UpL.refl _)⟩
       have g219:¬ (b209=true):=gQ;clear g;replace h:=if_r g219 h;refine Qd ?_;refine bn ?_;refine tn ?_;refine runQ hN fun K hK=>?_;replace h:=Q4 h;obtain ⟨a220,h⟩:=h;simp [-Q0,-Q7,-Q1,-Q8,-Q2,Qn a220];(repeat refine sdQ ?_);refine hK _ ?_;clear hK K;cases h;exact rn (s':=s206+1) hk206 (wkQ8 [])
      have g207:¬ (s206<((rx p_.s.cs s188).length:Int)):=gQ;clear g;replace h:=if_r g207 h;refine Ql ?_;refine tx ?_;refine lx ?_;refine bh ?_;refine bn ?_;cases h;have q:_=e206:=hk206;have h:=h206;rw [← q] at h;clear q;(try dsimp only at h);exact jn (b:=()) (Option.some.inj h) (wkQ8 [])
     intro b190 hb190;have h:=h190;(try rw [← hb190] at h);clear h190;(try dsimp only at h);refine runQ hN fun K hK=>?_;replace h:=Q4 h;obtain ⟨a221,h⟩:=h;simp [-Q0,-Q7,-Q1,-Q8,-Q2,Qn a221];(repeat refine sdQ ?_);refine hK _ ?_;clear hK K;cases h;exact rn (s':=s188+1) hk188 (wkQ8 [])
    have g189:¬ (s188<(p_.s.cs.length:Int)):=gQ;clear g;replace h:=if_r g189 h;refine Ql ?_;refine tx ?_;refine lx ?_;refine bh ?_;refine bn ?_;cases h;have q:_=e188:=hk188;have h:=h188;rw [← q] at h;clear q;(try dsimp only at h);exact jn (b:=()) (Option.some.inj h) (wkQ8 [])
   intro b114 hb114;have h:=h114;(try rw [← hb114] at h);clear h114;(try dsimp only at h);refine runQ hN fun K hK=>?_;replace h:=Q4 h;obtain ⟨a222,h⟩:=h;simp [-Q0,-Q7,-Q1,-Q8,-Q2,Qn a222];(repeat refine sdQ ?_);refine hK _ ?_;clear hK K;cases h;exact rn (s':=s112+1) hk112 (wkQ8 [])
  have g113:¬ (s112<p_.t.n):=gQ;clear g;replace h:=if_r g113 h;refine Ql ?_;refine tx ?_;refine lx ?_;refine bh ?_;cases h;exact jn (b:=()) hk112 (wkQ8 [])
 intro b1 hb1;have h:=h1;try rw [← hb1] at h
 clear h1;try dsimp only at h
 refine Q5 ?_;refine Q5 ?_;refine runQ hN fun K hK=>?_;simp [-Q0,-Q7,-Q1,-Q8,-Q2];repeat refine sdQ ?_
 refine hK _ ?_;clear hK K;refine tn ?_;refine Q9 (st':=⟨[(0,.rptr (Prf.cells true p_)),(3,.rptr (Prf.cells true p_)),(4,.rptr [iV p_.t.n,lI p_.t.fr,lI p_.t.to,lI p_.t.id,.lst true 1 (Ls p_.t.cs),.lst true 1 (Ls p_.sz),.lst true 1 (Es eL p_.bf),.lst true 1 (Es eL p_.bh)]),(12,iV 0)],[],0⟩) (wkQ8 []) ?_;replace h:=bind_some h;obtain ⟨e223,h,h223⟩:=h;refine Qj (fun b223:Unit=>⟨[],[],0⟩) (fun b223=>Sum.inl b223=e223) ?_ ?_
 ·refine Qa ?_;refine Qr h (fun s294:Int=>⟨[(0,.rptr (Prf.cells true p_)),(3,.rptr (Prf.cells true p_)),(4,.rptr [iV p_.t.n,lI p_.t.fr,lI p_.t.to,lI p_.t.id,.lst true 1 (Ls p_.t.cs),.lst true 1 (Ls p_.sz),.lst true 1 (Es eL p_.bf),.lst true 1 (Es eL p_.bh)]),(12,iV s294)],[],0⟩) (wkQ8 []) ?_;clear h;intro k294 s294 c294 h hk294;refine Q5 ?_;refine Q5 ?_;refine runQ hN fun K hK=>?_;simp [-Q0,-Q7,-Q1,-Q8,-Q2];repeat refine sdQ ?_
  refine hK _ ?_;clear hK K;refine tn ?_;refine Q9 (st':=⟨[(0,.rptr (Prf.cells true p_)),(3,.rptr (Prf.cells true p_)),(4,.rptr [iV p_.t.n,lI p_.t.fr,lI p_.t.to,lI p_.t.id,.lst true 1 (Ls p_.t.cs),.lst true 1 (Ls p_.sz),.lst true 1 (Es eL p_.bf),.lst true 1 (Es eL p_.bh)]),(12,iV s294),(157,.val (.bool (decide (s294<p_.s.n))))],[],0⟩) (wkQ8 []) ?_;refine Qc rfl (fun g=>?_) fun g=>?_
  ·have g295:s294<p_.s.n:=gQ;clear g;replace h:=if_l g295 h;refine Qd ?_;refine tn ?_;refine Q5 ?_;replace h:=bind_some h;obtain ⟨e296,h,h296⟩:=h;refine Qj (fun b296:Unit=>⟨[(0,.rptr (Prf.cells true p_)),(3,.rptr (Prf.cells true p_)),(4,.rptr [iV p_.t.n,lI p_.t.fr,lI p_.t.to,lI p_.t.id,.lst true 1 (Ls p_.t.cs),.lst true 1 (Ls p_.sz),.lst true 1 (Es eL p_.bf),.lst true 1 (Es eL p_.bh)]),(12,iV s294)],[],0⟩) (fun b296=>Sum.inl b296=e296) ?_ ?_
   ·refine Qa ?_;refine Q5 ?_;refine runQ hN fun K hK=>?_;simp [-Q0,-Q7,-Q1,-Q8,-Q2];(repeat refine sdQ ?_);refine hK _ ?_;clear hK K;refine tn ?_;refine Q9 (st':=⟨[(0,.rptr (Prf.cells true p_)),(3,.rptr (Prf.cells true p_)),(4,.rptr [iV p_.t.n,lI p_.t.fr,lI p_.t.to,lI p_.t.id,.lst true 1 (Ls p_.t.cs),.lst true 1 (Ls p_.sz),.lst true 1 (Es eL p_.bf),.lst true 1 (Es eL p_.bh)]),(12,iV s294),(163,.lst true 1 (Ls p_.t.cs)),(164,iV (p_.t.cs.length:Int)),(165,iV 0)],[],0⟩) (wkQ8 []) ?_;refine Qa ?_;replace h:=bind_some h;obtain ⟨e330,he330,h330⟩:=h;refine Qr he330 (fun s330:Int=>⟨[(0,.rptr (Prf.cells true p_)),(3,.rptr (Prf.cells true p_)),(4,.rptr [iV p_.t.n,lI p_.t.fr,lI p_.t.to,lI p_.t.id,.lst true 1 (Ls p_.t.cs),.lst true 1 (Ls p_.sz),.lst true 1 (Es eL p_.bf),.lst true 1 (Es eL p_.bh)]),(12,iV s294),(163,.lst true 1 (Ls p_.t.cs)),(164,iV (p_.t.cs.length:Int)),(165,iV s330)],[],0⟩) (wkQ8 []) ?_;intro k330 s330 c330 h hk330;refine Q5 ?_;refine runQ hN fun K hK=>?_;simp [-Q0,-Q7,-Q1,-Q8,-Q2];(repeat refine sdQ ?_);refine hK _ ?_;clear hK K;refine tn ?_;refine Q9 (st':=⟨[(0,.rptr (Prf.cells true p_)),(3,.rptr (Prf.cells true p_)),(4,.rptr [iV p_.t.n,lI p_.t.fr,lI p_.t.to,lI p_.t.id,.lst true 1 (Ls p_.t.cs),.lst true 1 (Ls p_.sz),.lst true 1 (Es eL p_.bf),.lst true 1 (Es eL p_.bh)]),(12,iV s294),(163,.lst true 1 (Ls p_.t.cs)),(164,iV (p_.t.cs.length:Int)),(165,iV s330),(166,.val (.bool (decide (s330<(p_.t.cs.length:Int)))))],[],0⟩) (wkQ8 []) ?_;refine Q5 ?_;refine Qc rfl (fun g=>?_) fun g=>?_
    ·have g331:s330<(p_.t.cs.length:Int):=gQ;clear g;replace h:=if_l g331 h;refine Qd ?_;refine tn ?_;refine Q5 ?_;replace h:=bind_some h;obtain ⟨e332,h,h332⟩:=h;refine Qj (fun b332:Unit=>⟨[(0,.rptr (Prf.cells true p_)),(3,.rptr (Prf.cells true p_)),(4,.rptr [iV p_.t.n,lI p_.t.fr,lI p_.t.to,lI p_.t.id,.lst true 1 (Ls p_.t.cs),.lst true 1 (Ls p_.sz),.lst true 1 (Es eL p_.bf),.lst true 1 (Es eL p_.bh)]),(12,iV s294),(163,.lst true 1 (Ls p_.t.cs)),(164,iV (p_.t.cs.length:Int)),(165,iV s330)],[],0⟩) (fun b332=>Sum.inl b332=e332) ?_ ?_
     ·refine Qa ?_;refine Q5 ?_;refine runQ hN fun K hK=>?_;replace h:=Q4 h;obtain ⟨a333,h⟩:=h;simp [-Q0,-Q7,-Q1,-Q8,-Q2,at_L a333];(repeat refine sdQ ?_);refine hK _ ?_;clear hK K;refine tn ?_;refine Q9 (st':=⟨[(0,.rptr (Prf.cells true p_)),(3,.rptr (Prf.cells true p_)),(4,.rptr [iV p_.t.n,lI p_.t.fr,lI p_.t.to,lI p_.t.id,.lst true 1 (Ls p_.t.cs),.lst true 1 (Ls p_.sz),.lst true 1 (Es eL p_.bf),.lst true 1 (Es eL p_.bh)]),(12,iV s294),(13,iV s330),(14,lI (rx p_.t.cs s330)),(163,.lst true 1 (Ls p_.t.cs)),(164,iV (p_.t.cs.length:Int)),(165,iV s330)],[],0⟩) (wkQ8 []) ?_;refine Q5 ?_;refine runQ hN fun K hK=>?_;simp [-Q0,-Q7,-Q1,-Q8,-Q2];(repeat refine sdQ ?_);refine hK _ ?_;clear hK K;refine tn ?_;refine Q9 (st':=⟨[(0,.rptr (Prf.cells true p_)),(3,.rptr (Prf.cells true p_)),(4,.rptr [iV p_.t.n,lI p_.t.fr,lI p_.t.to,lI p_.t.id,.lst true 1 (Ls p_.t.cs),.lst true 1 (Ls p_.sz),.lst true 1 (Es eL p_.bf),.lst true 1 (Es eL p_.bh)]),(12,iV s294),(13,iV s330),(163,.lst true 1 (Ls p_.t.cs)),(164,iV (p_.t.cs.length:Int)),(165,iV s330),(170,lI (rx p_.t.cs s330)),(171,iV ((rx p_.t.cs s330).length:Int)),(172,iV 0)],[],0⟩) (wkQ8 []) ?_;refine Qa ?_;replace h:=bind_some h;obtain ⟨e348,he348,h348⟩:=h;refine Qr he348 (fun s348:Int=>⟨[(0,.rptr (Prf.cells true p_)),(3,.rptr (Prf.cells true p_)),(4,.rptr [iV p_.t.n,lI p_.t.fr,lI p_.t.to,lI p_.t.id,.lst true 1 (Ls p_.t.cs),.lst true 1 (Ls p_.sz),.lst true 1 (Es eL p_.bf),.lst true 1 (Es eL p_.bh)]),(12,iV s294),(13,iV s330),(163,.lst true 1 (Ls p_.t.cs)),(164,iV (p_.t.cs.length:Int)),(165,iV s330),(170,lI (rx p_.t.cs s330)),(171,iV ((rx p_.t.cs s330).length:Int)),(172,iV s348)],[],0⟩) (wkQ8 []) ?_;intro k348 s348 c348 h hk348;refine Q5 ?_;refine runQ hN fun K hK=>?_;simp [-Q0,-Q7,-Q1,-Q8,-Q2];(repeat refine sdQ ?_);refine hK _ ?_;clear hK K;refine tn ?_;refine Q9 (st':=⟨[(0,.rptr (Prf.cells true p_)),(3,.rptr (Prf.cells true p_)),(4,.rptr [iV p_.t.n,lI p_.t.fr,lI p_.t.to,lI p_.t.id,.lst true 1 (Ls p_.t.cs),.lst true 1 (Ls p_.sz),.lst true 1 (Es eL p_.bf),.lst true 1 (Es eL p_.bh)]),(12,iV s294),(13,iV s330),(163,.lst true 1 (Ls p_.t.cs)),(164,iV (p_.t.cs.length:Int)),(165,iV s330),(170,lI (rx p_.t.cs s330)),(171,iV ((rx p_.t.cs s330).length:Int)),(172,iV s348),(173,.val (.bool (decide (s348<((rx p_.t.cs s330).length:Int)))))],[],0⟩) (wkQ8 []) ?_;refine Q5 ?_;refine Qc rfl (fun g=>?_) fun g=>?_
      ·have g349:s348<((rx p_.t.cs s330).length:Int):=gQ;clear g;replace h:=if_l g349 h;refine Qd ?_;refine tn ?_;refine Q5 ?_;refine Qa ?_;refine Q5 ?_;refine runQ hN fun K hK=>?_;replace h:=Q4 h;obtain ⟨a350,h⟩:=h;simp [-Q0,-Q7,-Q1,-Q8,-Q2,at_I a350];(repeat refine sdQ ?_);refine hK _ ?_;clear hK K;refine tn ?_;refine Q9 (st':=⟨[(0,.rptr (Prf.cells true p_)),(3,.rptr (Prf.cells true p_)),(4,.rptr [iV p_.t.n,lI p_.t.fr,lI p_.t.to,lI p_.t.id,.lst true 1 (Ls p_.t.cs),.lst true 1 (Ls p_.sz),.lst true 1 (Es eL p_.bf),.lst true 1 (Es eL p_.bh)]),(12,iV s294),(13,iV s330),(15,iV s348),(16,iV (ix (rx p_.t.cs s330) s348)),(163,.lst true 1 (Ls p_.t.cs)),(164,iV (p_.t.cs.length:Int)),(165,iV s330),(170,lI (rx p_.t.cs s330)),(171,iV ((rx p_.t.cs s330).length:Int)),(172,iV s348)],[],0⟩) (wkQ8 []) ?_;refine Q5 ?_;replace h:=bind_some h;obtain ⟨e351,h,h351⟩:=h;refine Qj (fun b351:Bool=>⟨[(0,.rptr (Prf.cells true p_)),(3,.rptr (Prf.cells true p_)),(4,.rptr [iV p_.t.n,lI p_.t.fr,lI p_.t.to,lI p_.t.id,.lst true 1 (Ls p_.t.cs),.lst true 1 (Ls p_.sz),.lst true 1 (Es eL p_.bf),.lst true 1 (Es eL p_.bh)]),(12,iV s294),(13,iV s330),(163,.lst true 1 (Ls p_.t.cs)),(164,iV (p_.t.cs.length:Int)),(165,iV s330),(170,lI (rx p_.t.cs s330)),(171,iV ((rx p_.t.cs s330).length:Int)),(172,iV s348),(213,.val (.bool b351))],[],0⟩) (fun b351=>b351=e351) ?_ ?_
       ·refine runQ hN fun K hK=>?_;simp [-Q0,-Q7,-Q1,-Q8,-Q2];(repeat with_reducible refine sdQ ?_);refine Qs (fun g=>?_) (fun g=>?_)
        ·have g352:(ix (rx p_.t.cs s330) s348) ≥ 0:=gQ;clear g;replace h:=if_l g352 h;replace h:=Q4 h;obtain ⟨a353,h⟩:=h;replace h:=Q4 h;obtain ⟨a354,h⟩:=h;replace h:=Q4 h;obtain ⟨a355,h⟩:=h;replace h:=Q4 h;obtain ⟨a356,h⟩:=h;replace h:=Q4 h;obtain ⟨a357,h⟩:=h;replace h:=Q4 h;obtain ⟨a358,h⟩:=h;simp [-Q0,-Q7,-Q1,-Q8,-Q2,at_E (c:=eL) a353,at_L a354,at_E (c:=eL) a355,at_L a356,at_E (c:=eL) a357,at_L a358];(repeat with_reducible refine sdQ ?_);replace h:=bind_some h;obtain ⟨v359,hv359,h⟩:=h;refine Q3 (Q4e _ _ v359 hv359) (.cons .lst (.cons .lst .nil)) ?_;simp [-Q0,-Q7,-Q1,-Q8,-Q2,unk,unA,unE,unT,unC,flat,at_E (c:=eL) a353,at_L a354,at_E (c:=eL) a355,at_L a356,at_E (c:=eL) a357,at_L a358];(repeat with_reducible refine sdQ ?_);replace h:=bind_some h;obtain ⟨v360,hv360,h⟩:=h;refine Q3 (Q3K _ _ v360 hv360) (.cons .lst (.cons (.whole (by simp) (by simp) (by simp)) .nil)) ?_;simp [-Q0,-Q7,-Q1,-Q8,-Q2,unk,unA,unE,unT,unC,flat,at_E (c:=eL) a353,at_L a354,at_E (c:=eL) a355,at_L a356,at_E (c:=eL) a357,at_L a358];(repeat refine sdQ ?_);refine hK _ ?_;exact jn (b:=!v360) (Option.some.inj h) (wkQ8 [])
        have g352:¬ ((ix (rx p_.t.cs s330) s348) ≥ 0):=gQ;clear g;replace h:=if_r g352 h;simp [-Q0,-Q7,-Q1,-Q8,-Q2];(repeat refine sdQ ?_);refine hK _ ?_;exact jn (b:=false) (Option.some.inj h) (wkQ8 [])
       intro b351 hb351;have h:=h351;(try rw [← hb351] at h);clear h351;(try dsimp only at h);refine Qc rfl (fun g=>?_) fun g=>?_
       ·have g361:b351=true:=gQ;clear g;replace h:=if_l g361 h;refine Q5 ?_;refine runQ hN fun K hK=>?_;simp [-Q0,-Q7,-Q1,-Q8,-Q2];(repeat refine sdQ ?_);refine hK _ ?_;clear hK K;refine tn ?_;refine Q9 (st':=⟨[(2,.val (.bool false))],[],0⟩) (wkQ8 []) ?_;refine Qh ?_;refine br ?_;refine tr ?_;refine lr ?_;refine br ?_;refine br ?_;refine tr ?_;refine lr ?_;refine br ?_;refine br ?_;refine tr ?_;refine lr ?_;refine br ?_;refine tr ?_;cases h;have q:_=e348:=hk348;have h:=h348;rw [← q] at h;clear q;(try dsimp only at h);cases h;have h:=h332;(try dsimp only at h);cases h;have q:_=e330:=hk330;have h:=h330;rw [← q] at h;clear q;(try dsimp only at h);cases h;have h:=h296;(try dsimp only at h);cases h;have q:_=e223:=hk294;have h:=h223;rw [← q] at h;clear q;(try dsimp only at h);have hr:=Option.some.inj h;rw [← hr];refine ⟨_,(.tmp .nil),?_⟩;refine ⟨(.one rfl rfl .nil),[.val (.bool false)],[],by simp [Prf.cells,UA,U1,IA,I1,LA,L1,BA,B1,EA,E1,E2,eB,eI,eL],by simp,(UpL.refl _)⟩
       have g361:¬ (b351=true):=gQ;clear g;replace h:=if_r g361 h;refine Qd ?_;refine bn ?_;refine tn ?_;refine runQ hN fun K hK=>?_;replace h:=Q4 h;obtain ⟨a362,h⟩:=h;simp [-Q0,-Q7,-Q1,-Q8,-Q2,Qn a362];(repeat refine sdQ ?_);refine hK _ ?_;clear hK K;cases h;exact rn (s':=s348+1) hk348 (wkQ8 [])
      have g349:¬ (s348<((rx p_.t.cs s330).length:Int)):=gQ;clear g;replace h:=if_r g349 h;refine Ql ?_;refine tx ?_;refine lx ?_;refine bh ?_;refine bn ?_;cases h;have q:_=e348:=hk348;have h:=h348;rw [← q] at h;clear q;(try dsimp only at h);exact jn (b:=()) (Option.some.inj h) (wkQ8 [])
     intro b332 hb332;have h:=h332;(try rw [← hb332] at h);clear h332;(try dsimp only at h);refine runQ hN fun K hK=>?_;replace h:=Q4 h;obtain ⟨a363,h⟩:=h;simp [-Q0,-Q7,-Q1,-Q8,-Q2,Qn a363];(repeat refine sdQ ?_);refine hK _ ?_;clear hK K;cases h;exact rn (s':=s330+1) hk330 (wkQ8 [])
    have g331:¬ (s330<(p_.t.cs.length:Int)):=gQ;clear g;replace h:=if_r g331 h;refine Ql ?_;refine tx ?_;refine lx ?_;refine bh ?_;refine bn ?_;cases h;have q:_=e330:=hk330;have h:=h330;rw [← q] at h;clear q;(try dsimp only at h);exact jn (b:=()) (Option.some.inj h) (wkQ8 [])
   intro b296 hb296;have h:=h296;(try rw [← hb296] at h);clear h296;(try dsimp only at h);refine runQ hN fun K hK=>?_;replace h:=Q4 h;obtain ⟨a364,h⟩:=h;simp [-Q0,-Q7,-Q1,-Q8,-Q2,Qn a364];(repeat refine sdQ ?_);refine hK _ ?_;clear hK K;cases h;exact rn (s':=s294+1) hk294 (wkQ8 [])
  have g295:¬ (s294<p_.s.n):=gQ;clear g;replace h:=if_r g295 h;refine Ql ?_;refine tx ?_;refine lx ?_;refine bh ?_;cases h;exact jn (b:=()) hk294 (wkQ8 [])
 intro b223 hb223;have h:=h223;try rw [← hb223] at h
 clear h223;try dsimp only at h
 refine Q5 ?_;refine runQ hN fun K hK=>?_;simp [-Q0,-Q7,-Q1,-Q8,-Q2];repeat refine sdQ ?_
 refine hK _ ?_;clear hK K;refine tn ?_;refine Q9 (st':=⟨[(2,.val (.bool true))],[],0⟩) (wkQ8 []) ?_;refine Qh ?_;have hr:=Option.some.inj h;rw [← hr];refine ⟨_,(.tmp .nil),?_⟩;refine ⟨(.one rfl rfl .nil),[.val (.bool true)],[],by simp [Prf.cells,UA,U1,IA,I1,LA,L1,BA,B1,EA,E1,E2,eB,eI,eL],by simp,(UpL.refl _)⟩
end Go.Vc.T
