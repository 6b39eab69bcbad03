/- A part of the proof: a verified generator of conditions, and what each function of the program does. -/
import Derived.Test.YtbpjpnccoeedoaaD7
set_option maxRecDepth 100000
set_option maxHeartbeats 4000000
set_option linter.unusedSimpArgs false
set_option linter.unusedVariables false

namespace Go.Vc.T
open Go Go.Vc Go.Proofs
def Es {α:Type} (c:α→List AV) (xs:List α):List (List AV):=xs.map c
def gx {α:Type} [Inhabited α] (xs:List α) (j:Int):α:=xs.getD j.toNat default
def eB (b:Bool):List AV:=[.val (.bool b)]
def eI (b:Int):List AV:=[iV b]
def eL (x:List (List Int)):List AV:=[.lst true 1 (Ls x)]
section
variable {α:Type} {c:α→List AV}
@[simp] theorem Es_length (xs:List α):(Es c xs).length=xs.length:=by simp [Es]
@[simp] theorem Es_nil:Es c []=[]:=rfl
theorem Es_append (xs ys:List α):Es c (xs++ys)=Es c xs++Es c ys:=by simp [Es]
theorem Es_set' (xs:List α) (i:Nat) (x:α):Es c (xs.set i x)=(Es c xs).set i (c x):=by simp [Es,List.map_set]
theorem at_E [Inhabited α] {xs:List α} {j:Int} (h:0≤j∧j<(xs.length:Int)):(Es c xs)[j.toNat]? = some (c (gx xs j)):=by
 have h2:j.toNat<xs.length:=by omega
 simp [Es,gx,List.getD_eq_getElem?_getD,h2]
end
@[simp] theorem Ls_nil':Ls []=[]:=rfl
theorem Ls_append (xs ys:List (List Int)):Ls (xs++ys)=Ls xs++Ls ys:=by simp [Ls]
theorem at_I {xs:List Int} {j:Int} (h:0≤j∧j<(xs.length:Int)):(Is xs)[j.toNat]? = some [iV (ix xs j)]:=by
 have h2:j.toNat<xs.length:=by omega
 simp [Is,ix,List.getD_eq_getElem?_getD,h2]
theorem at_L {xs:List (List Int)} {j:Int} (h:0≤j∧j<(xs.length:Int)):(Ls xs)[j.toNat]? = some [lI (rx xs j)]:=by
 have h2:j.toNat<xs.length:=by omega
 simp [Ls,rx,List.getD_eq_getElem?_getD,h2]
@[simp] theorem Is_takeE (xs:List Int) (k:Nat):List.take k (Is xs)=Is (xs.take k):=by simp [Is,List.map_take]
@[simp] theorem Ls_takeA (xs:List (List Int)):List.take xs.length (Ls xs)=Ls xs:=List.take_of_length_le (by simp)
@[simp] theorem u8_min:IntKind.u8.min=0:=rfl
@[simp] theorem u8_max:IntKind.u8.max=255:=rfl
@[simp] theorem Bs_nil':Bs []=[]:=rfl
theorem Bs_append (xs ys:List Bool):Bs (xs++ys)=Bs xs++Bs ys:=by simp [Bs]
theorem at_B {xs:List Bool} {j:Int} (h:0≤j∧j<(xs.length:Int)):(Bs xs)[j.toNat]? = some [.val (.bool (gx xs j))]:=by
 have h2:j.toNat<xs.length:=by omega
 simp [Bs,gx,List.getD_eq_getElem?_getD,h2]
theorem IA (xs ys:List Int):Is (xs++ys)=Is xs++Is ys:=Is_append xs ys
theorem I1 (x:Int) (xs:List Int):Is (x :: xs)=[iV x] :: Is xs:=rfl
theorem LA (xs ys:List (List Int)):Ls (xs++ys)=Ls xs++Ls ys:=Ls_append xs ys
theorem L1 (x:List Int) (xs:List (List Int)):Ls (x :: xs)=[lI x] :: Ls xs:=rfl
theorem BA (xs ys:List Bool):Bs (xs++ys)=Bs xs++Bs ys:=Bs_append xs ys
theorem B1 (x:Bool) (xs:List Bool):Bs (x :: xs)=[.val (.bool x)] :: Bs xs:=rfl
theorem EA {α:Type} {c:α→List AV} (xs ys:List α):Es c (xs++ys)=Es c xs++Es c ys:=Es_append xs ys
theorem E1 {α:Type} {c:α→List AV} (x:α) (xs:List α):Es c (x :: xs)=c x :: Es c xs:=rfl
theorem E2 {α:Type} {c:α→List AV} (xs:List α) (i:Nat) (x:α):Es c (xs.set i x)=(Es c xs).set i (c x):=Es_set' xs i x
def QC (x:Cat):List AV:=[.rptr (x.cells true)]
def Q4n (x:Fn):List AV:=[.rptr (x.cells true)]
instance:Inhabited Cat:=⟨⟨0,[],[],[],[]⟩⟩
instance:Inhabited Fn:=⟨⟨default,default,[],[]⟩⟩
structure Ends where
 a:Int
 b:Int
def Ends.cells (u:Bool) (f:Ends):List AV:=[iV f.a,iV f.b]
structure Prf where
 s:Cat
 t:Cat
 sz:List (List Int)
 bf:List (List (List Int))
 bh:List (List (List Int))
def Prf.cells (u:Bool) (f:Prf):List AV:=[iV f.s.n,.lst u 1 (Is f.s.fr),.lst u 1 (Is f.s.to),.lst u 1 (Is f.s.id),.lst u 1 (Ls f.s.cs),iV f.t.n,.lst u 1 (Is f.t.fr),.lst u 1 (Is f.t.to),.lst u 1 (Is f.t.id),.lst u 1 (Ls f.t.cs),.lst u 1 (Ls f.sz),.lst u 1 (Es eL f.bf),.lst u 1 (Es eL f.bh)]
structure XTerm where
 variable_:Int
 arrow_:Int
def XTerm.cells (u:Bool) (f:XTerm):List AV:=[iV f.variable_,iV f.arrow_]
structure XQuery where
 variables_:List Int
 left_:List XTerm
 right_:List XTerm
 output_:List Int
def XQuery.cells (u:Bool) (f:XQuery):List AV:=[.lst u 1 (Is f.variables_),.lst u 2 (Es (XTerm.cells true) f.left_),.lst u 2 (Es (XTerm.cells true) f.right_),.lst u 1 (Is f.output_)]
structure XL20Space where
 c_:Cat
 objects_:List (List Int)
 arrows_:List (List Int)
def XL20Space.cells (u:Bool) (f:XL20Space):List AV:=[iV f.c_.n,.lst u 1 (Is f.c_.fr),.lst u 1 (Is f.c_.to),.lst u 1 (Is f.c_.id),.lst u 1 (Ls f.c_.cs),.lst u 1 (Ls f.objects_),.lst u 1 (Ls f.arrows_)]
structure XPairint64 where
 first_:Int
 second_:Int
def XPairint64.cells (u:Bool) (f:XPairint64):List AV:=[iV f.first_,iV f.second_]
structure XTotal where
 category_:Cat
 objects_:List (List Int)
 arrows_:List (List Int)
def XTotal.cells (u:Bool) (f:XTotal):List AV:=[iV f.category_.n,.lst u 1 (Is f.category_.fr),.lst u 1 (Is f.category_.to),.lst u 1 (Is f.category_.id),.lst u 1 (Ls f.category_.cs),.lst u 1 (Ls f.objects_),.lst u 1 (Ls f.arrows_)]
@[simp] theorem ef_187:elm Try.prog 187=some 2:=by kernel_rfl
@[simp] theorem ef_207:elm Try.prog 207=some 2:=by kernel_rfl
@[simp] theorem ef_223:elm Try.prog 223=some 101:=by kernel_rfl
@[simp] theorem ff_40_0:fld Try.prog 40 0=some (0,5,true):=by kernel_rfl
@[simp] theorem ff_40_1:fld Try.prog 40 1=some (5,5,true):=by kernel_rfl
@[simp] theorem ff_40_2:fld Try.prog 40 2=some (10,1,false):=by kernel_rfl
@[simp] theorem ff_40_3:fld Try.prog 40 3=some (11,1,false):=by kernel_rfl
@[simp] theorem ff_44_0:fld Try.prog 44 0=some (0,5,true):=by kernel_rfl
@[simp] theorem ff_44_1:fld Try.prog 44 1=some (5,5,true):=by kernel_rfl
@[simp] theorem ff_44_2:fld Try.prog 44 2=some (10,1,false):=by kernel_rfl
@[simp] theorem ff_44_3:fld Try.prog 44 3=some (11,1,false):=by kernel_rfl
@[simp] theorem mf_229:mty Try.prog 229=some ((.int .i64),.int .i64 0):=by kernel_rfl
@[simp] theorem pf_44:Q4H Try.prog 44=some [(0,5),(5,5),(10,1),(11,1)]:=by kernel_rfl
@[simp] theorem tf_30:tyi Try.prog 30=some ⟨true,5,104,[.int .i64 0,.slice none 0 0,.slice none 0 0,.slice none 0 0,.slice none 0 0]⟩:=by kernel_rfl
@[simp] theorem tf_40:tyi Try.prog 40=some ⟨true,12,256,[.int .i64 0,.slice none 0 0,.slice none 0 0,.slice none 0 0,.slice none 0 0,.int .i64 0,.slice none 0 0,.slice none 0 0,.slice none 0 0,.slice none 0 0,.slice none 0 0,.slice none 0 0]⟩:=by kernel_rfl
@[simp] theorem Q4j:tyi Try.prog 44=some ⟨true,12,256,[.int .i64 0,.slice none 0 0,.slice none 0 0,.slice none 0 0,.slice none 0 0,.int .i64 0,.slice none 0 0,.slice none 0 0,.slice none 0 0,.slice none 0 0,.slice none 0 0,.slice none 0 0]⟩:=by kernel_rfl
@[simp] theorem tf_101:tyi Try.prog 101=some ⟨false,1,8,[.pointer none]⟩:=by kernel_rfl
noncomputable def Q1T (xs:List Int) (n:Int):Option (Bool) :=
 ass (B64 (n - 1)) <| some ((xs.all (inR n)))
theorem Q5X (xs:List Int) (n:Int) (r:Bool) (h:Q1T xs n=some r):Contract Try.prog 186 [lI xs,iV n] (.val (.bool r)):=by
 unfold Q1T at h;replace h:=Q5 h;obtain ⟨hn,h⟩:=h;cases h;exact c22 true xs n hn
noncomputable def Q1V (n:Int) (xs:List Int):Option (Bool) :=
 some ((xs.all (inR n)))
theorem Q5Y (n:Int) (xs:List Int) (r:Bool) (h:Q1V n xs=some r):Contract Try.prog 130 [iV n,lI xs] (.val (.bool r)):=by
 unfold Q1V at h;cases h;exact c57 true xs n
noncomputable def Q2W (xs:List Int):Option (List Int) :=
 ass (xs.length≤1048576) <| some (xs)
theorem Q5Z (xs:List Int) (r:List Int) (h:Q2W xs=some r):Contract Try.prog 134 [lI xs] (lI r):=by
 unfold Q2W at h;replace h:=Q5 h;obtain ⟨hx,h⟩:=h;cases h;exact c58 true xs hx
noncomputable def Q3y (xs:List Int):Option (List Int) :=
 ass (xs.length≤1048576) <| some (xs)
theorem Q76 (xs:List Int) (r:List Int) (h:Q3y xs=some r):Contract Try.prog 67 [lI xs] (lI r):=by
 unfold Q3y at h;replace h:=Q5 h;obtain ⟨hx,h⟩:=h;cases h;exact c47 true xs hx
noncomputable def Qr (c:Cat):Option (Int) :=
 some (c.fr.length)
theorem Q1e (c:Cat) (r:Int) (h:Qr c=some r):Contract Try.prog 143 [.rptr (c.cells true)] (iV r):=by
 unfold Qr at h;cases h;have q:=c61 true c [];simp only [List.append_nil] at q;exact q
noncomputable def Q2X (c:Cat):Option (Cat) :=
 ass (c.ok) <| some (c)
theorem Q60 (c:Cat) (r:Cat) (h:Q2X c=some r):Contract Try.prog 133 [.agg (c.cells true)] (.agg (r.cells true)):=by
 unfold Q2X at h;replace h:=Q5 h;obtain ⟨hc,h⟩:=h;cases h;exact c41 true c hc
noncomputable def Q1a (c:Cat):Option (Cat) :=
 ass (c.ok) <| some (c)
theorem Q2Z (c:Cat) (r:Cat) (h:Q1a c=some r):Contract Try.prog 129 [.rptr (c.cells true)] (.agg (r.cells true)):=by
 unfold Q1a at h;replace h:=Q5 h;obtain ⟨hc,h⟩:=h;cases h;have q:=c23 true c [] hc;simp only [List.append_nil] at q;exact q
noncomputable def Qt (c:Cat) (f:Int) (g:Int):Option (Int) :=
 ass (0≤f) <| ass (f<c.cs.length) <| ass (0≤g) <| ass (g<(rx c.cs f).length) <| some ((ix (rx c.cs f) g))
theorem QR (c:Cat) (f:Int) (g:Int) (r:Int) (h:Qt c f g=some r):Contract Try.prog 128 [.rptr (c.cells true),iV f,iV g] (iV r):=by
 unfold Qt at h;replace h:=Q5 h;obtain ⟨h1,h⟩:=h;replace h:=Q5 h;obtain ⟨h2,h⟩:=h;replace h:=Q5 h;obtain ⟨h3,h⟩:=h;replace h:=Q5 h;obtain ⟨h4,h⟩:=h;cases h;have q:=c69 true c [] f g h1 h2 h3 h4;simp only [List.append_nil] at q;exact q
noncomputable def Q1c (c:Cat):Option (Bool) :=
 some ((bo c.Is))
theorem Q5t (c:Cat) (r:Bool) (h:Q1c c=some r):Contract Try.prog 116 [.agg (c.cells true)] (.val (.bool r)):=by
 unfold Q1c at h;cases h;exact c55 true c
noncomputable def QF (c:Cat):Option (Bool) :=
 some ((bo c.Is))
theorem Q39 (c:Cat) (r:Bool) (h:QF c=some r):Contract Try.prog 142 [.rptr (c.cells true)] (.val (.bool r)):=by
 unfold QF at h;cases h;have q:=c60 true c [];simp only [List.append_nil] at q;exact q
noncomputable def Q2v (f:List Int) (g:List Int):Option (List Int) :=
 ass (f.length≤1048576) <| ass (∀ y∈f,0≤y∧y<(g.length:Int)) <| some ((Q1l f g))
theorem Q5s (f:List Int) (g:List Int) (r:List Int) (h:Q2v f g=some r):Contract Try.prog 184 [lI f,lI g] (lI r):=by
 unfold Q2v at h;replace h:=Q5 h;obtain ⟨hx,h⟩:=h;replace h:=Q5 h;obtain ⟨hg,h⟩:=h;cases h;exact n58 true true f g hx hg
noncomputable def Q4g (f:List Int) (g:List Int):Option (List Int) :=
 ass (f.length≤1048576) <| ass (∀ y∈f,0≤y∧y<(g.length:Int)) <| some ((Q1l f g))
theorem Q8r (f:List Int) (g:List Int) (r:List Int) (h:Q4g f g=some r):Contract Try.prog 124 [lI f,lI g] (lI r):=by
 unfold Q4g at h;replace h:=Q5 h;obtain ⟨hx,h⟩:=h;replace h:=Q5 h;obtain ⟨hg,h⟩:=h;cases h;exact n65 true true f g hx hg
noncomputable def Q1U (xs:List Int) (n:Int):Option (Bool) :=
 some ((bo (n∈xs)))
theorem Q4z (xs:List Int) (n:Int) (r:Bool) (h:Q1U xs n=some r):Contract Try.prog 196 [lI xs,iV n] (.val (.bool r)):=by
 unfold Q1U at h;cases h;exact iq72 true xs n
@[simp] theorem ass_true {α:Type} {k:Option α}:ass True k=k:=Q9 trivial
theorem bo_tt (p:Prop):(bo p=true)=p:=by simp [bo]
theorem QO {p:Prop} (h:p):bo p=true:=by simp [bo,h]
theorem QB {p:Prop} (h:¬ p):bo p=false:=by simp [bo,h]
theorem bo_iff2 {p q:Prop} (h:p↔q):bo p=bo q:=by simp [bo,h]
theorem loop_go {σ ε:Type} {body:σ→Option (Ctl σ ε)} (g:Nat→σ) (m:Nat):∀ (k:Nat),m≤k→(∀ i,i<m→body (g i)=some (.next (g (i+1))))→Qv body k (g 0)=Qv body (k - m) (g m):=by
 induction m with
 | zero=>intro k _ _;rfl
 | succ m ih =>
  intro k hk h;rw [ih k (by omega) fun i hi=>h i (by omega)];obtain ⟨j,hj⟩:∃ j,k - m=j+1:=⟨k - m - 1,by omega⟩;rw [hj,show k - (m+1)=j by omega];simp only [Qv,h m (by omega)]
theorem Q3I {σ ε:Type} {body:σ→Option (Ctl σ ε)} (g:Nat→σ) (n:Nat) {e:ε} {s0:σ} (h0:s0=g 0) (hn:n<4611686018427387904) (h:∀ i,i<n→body (g i)=some (.next (g (i+1)))) (he:body (g n)=some (.ret e)):Qv body fuel s0=some e:=by
 subst h0;rw [loop_go g n fuel (by unfold fuel;omega) h];obtain ⟨j,hj⟩:∃ j,fuel - n=j+1:=⟨fuel - n - 1,by unfold fuel;omega⟩;rw [hj];simp only [Qv,he]
theorem loop_chk {ε:Type} {body:Int→Option (Ctl Int ε)} (n:Nat) (p:Nat→Prop) {eb eg:ε} (hn:n<4611686018427387904) (h1:∀ i:Nat,i<n→p i→body (i:Int)=some (.next ((i:Int)+1))) (h2:∀ i:Nat,i<n→¬ p i→body (i:Int)=some (.ret eb)) (h3:body (n:Int)=some (.ret eg)) :
  Qv body fuel 0=some (@ite _ (∀ i:Nat,i<n→p i) (Classical.propDecidable _) eg eb):=by
 by_cases hall:∀ i:Nat,i<n→p i
 ·rw [if_pos hall];exact Q3I (fun i:Nat=>(i:Int)) n rfl hn (fun i hi=>h1 i hi (hall i hi)) h3
 rw [if_neg hall];have hex:∃ i,i<n∧¬ p i:=Classical.byContradiction fun hx=>hall fun i hi=>Classical.byContradiction fun hp=>hx ⟨i,hi,hp⟩;obtain ⟨m,⟨hm,hp⟩,hmin⟩:∃ m,(m<n∧¬ p m)∧∀ k,k<m→¬ (k<n∧¬ p k):=by
  obtain ⟨i,hi⟩:=hex
  induction i using Nat.strongRecOn with
  | _ i ih =>
   by_cases h:∃ k,k<i∧k<n∧¬ p k
   ·obtain ⟨k,h1,h2⟩:=h;exact ih k h1 h2
   exact ⟨i,hi,fun k hk hh=>h ⟨k,hk,hh⟩⟩
 exact Q3I (fun i:Nat=>(i:Int)) m rfl (by omega) (fun i hi=>h1 i (by omega) (Classical.byContradiction fun hh=>hmin i hi ⟨by omega,hh⟩)) (h2 m hm hp)
theorem Q8a {ε:Type} {body:Int→Option (Ctl Int ε)} (n:Nat) (p:Nat→Prop) {eb:Nat→ε} {eg:ε} (hn:n<4611686018427387904) (h1:∀ i:Nat,i<n→p i→body (i:Int)=some (.next ((i:Int)+1))) (h2:∀ i:Nat,i<n→¬ p i→body (i:Int)=some (.ret (eb i))) (h3:body (n:Int)=some (.ret eg)) :
  ((∀ i:Nat,i<n→p i)∧Qv body fuel 0=some eg)∨∃ m,m<n∧¬ p m∧(∀ k,k<m→p k)∧Qv body fuel 0=some (eb m):=by
 by_cases hall:∀ i:Nat,i<n→p i
 ·exact .inl ⟨hall,Q3I (fun i:Nat=>(i:Int)) n rfl hn (fun i hi=>h1 i hi (hall i hi)) h3⟩
 right;have hex:∃ i,i<n∧¬ p i:=Classical.byContradiction fun hx=>hall fun i hi=>Classical.byContradiction fun hp=>hx ⟨i,hi,hp⟩;obtain ⟨m,⟨hm,hp⟩,hmin⟩:∃ m,(m<n∧¬ p m)∧∀ k,k<m→¬ (k<n∧¬ p k):=by
  obtain ⟨i,hi⟩:=hex
  induction i using Nat.strongRecOn with
  | _ i ih =>
   by_cases h:∃ k,k<i∧k<n∧¬ p k
   ·obtain ⟨k,h1,h2⟩:=h;exact ih k h1 h2
   exact ⟨i,hi,fun k hk hh=>h ⟨k,hk,hh⟩⟩
 have hlt:∀ k,k<m→p k:=fun k hk=>Classical.byContradiction fun hh=>hmin k hk ⟨by omega,hh⟩;exact ⟨m,hm,hp,hlt,Q3I (fun i:Nat=>(i:Int)) m rfl (by omega) (fun i hi=>h1 i (by omega) (hlt i hi)) (h2 m hm hp)⟩
theorem Q6c {α ε:Type} {body:α × Int→Option (Ctl (α × Int) ε)} (g:Nat→α) (n:Nat) {e:ε} {a0:α} (h0:a0=g 0) (hn:n<4611686018427387904) (h:∀ i:Nat,i<n→body (g i,(i:Int))=some (.next (g (i+1),(i:Int)+1))) (he:body (g n,(n:Int))=some (.ret e)):Qv body fuel (a0,0)=some e:=by
 subst h0;exact Q3I (fun i:Nat=>(g i,(i:Int))) n rfl hn h he
theorem all_inR {xs:List Int} {n:Int}:xs.all (inR n)=true↔∀ j:Nat,j<xs.length→0≤ix xs j∧ix xs j<n:=by
 rw [List.all_eq_true];constructor
 ·intro h j hj;have:=h _ (List.getElem_mem hj);rw [QN _ _ hj] at this;simp only [inR,Bool.and_eq_true,decide_eq_true_eq] at this;omega
 intro h x hx;obtain ⟨i,hi,rfl⟩:=List.getElem_of_mem hx;rw [QN _ _ hi];have:=h i hi;simp only [inR,Bool.and_eq_true,decide_eq_true_eq];omega
theorem Q2b {ε β:Type} {body:Int→Option (Ctl Int ε)} {K:ε→Option β} {r:β} (n:Nat) (p:Nat→Prop) {eb eg:ε} (hn:n<4611686018427387904) (h1:∀ i:Nat,i<n→p i→body (i:Int)=some (.next ((i:Int)+1))) (h2:∀ i:Nat,i<n→¬ p i→body (i:Int)=some (.ret eb)) (h3:body (n:Int)=some (.ret eg))
  (hb:(¬ ∀ i:Nat,i<n→p i)→K eb=some r) (hg:(∀ i:Nat,i<n→p i)→K eg=some r):(Qv body fuel 0).bind K=some r:=by
 rw [loop_chk n p hn h1 h2 h3]
 by_cases h:∀ i:Nat,i<n→p i
 ·rw [if_pos h];exact hg h
 rw [if_neg h];exact hb h
theorem Q1G {α ε β:Type} {body:α × Int→Option (Ctl (α × Int) ε)} {K:ε→Option β} {r:Option β} {a0:α} (n:Nat) (g:Nat→α) {e:ε} (h0:a0=g 0) (hn:n<4611686018427387904) (h:∀ i:Nat,i<n→body (g i,(i:Int))=some (.next (g (i+1),(i:Int)+1))) (he:body (g n,(n:Int))=some (.ret e)) (hk:K e=r):(Qv body fuel (a0,0)).bind K=r:=by
 rw [Q6c g n h0 hn h he];exact hk
theorem Q5g {α:Type} (xs:List α) (k:Nat) (v z:α) {i:Nat} (h:i=xs.length):(xs++List.replicate (k+1) z).set i v=(xs++[v])++List.replicate k z:=by
 subst h;simp [List.replicate_succ]
theorem Q5f {σ ε β:Type} {body:σ→Option (Ctl σ ε)} {K:ε→Option β} {r:Option β} {s0:σ} (n:Nat) (g:Nat→σ) {e:ε} (h0:s0=g 0) (hn:n<4611686018427387904) (h:∀ i:Nat,i<n→body (g i)=some (.next (g (i+1)))) (he:body (g n)=some (.ret e)) (hk:K e=r):(Qv body fuel s0).bind K=r:=by
 rw [Q3I g n h0 hn h he];exact hk
theorem Q6R {σ ε:Type} {body:σ→Option (Ctl σ ε)} {I:Nat→σ→Prop} {J:ε→Prop} {n:Nat} (hs:∀ i s,i<n→I i s→(∃ s',body s=some (.next s')∧I (i+1) s')∨∃ e,body s=some (.ret e)∧J e) (he:∀ s,I n s→∃ e,body s=some (.ret e)∧J e) :
  ∀ (r i:Nat) (s:σ) (F:Nat),i+r=n→r<F→I i s→∃ e,Qv body F s=some e∧J e:=by
 intro r
 induction r with
 | zero =>
  intro i s F hi hF hI;obtain ⟨e,h1,h2⟩:=he s (by rw [show n=i by omega];exact hI);obtain ⟨F',rfl⟩:∃ F',F=F' + 1:=⟨F - 1,by omega⟩;simp only [Qv,h1];exact ⟨e,rfl,h2⟩
 | succ r ih =>
  intro i s F hi hF hI;obtain ⟨F',rfl⟩:∃ F',F=F' + 1:=⟨F - 1,by omega⟩;rcases hs i s (by omega) hI with ⟨s',h1,h2⟩|⟨e,h1,h2⟩
  ·simp only [Qv,h1];exact ih (i+1) s' F' (by omega) (by omega) h2
  simp only [Qv,h1];exact ⟨e,rfl,h2⟩
theorem Q1S {σ ε β:Type} {body:σ→Option (Ctl σ ε)} {K:ε→Option β} {s0:σ} {Q:Option β→Prop} (n:Nat) (I:Nat→σ→Prop) (J:ε→Prop) (hn:n<4611686018427387904) (h0:I 0 s0) (hs:∀ i s,i<n→I i s→(∃ s',body s=some (.next s')∧I (i+1) s')∨∃ e,body s=some (.ret e)∧J e)
  (he:∀ s,I n s→∃ e,body s=some (.ret e)∧J e) (hk:∀ e,J e→Q (K e)):Q ((Qv body fuel s0).bind K):=by
 obtain ⟨e,h1,h2⟩:=Q6R hs he n 0 s0 fuel (by omega) (by unfold fuel;omega) h0;rw [h1];exact hk e h2
theorem toCat (u:Bool) (c:Cat) (hc:c.ok):Contract Try.prog 45 [.agg (c.cells u)] (.agg (c.cells true)):=c18 c u hc
theorem cszCat (u:Bool) (c:Cat) (l:Int) (h1:0≤l) (h2:l≤1048576):Contract Try.prog 42 [.agg (c.cells u),iV l] (iV (Q38 l c)):=c13 u c l h1 h2
theorem Q2x {l:Int} {f:Cat} (h:l≤1048576):Q38 l f≤1048576:=szCat_le h
theorem mu_len {ms:List Mu} (h:∀ u∈ms,u.fs.length=u.es.length):∀ j,j<ms.length→(ms.getD j .none).fs.length=(ms.getD j .none).es.length:=fun j hj=>by rw [List.getD_eq_getElem?_getD,List.getElem?_eq_getElem hj];exact h _ (List.getElem_mem hj)
theorem markCat (f:Cat) (k:Int) (hf:f.ok) (h2:0≤k) (h3:k+f.size≤576460752303423488):MContract Try.prog 34 [.agg [iV f.n,.own 0 0 f.fr.length,.own 1 0 f.to.length,.own 2 0 f.id.length,.own 3 0 f.cs.length],iV k] (f.mu k) (iV (k+f.size)):=by
 have q:=m31 f k hf h2 (by omega)
 rwa [show k+f.fr.length+f.to.length+f.id.length+sumL f.cs=k+f.size by simp [Cat.size,Int.add_assoc]] at q
def Fn.mu (f:Fn) (k:Int):List Mu:=[⟨1,Is f.s.fr,Is (f.mark k).s.fr⟩,⟨1,Is f.s.to,Is (f.mark k).s.to⟩,⟨1,Is f.s.id,Is (f.mark k).s.id⟩,⟨1,Ls f.s.cs,Ls (f.mark k).s.cs⟩,⟨1,Is f.t.fr,Is (f.mark k).t.fr⟩,⟨1,Is f.t.to,Is (f.mark k).t.to⟩,⟨1,Is f.t.id,Is (f.mark k).t.id⟩,⟨1,Ls f.t.cs,Ls (f.mark k).t.cs⟩,⟨1,Is f.ob,Is (f.mark k).ob⟩,⟨1,Is f.ar,Is (f.mark k).ar⟩]
theorem Fn.ok_size {f:Fn} (h:f.ok):f.size≤2199031644160:=by
 obtain ⟨hs,ht,hob,har⟩:=h;have s_s:=Cat.ok_size hs;have s_t:=Cat.ok_size ht;simp only [Fn.size];omega
theorem eqFn (u v:Bool) (f:Fn):Contract Try.prog 21 [.agg (f.cells u),.agg (f.cells v)] (.val (.bool true)):=by
 refine Qf (rs:=[.val (.bool true)]) Try.func21 rfl rfl rfl rfl (by simp [Try.f21]) fun F hN hP=>?_;refine srQ hN fun K hK=>?_;simp [Fn.cells];refine hK _ ?_;clear hK K;refine Q4 ?_;refine srQ hN fun K hK=>?_;simp;refine Q3 (c26 u v f.s) (.cons (.aggL Cat.pur) (.cons (.aggL Cat.pur) .nil)) ?_;simp [unk,unA,unE,flat];refine hK _ ?_;clear hK K;refine Qc rfl (fun h=>by simp at h) fun _=>?_;refine Qd ?_;refine Q4 ?_;refine srQ hN fun K hK=>?_;simp;refine Q3 (c26 u v f.t) (.cons (.aggL Cat.pur) (.cons (.aggL Cat.pur) .nil)) ?_;simp [unk,unA,unE,flat];refine hK _ ?_;clear hK K;refine Qc rfl (fun h=>by simp at h) fun _=>?_;refine Qd ?_;refine Q4 ?_;refine srQ hN fun K hK=>?_;simp;refine Q3 (c29 u v f.ob f.ob) (.cons .lst (.cons .lst .nil)) ?_;simp [unk,unA,unE,flat];refine hK _ ?_;clear hK K;refine Qc rfl (fun h=>by simp at h) fun _=>?_;refine Qd ?_;refine Q4 ?_;refine srQ hN fun K hK=>?_;simp;refine Q3 (c29 u v f.ar f.ar) (.cons .lst (.cons .lst .nil)) ?_;simp [unk,unA,unE,flat];refine hK _ ?_;clear hK K;refine Qc rfl (fun h=>by simp at h) fun _=>?_;refine Qd ?_;refine srQ hN fun K hK=>?_;simp;refine hK _ ?_;clear hK K;refine Qi (Qk rfl rfl)
theorem heldFn (u:Bool) (f:Fn) (k:Int) (hf:f.ok) (h2:0≤k) (h3:k+f.size≤1152921504606846976):Contract Try.prog 25 [.agg ((f.mark k).cells u),iV k] (iV (k+f.size)):=by
 obtain ⟨hs,ht,hob,har⟩:=hf;have hz:f.size=f.s.size+f.t.size+f.ob.length+f.ar.length:=rfl;refine Qf (rs:=[iV (k+f.size)]) Try.func25 rfl rfl rfl rfl (by simp [Try.f25]) fun F hN hP=>?_;refine srQ hN fun K hK=>?_;simp [Fn.cells,Cat.mark,Fn.mark];refine hK _ ?_;clear hK K;refine srQ hN fun K hK=>?_;simp;refine Q3 (c36 u f.s (k) hs (by omega) (by omega)) (.cons (.aggL (.cons .val (.cons .lst (.cons .lst (.cons .lst (.cons .lst .nil)))))) (.cons .val .nil)) ?_;simp [unk,unA,unE,flat];refine hK _ ?_;clear hK K;refine Q4 ?_;refine srQ hN fun K hK=>?_;simp;refine hK _ ?_;clear hK K;refine Qc rfl (fun g=>?_) fun g=>?_
 ·simp at g;omega
 refine Qd ?_;refine srQ hN fun K hK=>?_;simp;refine Q3 (c36 u f.t (k+f.s.size) ht (by omega) (by omega)) (.cons (.aggL (.cons .val (.cons .lst (.cons .lst (.cons .lst (.cons .lst .nil)))))) (.cons .val .nil)) ?_;simp [unk,unA,unE,flat];refine hK _ ?_;clear hK K;refine Q4 ?_;refine srQ hN fun K hK=>?_;simp;refine hK _ ?_;clear hK K;refine Qc rfl (fun g=>?_) fun g=>?_
 ·simp at g;omega
 refine Qd ?_;refine srQ hN fun K hK=>?_;simp;refine Q3 (c53 u (run (k+f.s.size+f.t.size) f.ob.length) (k+f.s.size+f.t.size) (by simpa using hob) (by omega) (by omega)) (.cons .lst (.cons .val .nil)) ?_;simp [unk,unA,unE,flat];refine hK _ ?_;clear hK K;refine Q4 ?_;refine srQ hN fun K hK=>?_;simp;refine hK _ ?_;clear hK K;refine Qc rfl (fun g=>?_) fun g=>?_
 ·simp at g;omega
 refine Qd ?_;refine srQ hN fun K hK=>?_;simp;refine Q3 (c53 u (run (k+f.s.size+f.t.size+f.ob.length) f.ar.length) (k+f.s.size+f.t.size+f.ob.length) (by simpa using har) (by omega) (by omega)) (.cons .lst (.cons .val .nil)) ?_;simp [unk,unA,unE,flat];refine hK _ ?_;clear hK K;refine Q4 ?_;refine srQ hN fun K hK=>?_;simp;refine hK _ ?_;clear hK K;refine Qc rfl (fun g=>?_) fun g=>?_
 ·simp at g;omega
 refine Qd ?_;refine srQ hN fun K hK=>?_;simp;refine hK _ ?_;clear hK K;refine Qi (Qk rfl ?_);simp [hz,Int.add_assoc]
theorem toFn (u:Bool) (f:Fn) (hf:f.ok):Contract Try.prog 19 [.agg (f.cells u)] (.agg (f.cells true)):=by
 obtain ⟨hs,ht,hob,har⟩:=hf;refine Q1m Try.func19 rfl rfl Q4j rfl rfl (by simp [Try.f19]) fun F hN hP=>?_;refine srQ hN fun K hK=>?_;simp [Fn.cells];refine hK _ ?_;clear hK K;refine srQ hN fun K hK=>?_;simp;refine hK _ ?_;clear hK K;refine srQ hN fun K hK=>?_;simp;refine Q3 (toCat u f.s hs) (.cons (.aggL Cat.pur) .nil) ?_;simp [unk,unA,unE,flat,unC,Cat.cells];refine hK _ ?_;clear hK K;refine srQ hN fun K hK=>?_;simp;refine Q3 (toCat u f.t ht) (.cons (.aggL Cat.pur) .nil) ?_;simp [unk,unA,unE,flat,unC,Cat.cells];refine hK _ ?_;clear hK K;refine srQ hN fun K hK=>?_;simp;refine Q3 (c19 u f.ob hob) (.cons .lst .nil) ?_;simp [unk,unA,unE,flat];refine hK _ ?_;clear hK K;refine srQ hN fun K hK=>?_;simp;refine Q3 (c19 u f.ar har) (.cons .lst .nil) ?_;simp [unk,unA,unE,flat];refine hK _ ?_;clear hK K;refine srQ hN fun K hK=>?_;simp;refine hK _ ?_;clear hK K;refine Qi ⟨_,_,_,_,_,rfl,rfl,by simp,by simp,?_⟩;exact ⟨.agg rfl .nil,[iV f.s.n,lI f.s.fr,lI f.s.to,lI f.s.id,.lst true 1 (Ls f.s.cs),iV f.t.n,lI f.t.fr,lI f.t.to,lI f.t.id,.lst true 1 (Ls f.t.cs),lI f.ob,lI f.ar],[4,5,6,7,9,10,11,12,13,14],by simp,by simp,UpL.refl _⟩
def szFn (l:Int) (f:Fn):Int:=nn (Q38 l f.s) fun a0=>nn (Q38 a0 f.t) fun a1=>nn (less a1 f.ob.length) fun a2=>nn (less a2 f.ar.length) fun a3=>a3
theorem szFn_ok {l:Int} {f:Fn} (hl:l≤1048576) (h:0≤szFn l f):f.ok:=by
 unfold szFn at h;obtain ⟨p0,q0,_⟩:=Q6S h;have b0:=Q2x (f:=f.s) hl;obtain ⟨p1,q1,_⟩:=Q6S q0;have b1:=Q2x (f:=f.t) b0;obtain ⟨p2,q2,_⟩:=Q6S q1;obtain ⟨e2,_⟩:=Q4r p2;have b2:=Q2J (n:=f.ob.length) b1;obtain ⟨p3,q3,_⟩:=Q6S q2;obtain ⟨e3,_⟩:=Q4r p3;have b3:=Q2J (n:=f.ar.length) b2;exact ⟨Q8o hl p0,Q8o b0 p1,by omega,by omega⟩
theorem cszFn (u:Bool) (f:Fn) (l:Int) (h1:0≤l) (h2:l≤1048576):Contract Try.prog 17 [.agg (f.cells u),iV l] (iV (szFn l f)):=by
 refine Qf (rs:=[iV (szFn l f)]) Try.func17 rfl rfl rfl rfl (by simp [Try.f17]) fun F hN hP=>?_;refine srQ hN fun K hK=>?_;simp [Fn.cells];refine hK _ ?_;clear hK K;refine srQ hN fun K hK=>?_;simp;refine Q3 (cszCat u f.s (l) h1 (h2)) (.cons (.aggL Cat.pur) (.cons .val .nil)) ?_;simp [unk,unA,unE,flat];refine hK _ ?_;clear hK K;refine Q4 ?_;refine srQ hN fun K hK=>?_;simp;refine hK _ ?_;clear hK K;refine Qc rfl (fun g1=>?_) fun g1=>?_
 ·simp at g1;refine srQ hN fun K hK=>?_;simp;refine hK _ ?_;clear hK K;refine Qi (Qk rfl ?_);simp only [szFn,nn];rw [if_pos g1]
 simp at g1;refine Qd ?_;refine srQ hN fun K hK=>?_;simp;refine Q3 (cszCat u f.t (Q38 (l) f.s) g1 (Q2x (h2))) (.cons (.aggL Cat.pur) (.cons .val .nil)) ?_;simp [unk,unA,unE,flat];refine hK _ ?_;clear hK K;refine Q4 ?_;refine srQ hN fun K hK=>?_;simp;refine hK _ ?_;clear hK K;refine Qc rfl (fun g2=>?_) fun g2=>?_
 ·simp at g2;refine srQ hN fun K hK=>?_;simp;refine hK _ ?_;clear hK K;refine Qi (Qk rfl ?_);simp only [szFn,nn];rw [if_neg (Int.not_lt.2 g1),if_pos g2]
 simp at g2;refine Qd ?_;refine srQ hN fun K hK=>?_;simp;refine Q3 (c14 u f.ob (Q38 (Q38 (l) f.s) f.t) g2 (Q2x (Q2x (h2)))) (.cons .lst (.cons .val .nil)) ?_;simp [unk,unA,unE,flat];refine hK _ ?_;clear hK K;refine Q4 ?_;refine srQ hN fun K hK=>?_;simp;refine hK _ ?_;clear hK K;refine Qc rfl (fun g3=>?_) fun g3=>?_
 ·simp at g3;refine srQ hN fun K hK=>?_;simp;refine hK _ ?_;clear hK K;refine Qi (Qk rfl ?_);simp only [szFn,nn];rw [if_neg (Int.not_lt.2 g1),if_neg (Int.not_lt.2 g2),if_pos g3]
 simp at g3;refine Qd ?_;refine srQ hN fun K hK=>?_;simp;refine Q3 (c14 u f.ar (less (Q38 (Q38 (l) f.s) f.t) f.ob.length) g3 (Q2J (Q2x (Q2x (h2))))) (.cons .lst (.cons .val .nil)) ?_;simp [unk,unA,unE,flat];refine hK _ ?_;clear hK K;refine Q4 ?_;refine srQ hN fun K hK=>?_;simp;refine hK _ ?_;clear hK K;refine Qc rfl (fun g4=>?_) fun g4=>?_
 ·simp at g4;refine srQ hN fun K hK=>?_;simp;refine hK _ ?_;clear hK K;refine Qi (Qk rfl ?_);simp only [szFn,nn];rw [if_neg (Int.not_lt.2 g1),if_neg (Int.not_lt.2 g2),if_neg (Int.not_lt.2 g3),if_pos g4]
 simp at g4;refine Qd ?_;refine srQ hN fun K hK=>?_;simp;refine hK _ ?_;clear hK K;refine Qi (Qk rfl ?_);simp only [szFn,nn];rw [if_neg (Int.not_lt.2 g1),if_neg (Int.not_lt.2 g2),if_neg (Int.not_lt.2 g3),if_neg (Int.not_lt.2 g4)]
theorem markFn (f:Fn) (k:Int) (hf:f.ok) (h2:0≤k) (h3:k+f.size≤576460752303423488) :
  MContract Try.prog 22 [.agg [iV f.s.n,.own 0 0 f.s.fr.length,.own 1 0 f.s.to.length,.own 2 0 f.s.id.length,.own 3 0 f.s.cs.length,iV f.t.n,.own 4 0 f.t.fr.length,.own 5 0 f.t.to.length,.own 6 0 f.t.id.length,.own 7 0 f.t.cs.length,.own 8 0 f.ob.length,.own 9 0 f.ar.length],iV k] (f.mu k) (iV (k+f.size)):=by
 obtain ⟨hs,ht,hob,har⟩:=hf;have hz:f.size=f.s.size+f.t.size+f.ob.length+f.ar.length:=rfl;refine Q1J (ts:=[4]) (rv:=.int .i64 (k+f.size)) Try.func22 rfl rfl ?_ rfl (by simp [Try.f22]) ?_ fun F hN hP=>?_
 ·have:(-9223372036854775808≤k+f.size)∧k+f.size≤9223372036854775807:=by omega
  simp [resV,this]
 ·exact mu_len (by simp [Fn.mu,Fn.mark,Cat.mark])
 refine srQ hN fun K hK=>?_;simp [Q4O,Fn.mu];refine hK _ ?_;clear hK K;refine Q5E mo (by rw [hN];decide) fun K hK=>?_;simp;refine Q30 (m:=[0,1,2,3]) (markCat f.s (k) hs (by omega) (by omega)) (by decide) (.cons rfl (.cons rfl (.cons rfl (.cons rfl .nil)))) (.cons (.aggL (.cons .val (.cons (.own (j:=0) (by decide)) (.cons (.own (j:=1) (by decide)) (.cons (.own (j:=2) (by decide)) (.cons (.own (j:=3) (by decide)) .nil)))))) (.cons .val .nil)) rfl (by simp) ?_;simp [Q4t,Cat.mu];refine hK _ ?_;clear hK K;refine Q5E mo (by rw [hN];decide) fun K hK=>?_;simp;refine Q30 (m:=[4,5,6,7]) (markCat f.t (k+f.s.size) ht (by omega) (by omega)) (by decide) (.cons rfl (.cons rfl (.cons rfl (.cons rfl .nil)))) (.cons (.aggL (.cons .val (.cons (.own (j:=0) (by decide)) (.cons (.own (j:=1) (by decide)) (.cons (.own (j:=2) (by decide)) (.cons (.own (j:=3) (by decide)) .nil)))))) (.cons .val .nil)) rfl (by simp) ?_;simp [Q4t,Cat.mu];refine hK _ ?_;clear hK K;refine Q5E mo (by rw [hN];decide) fun K hK=>?_;simp;refine Q2j (m32 f.ob (k+f.s.size+f.t.size) hob (by omega) (by omega)) rfl (by simp) ?_;simp;refine hK _ ?_;clear hK K;refine Q5E mo (by rw [hN];decide) fun K hK=>?_;simp;refine Q2j (m32 f.ar (k+f.s.size+f.t.size+f.ob.length) har (by omega) (by omega)) rfl (by simp) ?_;simp;refine hK _ ?_;clear hK K;refine srQ hN fun K hK=>?_;simp;refine hK _ ?_;clear hK K;refine Qi (mret ?_ ?_)
 ·simp [hz,Int.add_assoc]
 exact (.cons rfl (.cons rfl (.cons rfl (.cons rfl (.cons rfl (.cons rfl (.cons rfl (.cons rfl (.cons rfl (.cons rfl .nil))))))))))
attribute [local simp] eL eI Qn QC Q4n Cat.cells Fn.cells
noncomputable def Q3z (f_:Fn):Option Bool :=
 (
  (Q1c f_.s).bind fun v2 =>
  if ¬ (v2=true) then
   some true
  else
   (Q1c f_.t).bind fun v4 =>
   if ¬ (v4=true) then
    some true
   else
    if ¬ ((f_.ob.length:Int)=f_.s.n) then
     some true
    else
     some ((f_.ar.length:Int) != (f_.s.fr.length:Int)):Option (Bool)).bind fun b1 =>
 if b1=true then
  some false
 else
  (
   (Q1V f_.t.n f_.ob).bind fun v9 =>
   if ¬ (v9=true) then
    some true
   else
    (Q1V (f_.t.fr.length:Int) f_.ar).bind fun v11 =>
    some (!v11):Option (Bool)).bind fun b8 =>
  if b8=true then
   some false
  else
   (Qv (σ:=Int) (ε:=Unit ⊕ Bool) (fun s27 =>
    if s27<(f_.s.fr.length:Int) then
     (
      ass (0≤s27∧s27<(f_.ar.length:Int)) <|
      ass (0≤ix f_.ar s27∧ix f_.ar s27<(f_.t.fr.length:Int)) <|
      ass (0≤s27∧s27<(f_.s.fr.length:Int)) <|
      ass (0≤ix f_.s.fr s27∧ix f_.s.fr s27<(f_.ob.length:Int)) <|
      if ¬ ((ix f_.t.fr (ix f_.ar s27))=(ix f_.ob (ix f_.s.fr s27))) then
       some true
      else
       ass (0≤s27∧s27<(f_.ar.length:Int)) <|
       ass (0≤ix f_.ar s27∧ix f_.ar s27<(f_.t.to.length:Int)) <|
       ass (0≤s27∧s27<(f_.s.to.length:Int)) <|
       ass (0≤ix f_.s.to s27∧ix f_.s.to s27<(f_.ob.length:Int)) <|
       some ((ix f_.t.to (ix f_.ar s27)) != (ix f_.ob (ix f_.s.to s27))):Option (Bool)).bind fun b29 =>
     if b29=true then
      some (Ctl.ret (Sum.inr false))
     else
      ass (B64 (s27+1)) <|
      some (Ctl.next (s27+1))
    else
     some (Ctl.ret (Sum.inl ()))) fuel 0).bind fun e13 =>
   match e13 with
   | .inl b13 =>
    (Qv (σ:=Int) (ε:=Unit ⊕ Bool) (fun s49 =>
     if s49<f_.s.n then
      ass (0≤s49∧s49<(f_.s.id.length:Int)) <|
      ass (0≤ix f_.s.id s49∧ix f_.s.id s49<(f_.ar.length:Int)) <|
      ass (0≤s49∧s49<(f_.ob.length:Int)) <|
      ass (0≤ix f_.ob s49∧ix f_.ob s49<(f_.t.id.length:Int)) <|
      if ¬ ((ix f_.ar (ix f_.s.id s49))=(ix f_.t.id (ix f_.ob s49))) then
       some (Ctl.ret (Sum.inr false))
      else
       ass (B64 (s49+1)) <|
       some (Ctl.next (s49+1))
     else
      some (Ctl.ret (Sum.inl ()))) fuel 0).bind fun e41 =>
    match e41 with
    | .inl b41 =>
     (Qv (σ:=Int) (ε:=Unit ⊕ Bool) (fun s90 =>
      if s90<(f_.s.fr.length:Int) then
       (
        (Qv (σ:=Int) (ε:=Bool ⊕ Unit) (fun s107 =>
         if s107<(f_.s.fr.length:Int) then
          (
           ass (0≤s90∧s90<(f_.s.to.length:Int)) <|
           ass (0≤s107∧s107<(f_.s.fr.length:Int)) <|
           if (ix f_.s.to s90)=(ix f_.s.fr s107) then
            ass (0≤s90∧s90<(f_.s.cs.length:Int)) <|
            ass (0≤s107∧s107<((rx f_.s.cs s90).length:Int)) <|
            ass (0≤ix (rx f_.s.cs s90) s107∧ix (rx f_.s.cs s90) s107<(f_.ar.length:Int)) <|
            ass (0≤s90∧s90<(f_.ar.length:Int)) <|
            ass (0≤ix f_.ar s90∧ix f_.ar s90<(f_.t.cs.length:Int)) <|
            ass (0≤s107∧s107<(f_.ar.length:Int)) <|
            ass (0≤ix f_.ar s107∧ix f_.ar s107<((rx f_.t.cs (ix f_.ar s90)).length:Int)) <|
            some ((ix f_.ar (ix (rx f_.s.cs s90) s107)) != (ix (rx f_.t.cs (ix f_.ar s90)) (ix f_.ar s107)))
           else
            some false:Option (Bool)).bind fun b109 =>
          if b109=true then
           some (Ctl.ret (Sum.inl false))
          else
           ass (B64 (s107+1)) <|
           some (Ctl.next (s107+1))
         else
          some (Ctl.ret (Sum.inr ()))) fuel 0).bind fun e107 =>
        match e107 with
        | .inl p107 =>
         some (Sum.inr p107)
        | .inr p107 =>
         some (Sum.inl p107):Option (Unit ⊕ Bool)).bind fun e92 =>
       match e92 with
       | .inl b92 =>
        ass (B64 (s90+1)) <|
        some (Ctl.next (s90+1))
       | .inr p92 =>
        some (Ctl.ret (Sum.inr p92))
      else
       some (Ctl.ret (Sum.inl ()))) fuel 0).bind fun e57 =>
     match e57 with
     | .inl b57 =>
      some true
     | .inr p57 =>
      some p57
    | .inr p41 =>
     some p41
   | .inr p13 =>
    some p13
theorem wkQ8 {F : Fx} {st st' : St} (m : List (Nat × Nat)) (h : (m.map Prod.fst).Nodup ∧ (m.map Prod.snd).Nodup ∧ (∀ id, id < F.pins → look id m = some id) ∧ (∀ p ∈ m, p.2 < st'.n) ∧ (∀ p ∈ st'.h, p.1 < st'.n) ∧ (∀ p ∈ st'.s, p.2 = rl m (st.get p.1) ∨ p.2 = .bot) ∧ ∀ p ∈ st'.h, hhOk m st.h p.1 p.2 := by simp [hP, hhOk, back, Cat.cells, Fn.cells, UA, U1, IA, I1, LA, L1, BA, B1, EA, E1, E2, eB, eI, eL]) : Wk F st st' := Wk.r1 m h
theorem w_s_l06Is (f_:Fn) (r:Bool) (h:Q3z f_=some r):Contract Try.prog 73 [.agg (f_.cells true)] (.val (.bool r)):=by
 refine Qe (rvs:=[.tmp 2]) (rs:=[.val (.bool r)]) Try.func73 rfl rfl rfl rfl (by simp [Try.f73]) fun F hN hP=>?_;unfold Q3z at h;refine Q4 ?_;refine runQ hN fun K hK=>?_;simp [-Q0,-Q6,-Q1,-Q7,-Q2];repeat refine sdQ ?_
 refine hK _ ?_;clear hK K;refine tn ?_;refine Q8 (st':=⟨[(1,.adr 0 0 0)],[(0,.mix 12 [(Fn.cells true f_)])],1⟩) (wkQ8 [(0,0)]) ?_;refine Q4 ?_;refine w_runS mo (by rw [hN];decide) fun K hK=>?_;simp [-Q0,-Q6,-Q1,-Q7,-Q2];repeat refine sdQ ?_
 refine hK _ ?_;clear hK K;refine tn ?_;refine Q8 (st':=⟨[(1,.adr 0 0 0),(3,.adr 1 0 0),(4,.adr 2 0 0)],[(0,.mix 12 [(Fn.cells true f_)]),(1,.mix 5 [(Cat.cells true f_.s)]),(2,.mix 5 [(Cat.cells true f_.t)])],3⟩) (wkQ8 [(0,0),(1,1),(2,2)]) ?_;refine Q4 ?_;refine Q4 ?_;replace h:=bind_some h;obtain ⟨e1,h,h1⟩:=h;refine Qh (fun b1:Bool=>⟨[(1,.adr 0 0 0),(3,.adr 1 0 0),(4,.adr 2 0 0),(37,.val (.bool b1))],[(0,.mix 12 [(Fn.cells true f_)]),(1,.mix 5 [(Cat.cells true f_.s)]),(2,.mix 5 [(Cat.cells true f_.t)])],3⟩) (fun b1=>b1=e1) ?_ ?_
 ·refine runQ hN fun K hK=>?_;simp [-Q0,-Q6,-Q1,-Q7,-Q2];repeat with_reducible refine sdQ ?_
  replace h:=bind_some h;obtain ⟨v2,hv2,h⟩:=h;refine Q3 (Q5t _ v2 hv2) (.cons (.aggL (.cons .val (.cons .lst (.cons .lst (.cons .lst (.cons .lst .nil)))))) .nil) ?_;simp [-Q0,-Q6,-Q1,-Q7,-Q2,unk,unA,unE,unT,unC,flat];repeat with_reducible refine sdQ ?_
  refine Qw (fun g=>?_) (fun g=>?_)
  ·have g3:¬ (¬ (v2=true)):=gQ;clear g;replace h:=if_r g3 h;simp [-Q0,-Q6,-Q1,-Q7,-Q2];(repeat with_reducible refine sdQ ?_);replace h:=bind_some h;obtain ⟨v4,hv4,h⟩:=h;refine Q3 (Q5t _ v4 hv4) (.cons (.aggL (.cons .val (.cons .lst (.cons .lst (.cons .lst (.cons .lst .nil)))))) .nil) ?_;simp [-Q0,-Q6,-Q1,-Q7,-Q2,unk,unA,unE,unT,unC,flat];(repeat with_reducible refine sdQ ?_);refine Qw (fun g=>?_) (fun g=>?_)
   ·have g5:¬ (¬ (v4=true)):=gQ;clear g;replace h:=if_r g5 h;simp [-Q0,-Q6,-Q1,-Q7,-Q2];(repeat with_reducible refine sdQ ?_);refine Qw (fun g=>?_) (fun g=>?_)
    ·have g6:¬ (¬ ((f_.ob.length:Int)=f_.s.n)):=gQ;clear g;replace h:=if_r g6 h;simp [-Q0,-Q6,-Q1,-Q7,-Q2];(repeat refine sdQ ?_);refine hK _ ?_;exact jn (b:=(f_.ar.length:Int) != (f_.s.fr.length:Int)) (Option.some.inj h) (wkQ8 [(0,0),(1,1),(2,2)])
    have g6:¬ ((f_.ob.length:Int)=f_.s.n):=gQ;clear g;replace h:=if_l g6 h;simp [-Q0,-Q6,-Q1,-Q7,-Q2];(repeat refine sdQ ?_);refine hK _ ?_;exact jn (b:=true) (Option.some.inj h) (wkQ8 [(0,0),(1,1),(2,2)])
   have g5:¬ (v4=true):=gQ;clear g;replace h:=if_l g5 h;simp [-Q0,-Q6,-Q1,-Q7,-Q2];(repeat refine sdQ ?_);refine hK _ ?_;exact jn (b:=true) (Option.some.inj h) (wkQ8 [(0,0),(1,1),(2,2)])
  have g3:¬ (v2=true):=gQ;clear g;replace h:=if_l g3 h;simp [-Q0,-Q6,-Q1,-Q7,-Q2];repeat refine sdQ ?_
  refine hK _ ?_;exact jn (b:=true) (Option.some.inj h) (wkQ8 [(0,0),(1,1),(2,2)])
 intro b1 hb1;have h:=h1;try rw [← hb1] at h
 clear h1;try dsimp only at h
 refine Qc rfl (fun g=>?_) fun g=>?_
 ·have g7:b1=true:=gQ;clear g;replace h:=if_l g7 h;refine Q4 ?_;refine runQ hN fun K hK=>?_;simp [-Q0,-Q6,-Q1,-Q7,-Q2];repeat refine sdQ ?_
  refine hK _ ?_;clear hK K;refine tn ?_;refine Q8 (st':=⟨[(2,.val (.bool false))],[],0⟩) (wkQ8 []) ?_;refine Qi ?_;refine tr ?_;have hr:=Option.some.inj h;rw [← hr];refine ⟨_,(.tmp .nil),?_⟩;refine ⟨(.one rfl rfl .nil),[.val (.bool false)],[],by simp [Cat.cells,Fn.cells,UA,U1,IA,I1,LA,L1,BA,B1,EA,E1,E2,eB,eI,eL],by simp,(UpL.refl _)⟩
 have g7:¬ (b1=true):=gQ;clear g;replace h:=if_r g7 h;refine Qd ?_;refine tn ?_;refine Q4 ?_;refine Q4 ?_;replace h:=bind_some h;obtain ⟨e8,h,h8⟩:=h;refine Qh (fun b8:Bool=>⟨[(1,.adr 0 0 0),(3,.adr 1 0 0),(4,.adr 2 0 0),(52,.val (.bool b8))],[(0,.mix 12 [(Fn.cells true f_)]),(1,.mix 5 [(Cat.cells true f_.s)]),(2,.mix 5 [(Cat.cells true f_.t)])],3⟩) (fun b8=>b8=e8) ?_ ?_
 ·refine runQ hN fun K hK=>?_;simp [-Q0,-Q6,-Q1,-Q7,-Q2];repeat with_reducible refine sdQ ?_
  replace h:=bind_some h;obtain ⟨v9,hv9,h⟩:=h;refine Q3 (Q5Y _ _ v9 hv9) (.cons .val (.cons .lst .nil)) ?_;simp [-Q0,-Q6,-Q1,-Q7,-Q2,unk,unA,unE,unT,unC,flat];repeat with_reducible refine sdQ ?_
  refine Qw (fun g=>?_) (fun g=>?_)
  ·have g10:¬ (¬ (v9=true)):=gQ;clear g;replace h:=if_r g10 h;simp [-Q0,-Q6,-Q1,-Q7,-Q2];(repeat with_reducible refine sdQ ?_);replace h:=bind_some h;obtain ⟨v11,hv11,h⟩:=h;refine Q3 (Q5Y _ _ v11 hv11) (.cons .val (.cons .lst .nil)) ?_;simp [-Q0,-Q6,-Q1,-Q7,-Q2,unk,unA,unE,unT,unC,flat];(repeat refine sdQ ?_);refine hK _ ?_;exact jn (b:=!v11) (Option.some.inj h) (wkQ8 [(0,0),(1,1),(2,2)])
  have g10:¬ (v9=true):=gQ;clear g;replace h:=if_l g10 h;simp [-Q0,-Q6,-Q1,-Q7,-Q2];repeat refine sdQ ?_
  refine hK _ ?_;exact jn (b:=true) (Option.some.inj h) (wkQ8 [(0,0),(1,1),(2,2)])
 intro b8 hb8;have h:=h8;try rw [← hb8] at h
 clear h8;try dsimp only at h
 refine Qc rfl (fun g=>?_) fun g=>?_
 ·have g12:b8=true:=gQ;clear g;replace h:=if_l g12 h;refine Q4 ?_;refine runQ hN fun K hK=>?_;simp [-Q0,-Q6,-Q1,-Q7,-Q2];repeat refine sdQ ?_
  refine hK _ ?_;clear hK K;refine tn ?_;refine Q8 (st':=⟨[(2,.val (.bool false))],[],0⟩) (wkQ8 []) ?_;refine Qi ?_;refine tr ?_;have hr:=Option.some.inj h;rw [← hr];refine ⟨_,(.tmp .nil),?_⟩;refine ⟨(.one rfl rfl .nil),[.val (.bool false)],[],by simp [Cat.cells,Fn.cells,UA,U1,IA,I1,LA,L1,BA,B1,EA,E1,E2,eB,eI,eL],by simp,(UpL.refl _)⟩
 have g12:¬ (b8=true):=gQ;clear g;replace h:=if_r g12 h;refine Qd ?_;refine tn ?_;refine Q4 ?_;refine Q4 ?_;refine runQ hN fun K hK=>?_;simp [-Q0,-Q6,-Q1,-Q7,-Q2];repeat refine sdQ ?_
 refine hK _ ?_;clear hK K;refine tn ?_;refine Q8 (st':=⟨[(1,.adr 0 0 0),(3,.adr 1 0 0),(4,.adr 2 0 0),(5,iV 0)],[(0,.mix 12 [(Fn.cells true f_)]),(1,.mix 5 [(Cat.cells true f_.s)]),(2,.mix 5 [(Cat.cells true f_.t)])],3⟩) (wkQ8 [(0,0),(1,1),(2,2)]) ?_;replace h:=bind_some h;obtain ⟨e13,h,h13⟩:=h;refine Qh (fun b13:Unit=>⟨[(1,.adr 0 0 0),(3,.adr 1 0 0),(4,.adr 2 0 0)],[(0,.mix 12 [(Fn.cells true f_)]),(1,.mix 5 [(Cat.cells true f_.s)]),(2,.mix 5 [(Cat.cells true f_.t)])],3⟩) (fun b13=>Sum.inl b13=e13) ?_ ?_
 ·refine Qa ?_;refine Qs h (fun s27:Int=>⟨[(1,.adr 0 0 0),(3,.adr 1 0 0),(4,.adr 2 0 0),(5,iV s27)],[(0,.mix 12 [(Fn.cells true f_)]),(1,.mix 5 [(Cat.cells true f_.s)]),(2,.mix 5 [(Cat.cells true f_.t)])],3⟩) (wkQ8 [(0,0),(1,1),(2,2)]) ?_;clear h;intro k27 s27 c27 h hk27;refine Q4 ?_;refine Q4 ?_;refine runQ hN fun K hK=>?_;simp [-Q0,-Q6,-Q1,-Q7,-Q2];repeat refine sdQ ?_
  refine hK _ ?_;clear hK K;refine tn ?_;refine Q8 (st':=⟨[(1,.adr 0 0 0),(3,.adr 1 0 0),(4,.adr 2 0 0),(5,iV s27),(57,.val (.bool (decide (s27<(f_.s.fr.length:Int)))))],[(0,.mix 12 [(Fn.cells true f_)]),(1,.mix 5 [(Cat.cells true f_.s)]),(2,.mix 5 [(Cat.cells true f_.t)])],3⟩) (wkQ8 [(0,0),(1,1),(2,2)]) ?_;refine Qc rfl (fun g=>?_) fun g=>?_
  ·have g28:s27<(f_.s.fr.length:Int):=gQ;clear g;replace h:=if_l g28 h;refine Qd ?_;refine tn ?_;refine Q4 ?_;refine Qa ?_;refine Q4 ?_;replace h:=bind_some h;obtain ⟨e29,h,h29⟩:=h;refine Qh (fun b29:Bool=>⟨[(1,.adr 0 0 0),(3,.adr 1 0 0),(4,.adr 2 0 0),(5,iV s27),(99,.val (.bool b29))],[(0,.mix 12 [(Fn.cells true f_)]),(1,.mix 5 [(Cat.cells true f_.s)]),(2,.mix 5 [(Cat.cells true f_.t)])],3⟩) (fun b29=>b29=e29) ?_ ?_
   ·refine runQ hN fun K hK=>?_;replace h:=Q5 h;obtain ⟨a30,h⟩:=h;replace h:=Q5 h;obtain ⟨a31,h⟩:=h;replace h:=Q5 h;obtain ⟨a32,h⟩:=h;replace h:=Q5 h;obtain ⟨a33,h⟩:=h;simp [-Q0,-Q6,-Q1,-Q7,-Q2,at_I a30,at_I a31,at_I a32,at_I a33];(repeat with_reducible refine sdQ ?_);refine Qw (fun g=>?_) (fun g=>?_)
    ·have g34:¬ (¬ ((ix f_.t.fr (ix f_.ar s27))=(ix f_.ob (ix f_.s.fr s27)))):=gQ;clear g;replace h:=if_r g34 h;replace h:=Q5 h;obtain ⟨a35,h⟩:=h;replace h:=Q5 h;obtain ⟨a36,h⟩:=h;replace h:=Q5 h;obtain ⟨a37,h⟩:=h;replace h:=Q5 h;obtain ⟨a38,h⟩:=h;simp [-Q0,-Q6,-Q1,-Q7,-Q2,at_I a30,at_I a31,at_I a32,at_I a33,at_I a35,at_I a36,at_I a37,at_I a38];(repeat refine sdQ ?_);refine hK _ ?_;exact jn (b:=(ix f_.t.to (ix f_.ar s27)) != (ix f_.ob (ix f_.s.to s27))) (Option.some.inj h) (wkQ8 [(0,0),(1,1),(2,2)])
    have g34:¬ ((ix f_.t.fr (ix f_.ar s27))=(ix f_.ob (ix f_.s.fr s27))):=gQ;clear g;replace h:=if_l g34 h;simp [-Q0,-Q6,-Q1,-Q7,-Q2,at_I a30,at_I a31,at_I a32,at_I a33];(repeat refine sdQ ?_);refine hK _ ?_;exact jn (b:=true) (Option.some.inj h) (wkQ8 [(0,0),(1,1),(2,2)])
   intro b29 hb29;have h:=h29;(try rw [← hb29] at h);clear h29;(try dsimp only at h);refine Qc rfl (fun g=>?_) fun g=>?_
   ·have g39:b29=true:=gQ;clear g;replace h:=if_l g39 h;refine Q4 ?_;refine runQ hN fun K hK=>?_;simp [-Q0,-Q6,-Q1,-Q7,-Q2];(repeat refine sdQ ?_);refine hK _ ?_;clear hK K;refine tn ?_;refine Q8 (st':=⟨[(2,.val (.bool false))],[],0⟩) (wkQ8 []) ?_;refine Qi ?_;refine br ?_;refine tr ?_;refine lr ?_;refine br ?_;refine tr ?_;cases h;have q:_=e13:=hk27;have h:=h13;rw [← q] at h;clear q;(try dsimp only at h);have hr:=Option.some.inj h;rw [← hr];refine ⟨_,(.tmp .nil),?_⟩;refine ⟨(.one rfl rfl .nil),[.val (.bool false)],[],by simp [Cat.cells,Fn.cells,UA,U1,IA,I1,LA,L1,BA,B1,EA,E1,E2,eB,eI,eL],by simp,(UpL.refl _)⟩
   have g39:¬ (b29=true):=gQ;clear g;replace h:=if_r g39 h;refine Qd ?_;refine bn ?_;refine tn ?_;refine runQ hN fun K hK=>?_;replace h:=Q5 h;obtain ⟨a40,h⟩:=h;simp [-Q0,-Q6,-Q1,-Q7,-Q2,Qp a40];(repeat refine sdQ ?_);refine hK _ ?_;clear hK K;cases h;exact rn (s':=s27+1) hk27 (wkQ8 [(0,0),(1,1),(2,2)])
  have g28:¬ (s27<(f_.s.fr.length:Int)):=gQ;clear g;replace h:=if_r g28 h;refine Qj ?_;refine tx ?_;refine lx ?_;refine bh ?_;cases h;exact jn (b:=()) hk27 (wkQ8 [(0,0),(1,1),(2,2)])
 intro b13 hb13;have h:=h13;try rw [← hb13] at h
 clear h13;try dsimp only at h
 refine Q4 ?_;refine Q4 ?_;refine runQ hN fun K hK=>?_;simp [-Q0,-Q6,-Q1,-Q7,-Q2];repeat refine sdQ ?_
 refine hK _ ?_;clear hK K;refine tn ?_;refine Q8 (st':=⟨[(1,.adr 0 0 0),(3,.adr 1 0 0),(4,.adr 2 0 0),(6,iV 0)],[(0,.mix 12 [(Fn.cells true f_)]),(1,.mix 5 [(Cat.cells true f_.s)]),(2,.mix 5 [(Cat.cells true f_.t)])],3⟩) (wkQ8 [(0,0),(1,1),(2,2)]) ?_;replace h:=bind_some h;obtain ⟨e41,h,h41⟩:=h;refine Qh (fun b41:Unit=>⟨[(1,.adr 0 0 0),(3,.adr 1 0 0),(4,.adr 2 0 0)],[(0,.mix 12 [(Fn.cells true f_)]),(1,.mix 5 [(Cat.cells true f_.s)]),(2,.mix 5 [(Cat.cells true f_.t)])],3⟩) (fun b41=>Sum.inl b41=e41) ?_ ?_
 ·refine Qa ?_;refine Qs h (fun s49:Int=>⟨[(1,.adr 0 0 0),(3,.adr 1 0 0),(4,.adr 2 0 0),(6,iV s49)],[(0,.mix 12 [(Fn.cells true f_)]),(1,.mix 5 [(Cat.cells true f_.s)]),(2,.mix 5 [(Cat.cells true f_.t)])],3⟩) (wkQ8 [(0,0),(1,1),(2,2)]) ?_;clear h;intro k49 s49 c49 h hk49;refine Q4 ?_;refine Q4 ?_;refine runQ hN fun K hK=>?_;simp [-Q0,-Q6,-Q1,-Q7,-Q2];repeat refine sdQ ?_
  refine hK _ ?_;clear hK K;refine tn ?_;refine Q8 (st':=⟨[(1,.adr 0 0 0),(3,.adr 1 0 0),(4,.adr 2 0 0),(6,iV s49),(103,.val (.bool (decide (s49<f_.s.n))))],[(0,.mix 12 [(Fn.cells true f_)]),(1,.mix 5 [(Cat.cells true f_.s)]),(2,.mix 5 [(Cat.cells true f_.t)])],3⟩) (wkQ8 [(0,0),(1,1),(2,2)]) ?_;refine Qc rfl (fun g=>?_) fun g=>?_
  ·have g50:s49<f_.s.n:=gQ;clear g;replace h:=if_l g50 h;refine Qd ?_;refine tn ?_;refine Q4 ?_;refine Qa ?_;refine Q4 ?_;refine runQ hN fun K hK=>?_;replace h:=Q5 h;obtain ⟨a51,h⟩:=h;replace h:=Q5 h;obtain ⟨a52,h⟩:=h;replace h:=Q5 h;obtain ⟨a53,h⟩:=h;replace h:=Q5 h;obtain ⟨a54,h⟩:=h;simp [-Q0,-Q6,-Q1,-Q7,-Q2,at_I a51,at_I a52,at_I a53,at_I a54];(repeat refine sdQ ?_);refine hK _ ?_;clear hK K;refine tn ?_;refine Q8 (st':=⟨[(1,.adr 0 0 0),(3,.adr 1 0 0),(4,.adr 2 0 0),(6,iV s49),(124,.val (.bool ((ix f_.ar (ix f_.s.id s49)) != (ix f_.t.id (ix f_.ob s49)))))],[(0,.mix 12 [(Fn.cells true f_)]),(1,.mix 5 [(Cat.cells true f_.s)]),(2,.mix 5 [(Cat.cells true f_.t)])],3⟩) (wkQ8 [(0,0),(1,1),(2,2)]) ?_;refine Qc rfl (fun g=>?_) fun g=>?_
   ·have g55:¬ ((ix f_.ar (ix f_.s.id s49))=(ix f_.t.id (ix f_.ob s49))):=gQ;clear g;replace h:=if_l g55 h;refine Q4 ?_;refine runQ hN fun K hK=>?_;simp [-Q0,-Q6,-Q1,-Q7,-Q2];(repeat refine sdQ ?_);refine hK _ ?_;clear hK K;refine tn ?_;refine Q8 (st':=⟨[(2,.val (.bool false))],[],0⟩) (wkQ8 []) ?_;refine Qi ?_;refine br ?_;refine tr ?_;refine lr ?_;refine br ?_;refine tr ?_;cases h;have q:_=e41:=hk49;have h:=h41;rw [← q] at h;clear q;(try dsimp only at h);have hr:=Option.some.inj h;rw [← hr];refine ⟨_,(.tmp .nil),?_⟩;refine ⟨(.one rfl rfl .nil),[.val (.bool false)],[],by simp [Cat.cells,Fn.cells,UA,U1,IA,I1,LA,L1,BA,B1,EA,E1,E2,eB,eI,eL],by simp,(UpL.refl _)⟩
   have g55:¬ (¬ ((ix f_.ar (ix f_.s.id s49))=(ix f_.t.id (ix f_.ob s49)))):=gQ;clear g;replace h:=if_r g55 h;refine Qd ?_;refine bn ?_;refine tn ?_;refine runQ hN fun K hK=>?_;replace h:=Q5 h;obtain ⟨a56,h⟩:=h;simp [-Q0,-Q6,-Q1,-Q7,-Q2,Qp a56];(repeat refine sdQ ?_);refine hK _ ?_;clear hK K;cases h;exact rn (s':=s49+1) hk49 (wkQ8 [(0,0),(1,1),(2,2)])
  have g50:¬ (s49<f_.s.n):=gQ;clear g;replace h:=if_r g50 h;refine Qj ?_;refine tx ?_;refine lx ?_;refine bh ?_;cases h;exact jn (b:=()) hk49 (wkQ8 [(0,0),(1,1),(2,2)])
 intro b41 hb41;have h:=h41;try rw [← hb41] at h
 clear h41;try dsimp only at h
 refine Q4 ?_;refine Q4 ?_;refine runQ hN fun K hK=>?_;simp [-Q0,-Q6,-Q1,-Q7,-Q2];repeat refine sdQ ?_
 refine hK _ ?_;clear hK K;refine tn ?_;refine Q8 (st':=⟨[(1,.adr 0 0 0),(3,.adr 1 0 0),(4,.adr 2 0 0),(7,iV 0)],[(0,.mix 12 [(Fn.cells true f_)]),(1,.mix 5 [(Cat.cells true f_.s)]),(2,.mix 5 [(Cat.cells true f_.t)])],3⟩) (wkQ8 [(0,0),(1,1),(2,2)]) ?_;replace h:=bind_some h;obtain ⟨e57,h,h57⟩:=h;refine Qh (fun b57:Unit=>⟨[],[],0⟩) (fun b57=>Sum.inl b57=e57) ?_ ?_
 ·refine Qa ?_;refine Qs h (fun s90:Int=>⟨[(1,.adr 0 0 0),(3,.adr 1 0 0),(4,.adr 2 0 0),(7,iV s90)],[(0,.mix 12 [(Fn.cells true f_)]),(1,.mix 5 [(Cat.cells true f_.s)]),(2,.mix 5 [(Cat.cells true f_.t)])],3⟩) (wkQ8 [(0,0),(1,1),(2,2)]) ?_;clear h;intro k90 s90 c90 h hk90;refine Q4 ?_;refine Q4 ?_;refine runQ hN fun K hK=>?_;simp [-Q0,-Q6,-Q1,-Q7,-Q2];repeat refine sdQ ?_
  refine hK _ ?_;clear hK K;refine tn ?_;refine Q8 (st':=⟨[(1,.adr 0 0 0),(3,.adr 1 0 0),(4,.adr 2 0 0),(7,iV s90),(129,.val (.bool (decide (s90<(f_.s.fr.length:Int)))))],[(0,.mix 12 [(Fn.cells true f_)]),(1,.mix 5 [(Cat.cells true f_.s)]),(2,.mix 5 [(Cat.cells true f_.t)])],3⟩) (wkQ8 [(0,0),(1,1),(2,2)]) ?_;refine Qc rfl (fun g=>?_) fun g=>?_
  ·have g91:s90<(f_.s.fr.length:Int):=gQ;clear g;replace h:=if_l g91 h;refine Qd ?_;refine tn ?_;refine Q4 ?_;replace h:=bind_some h;obtain ⟨e92,h,h92⟩:=h;refine Qh (fun b92:Unit=>⟨[(1,.adr 0 0 0),(3,.adr 1 0 0),(4,.adr 2 0 0),(7,iV s90)],[(0,.mix 12 [(Fn.cells true f_)]),(1,.mix 5 [(Cat.cells true f_.s)]),(2,.mix 5 [(Cat.cells true f_.t)])],3⟩) (fun b92=>Sum.inl b92=e92) ?_ ?_
   ·refine Qa ?_;refine Q4 ?_;refine runQ hN fun K hK=>?_;simp [-Q0,-Q6,-Q1,-Q7,-Q2];(repeat refine sdQ ?_);refine hK _ ?_;clear hK K;refine tn ?_;refine Q8 (st':=⟨[(1,.adr 0 0 0),(3,.adr 1 0 0),(4,.adr 2 0 0),(7,iV s90),(8,iV 0)],[(0,.mix 12 [(Fn.cells true f_)]),(1,.mix 5 [(Cat.cells true f_.s)]),(2,.mix 5 [(Cat.cells true f_.t)])],3⟩) (wkQ8 [(0,0),(1,1),(2,2)]) ?_;refine Qa ?_;replace h:=bind_some h;obtain ⟨e107,he107,h107⟩:=h;refine Qs he107 (fun s107:Int=>⟨[(1,.adr 0 0 0),(3,.adr 1 0 0),(4,.adr 2 0 0),(7,iV s90),(8,iV s107)],[(0,.mix 12 [(Fn.cells true f_)]),(1,.mix 5 [(Cat.cells true f_.s)]),(2,.mix 5 [(Cat.cells true f_.t)])],3⟩) (wkQ8 [(0,0),(1,1),(2,2)]) ?_;intro k107 s107 c107 h hk107;refine Q4 ?_;refine Q4 ?_;refine runQ hN fun K hK=>?_;simp [-Q0,-Q6,-Q1,-Q7,-Q2];(repeat refine sdQ ?_);refine hK _ ?_;clear hK K;refine tn ?_;refine Q8 (st':=⟨[(1,.adr 0 0 0),(3,.adr 1 0 0),(4,.adr 2 0 0),(7,iV s90),(8,iV s107),(136,.val (.bool (decide (s107<(f_.s.fr.length:Int)))))],[(0,.mix 12 [(Fn.cells true f_)]),(1,.mix 5 [(Cat.cells true f_.s)]),(2,.mix 5 [(Cat.cells true f_.t)])],3⟩) (wkQ8 [(0,0),(1,1),(2,2)]) ?_;refine Qc rfl (fun g=>?_) fun g=>?_
    ·have g108:s107<(f_.s.fr.length:Int):=gQ;clear g;replace h:=if_l g108 h;refine Qd ?_;refine tn ?_;refine Q4 ?_;refine Qa ?_;refine Q4 ?_;replace h:=bind_some h;obtain ⟨e109,h,h109⟩:=h;refine Qh (fun b109:Bool=>⟨[(1,.adr 0 0 0),(3,.adr 1 0 0),(4,.adr 2 0 0),(7,iV s90),(8,iV s107),(180,.val (.bool b109))],[(0,.mix 12 [(Fn.cells true f_)]),(1,.mix 5 [(Cat.cells true f_.s)]),(2,.mix 5 [(Cat.cells true f_.t)])],3⟩) (fun b109=>b109=e109) ?_ ?_
     ·refine runQ hN fun K hK=>?_;replace h:=Q5 h;obtain ⟨a110,h⟩:=h;replace h:=Q5 h;obtain ⟨a111,h⟩:=h;simp [-Q0,-Q6,-Q1,-Q7,-Q2,at_I a110,at_I a111];(repeat with_reducible refine sdQ ?_);refine Qw (fun g=>?_) (fun g=>?_)
      ·have g112:(ix f_.s.to s90)=(ix f_.s.fr s107):=gQ;clear g;replace h:=if_l g112 h;replace h:=Q5 h;obtain ⟨a113,h⟩:=h;replace h:=Q5 h;obtain ⟨a114,h⟩:=h;replace h:=Q5 h;obtain ⟨a115,h⟩:=h;replace h:=Q5 h;obtain ⟨a116,h⟩:=h;replace h:=Q5 h;obtain ⟨a117,h⟩:=h;replace h:=Q5 h;obtain ⟨a118,h⟩:=h;replace h:=Q5 h;obtain ⟨a119,h⟩:=h;simp [-Q0,-Q6,-Q1,-Q7,-Q2,at_I a110,at_I a111,at_L a113,at_I a114,at_I a115,at_I a116,at_L a117,at_I a118,at_I a119];(repeat refine sdQ ?_);refine hK _ ?_;exact jn (b:=(ix f_.ar (ix (rx f_.s.cs s90) s107)) != (ix (rx f_.t.cs (ix f_.ar s90)) (ix f_.ar s107))) (Option.some.inj h) (wkQ8 [(0,0),(1,1),(2,2)])
      have g112:¬ ((ix f_.s.to s90)=(ix f_.s.fr s107)):=gQ;clear g;replace h:=if_r g112 h;simp [-Q0,-Q6,-Q1,-Q7,-Q2,at_I a110,at_I a111];(repeat refine sdQ ?_);refine hK _ ?_;exact jn (b:=false) (Option.some.inj h) (wkQ8 [(0,0),(1,1),(2,2)])
     intro b109 hb109;have h:=h109;(try rw [← hb109] at h);clear h109;(try dsimp only at h);refine Qc rfl (fun g=>?_) fun g=>?_
     ·have g120:b109=true:=gQ;clear g;replace h:=if_l g120 h;refine Q4 ?_;refine runQ hN fun K hK=>?_;simp [-Q0,-Q6,-Q1,-Q7,-Q2];(repeat refine sdQ ?_);refine hK _ ?_;clear hK K;refine tn ?_;refine Q8 (st':=⟨[(2,.val (.bool false))],[],0⟩) (wkQ8 []) ?_;refine Qi ?_;refine br ?_;refine tr ?_;refine lr ?_;refine br ?_;refine br ?_;refine tr ?_;refine lr ?_;refine br ?_;refine tr ?_;cases h;have q:_=e107:=hk107;have h:=h107;rw [← q] at h;clear q;(try dsimp only at h);cases h;have h:=h92;(try dsimp only at h);cases h;have q:_=e57:=hk90;have h:=h57;rw [← q] at h;clear q;(try dsimp only at h);have hr:=Option.some.inj h;rw [← hr];refine ⟨_,(.tmp .nil),?_⟩;refine ⟨(.one rfl rfl .nil),[.val (.bool false)],[],by simp [Cat.cells,Fn.cells,UA,U1,IA,I1,LA,L1,BA,B1,EA,E1,E2,eB,eI,eL],by simp,(UpL.refl _)⟩
     have g120:¬ (b109=true):=gQ;clear g;replace h:=if_r g120 h;refine Qd ?_;refine bn ?_;refine tn ?_;refine runQ hN fun K hK=>?_;replace h:=Q5 h;obtain ⟨a121,h⟩:=h;simp [-Q0,-Q6,-Q1,-Q7,-Q2,Qp a121];(repeat refine sdQ ?_);refine hK _ ?_;clear hK K;cases h;exact rn (s':=s107+1) hk107 (wkQ8 [(0,0),(1,1),(2,2)])
    have g108:¬ (s107<(f_.s.fr.length:Int)):=gQ;clear g;replace h:=if_r g108 h;refine Qj ?_;refine tx ?_;refine lx ?_;refine bh ?_;refine bn ?_;cases h;have q:_=e107:=hk107;have h:=h107;rw [← q] at h;clear q;(try dsimp only at h);exact jn (b:=()) (Option.some.inj h) (wkQ8 [(0,0),(1,1),(2,2)])
   intro b92 hb92;have h:=h92;(try rw [← hb92] at h);clear h92;(try dsimp only at h);refine runQ hN fun K hK=>?_;replace h:=Q5 h;obtain ⟨a122,h⟩:=h;simp [-Q0,-Q6,-Q1,-Q7,-Q2,Qp a122];(repeat refine sdQ ?_);refine hK _ ?_;clear hK K;cases h;exact rn (s':=s90+1) hk90 (wkQ8 [(0,0),(1,1),(2,2)])
  have g91:¬ (s90<(f_.s.fr.length:Int)):=gQ;clear g;replace h:=if_r g91 h;refine Qj ?_;refine tx ?_;refine lx ?_;refine bh ?_;cases h;exact jn (b:=()) hk90 (wkQ8 [])
 intro b57 hb57;have h:=h57;try rw [← hb57] at h
 clear h57;try dsimp only at h
 refine Q4 ?_;refine runQ hN fun K hK=>?_;simp [-Q0,-Q6,-Q1,-Q7,-Q2];repeat refine sdQ ?_
 refine hK _ ?_;clear hK K;refine tn ?_;refine Q8 (st':=⟨[(2,.val (.bool true))],[],0⟩) (wkQ8 []) ?_;refine Qi ?_;have hr:=Option.some.inj h;rw [← hr];refine ⟨_,(.tmp .nil),?_⟩;refine ⟨(.one rfl rfl .nil),[.val (.bool true)],[],by simp [Cat.cells,Fn.cells,UA,U1,IA,I1,LA,L1,BA,B1,EA,E1,E2,eB,eI,eL],by simp,(UpL.refl _)⟩
structure Fn.Is (f:Fn):Prop where
 s:f.s.Is
 t:f.t.Is
 lo:(f.ob.length:Int)=f.s.n
 la:f.ar.length=f.s.fr.length
 ob:∀ j:Nat,j<f.ob.length→0≤ix f.ob j∧ix f.ob j<f.t.n
 ar:∀ j:Nat,j<f.ar.length→0≤ix f.ar j∧ix f.ar j<f.t.fr.length
 ends:∀ a:Nat,a<f.s.fr.length→ix f.t.fr (ix f.ar a)=ix f.ob (ix f.s.fr a)∧ix f.t.to (ix f.ar a)=ix f.ob (ix f.s.to a)
 ids:∀ x:Nat,x<f.s.id.length→ix f.ar (ix f.s.id x)=ix f.t.id (ix f.ob x)
 comp:∀ a:Nat,a<f.s.fr.length→∀ b:Nat,b<f.s.fr.length→ix f.s.to a=ix f.s.fr b→ix f.ar (ix (rx f.s.cs a) b)=ix (rx f.t.cs (ix f.ar a)) (ix f.ar b)
theorem Cat.Sh.frn {c:Cat} (h:c.Sh) {a:Nat} (ha:a<c.fr.length):(0≤ix c.fr a∧ix c.fr a<c.id.length)∧(0≤ix c.to a∧ix c.to a<c.id.length):=⟨h.fr' (by omega) (by omega),h.to' (by omega) (by omega)⟩
theorem Cat.Sh.idn {c:Cat} (h:c.Sh) {a:Nat} (ha:a<c.id.length):0≤ix c.id a∧ix c.id a<c.fr.length:=h.id' (by omega) (by omega)
theorem Cat.Sh.cmp {c:Cat} (h:c.Sh) {f g:Int} (h0:0≤f) (h1:f<c.fr.length) (h2:0≤g) (h3:g<c.fr.length) (e:ix c.to f=ix c.fr g):0≤ix (rx c.cs f) g∧ix (rx c.cs f) g<c.fr.length:=by
 have:=(h.cell' h0 h1 h2 h3).2 e;omega
theorem e_l06Is (f:Fn):Q3z f=some (bo f.Is):=by
 unfold Q3z
 by_cases h1:f.s.Is
 case neg=>rw [QB (show ¬ f.Is from fun q=>h1 q.s)];simp [Q1c,bo,h1]
 by_cases h2:f.t.Is
 case neg=>rw [QB (show ¬ f.Is from fun q=>h2 q.t)];simp [Q1c,bo,h1,h2]
 by_cases h3:(f.ob.length:Int)=f.s.n
 case neg=>rw [QB (show ¬ f.Is from fun q=>h3 q.lo)];simp [Q1c,bo,h1,h2,h3]
 by_cases h4:(f.ar.length:Int)=f.s.fr.length
 case neg=>rw [QB (show ¬ f.Is from fun q=>h4 (by rw [q.la]))];simp [Q1c,bo,h1,h2,h3,h4]
 by_cases h5:f.ob.all (inR f.t.n)=true
 case neg=>rw [QB (show ¬ f.Is from fun q=>h5 (all_inR.2 q.ob))];simp [Q1c,Q1V,bo,h1,h2,h3,h4,h5]
 by_cases h6:f.ar.all (inR f.t.fr.length)=true
 case neg=>rw [QB (show ¬ f.Is from fun q=>h6 (all_inR.2 q.ar))];simp [Q1c,Q1V,bo,h1,h2,h3,h4,h5,h6]
 have ho:=all_inR.1 h5;have ha:=all_inR.1 h6;have hs:=h1.1;have ht:=h2.1;simp only [Q1c,Q1V,QO h1,QO h2,h3,h4,h5,h6,Option.bind_some,if_true,if_false,not_true_eq_false,bne_self_eq_false,Bool.not_true,Bool.false_eq_true];refine Q2b f.s.fr.length (fun a:Nat=>ix f.t.fr (ix f.ar a)=ix f.ob (ix f.s.fr a)∧ix f.t.to (ix f.ar a)=ix f.ob (ix f.s.to a)) (eb:=Sum.inr false) (eg:=Sum.inl ()) (by have:=hs.m40;omega) (fun a hi hp=>?_) (fun a hi hp=>?_) ?_ (fun hx=>?_) fun q1=>?_
 ·have:=hs.frn hi;have:=ha a (by omega);have:=hs.lt;have:=ht.lt;have:=hs.li;have:=hs.m40;simp (disch:=omega) only [Q9,if_pos,B64,hp.1,hp.2,Option.bind_some,not_true_eq_false,if_false,bne_self_eq_false,Bool.false_eq_true]
 ·have:=hs.frn hi;have:=ha a (by omega);have:=hs.lt;have:=ht.lt;have:=hs.li;have:=hs.m40
  by_cases hp1:ix f.t.fr (ix f.ar a)=ix f.ob (ix f.s.fr a)
  ·have hp2:¬ ix f.t.to (ix f.ar a)=ix f.ob (ix f.s.to a):=fun h=>hp ⟨hp1,h⟩;simp (disch:=omega) [Q9,B64,hp1,hp2,hi]
  simp (disch:=omega) [Q9,B64,hp1,hi]
 ·simp
 ·rw [QB (show ¬ f.Is from fun q=>hx q.ends)]
 simp only;refine Q2b f.s.id.length (fun x:Nat=>ix f.ar (ix f.s.id x)=ix f.t.id (ix f.ob x)) (eb:=Sum.inr false) (eg:=Sum.inl ()) (by have:=hs.n8;have:=hs.li;omega) (fun a hi hp=>?_) (fun a hi hp=>?_) ?_ (fun hx=>?_) fun q2=>?_
 ·have:=hs.idn hi;have:=ho a (by have:=hs.li;omega);have:=hs.li;have:=ht.li;have:=hs.n8;simp (disch:=omega) [Q9,B64,hp];omega
 ·have:=hs.idn hi;have:=ho a (by have:=hs.li;omega);have:=hs.li;have:=ht.li;have:=hs.n8;simp (disch:=omega) [Q9,B64,hp];omega
 ·simp [hs.li]
 ·rw [QB (show ¬ f.Is from fun q=>hx q.ids)]
 simp only;refine Q2b f.s.fr.length (fun a:Nat=>∀ b:Nat,b<f.s.fr.length→ix f.s.to a=ix f.s.fr b→ix f.ar (ix (rx f.s.cs a) b)=ix (rx f.t.cs (ix f.ar a)) (ix f.ar b)) (eb:=Sum.inr false) (eg:=Sum.inl ()) (by have:=hs.m40;omega) (fun a hi hp=>?_) (fun a hi hp=>?_) ?_ (fun hx=>?_) fun q3=>?_;rotate_left 2
 ·simp
 ·rw [QB (show ¬ f.Is from fun q=>hx q.comp)]
 ·rw [QO (show f.Is from ⟨h1,h2,h3,by omega,ho,ha,q1,q2,q3⟩)]
 all_goals
  have m40:=hs.m40;have h7:=hs.lt;have h8:=ha a (by omega);have h9:=hs.lc;have h10:=ht.lc;have h11:=hs.row' (j:=a) (by omega) (by omega);have h12:=ht.row' (j:=ix f.ar a) (by omega) (by omega);rw [if_pos (by omega)]
 all_goals
  rw [Option.bind_assoc];refine Q2b f.s.fr.length (fun b:Nat=>ix f.s.to a=ix f.s.fr b→ix f.ar (ix (rx f.s.cs a) b)=ix (rx f.t.cs (ix f.ar a)) (ix f.ar b)) (eb:=Sum.inl false) (eg:=Sum.inr ()) (by omega) (fun b hb hq=>?_) (fun b hb hq=>?_) ?_ (fun hn=>?_) fun hn=>?_
 all_goals first
  | exact absurd hp hn
  | exact absurd hn hp
  | (simp (disch:=omega) [Q9,B64];done)
  | skip
 all_goals
  have h13:=ha b (by omega)
  by_cases h14:ix f.s.to a=ix f.s.fr b
  ·have h15:=hs.cmp (f:=a) (g:=b) (by omega) (by omega) (by omega) (by omega) h14;first
    | (have hq1:=hq h14;simp (disch:=omega) [Q9,B64,h14,hq1,hb])
    | (have hq1:=fun e=>hq (fun _=>e);simp (disch:=omega) [Q9,B64,h14,hq1,hb];exact hq1)
  first
   | (simp (disch:=omega) [Q9,B64,h14,hb];done)
   | exact absurd (fun e=>absurd e h14) hq
attribute [local simp] eL eI Qn QC Q4n Cat.cells Fn.cells
noncomputable def Q1B (c_:Cat) (d_:Cat) (objects_:List Int) (arrows_:List Int):Option Fn :=
 (Q1a c_).bind fun v1 =>
 (Q1a d_).bind fun v2 =>
 (Q3y objects_).bind fun v3 =>
 (Q3y arrows_).bind fun v4 =>
 some (⟨v1,v2,v3,v4⟩:Fn)
theorem Q43 (c_:Cat) (d_:Cat) (objects_:List Int) (arrows_:List Int) (r:Fn) (h:Q1B c_ d_ objects_ arrows_=some r):Contract Try.prog 87 [.rptr (c_.cells true),.rptr (d_.cells true),lI objects_,lI arrows_] (.agg (r.cells true)):=by
 refine Qe (rvs:=[.cell 8 44]) (rs:=[.agg (r.cells true)]) Try.func87 rfl rfl rfl rfl (by simp [Try.f87]) fun F hN hP=>?_;unfold Q1B at h;refine Q4 ?_;refine runQ hN fun K hK=>?_;simp [-Q0,-Q6,-Q1,-Q7,-Q2];repeat refine sdQ ?_
 refine hK _ ?_;clear hK K;refine tn ?_;refine Q8 (st':=⟨[(0,.rptr (Cat.cells true c_)),(1,.rptr (Cat.cells true d_)),(2,lI objects_),(3,lI arrows_),(8,.adr 0 0 0)],[(0,.mix 12 [[iV 0,.val (.slice none 0 0),.val (.slice none 0 0),.val (.slice none 0 0),.val (.slice none 0 0),iV 0,.val (.slice none 0 0),.val (.slice none 0 0),.val (.slice none 0 0),.val (.slice none 0 0),.val (.slice none 0 0),.val (.slice none 0 0)]])],1⟩) (wkQ8 [(0,0)]) ?_;refine Q4 ?_;refine runQ hN fun K hK=>?_;simp [-Q0,-Q6,-Q1,-Q7,-Q2];repeat with_reducible refine sdQ ?_
 replace h:=bind_some h;obtain ⟨v1,hv1,h⟩:=h;refine Q3 (Q2Z _ v1 hv1) (.cons (.preT (by simp [Cat.cells])) .nil) ?_;simp [-Q0,-Q6,-Q1,-Q7,-Q2,unk,unA,unE,unT,unC,flat];repeat with_reducible refine sdQ ?_
 replace h:=bind_some h;obtain ⟨v2,hv2,h⟩:=h;refine Q3 (Q2Z _ v2 hv2) (.cons (.preT (by simp [Cat.cells])) .nil) ?_;simp [-Q0,-Q6,-Q1,-Q7,-Q2,unk,unA,unE,unT,unC,flat];repeat with_reducible refine sdQ ?_
 replace h:=bind_some h;obtain ⟨v3,hv3,h⟩:=h;refine Q3 (Q76 _ v3 hv3) (.cons .lst .nil) ?_;simp [-Q0,-Q6,-Q1,-Q7,-Q2,unk,unA,unE,unT,unC,flat];repeat with_reducible refine sdQ ?_
 replace h:=bind_some h;obtain ⟨v4,hv4,h⟩:=h;refine Q3 (Q76 _ v4 hv4) (.cons .lst .nil) ?_;simp [-Q0,-Q6,-Q1,-Q7,-Q2,unk,unA,unE,unT,unC,flat];repeat refine sdQ ?_
 refine hK _ ?_;clear hK K;refine tn ?_;refine Q8 (st':=⟨[(8,.adr 0 0 0)],[(0,.mix 12 [[iV v1.n,.own 1 0 v1.fr.length,.own 2 0 v1.to.length,.own 3 0 v1.id.length,.own 4 0 v1.cs.length,iV v2.n,.own 5 0 v2.fr.length,.own 6 0 v2.to.length,.own 7 0 v2.id.length,.own 8 0 v2.cs.length,.own 9 0 v3.length,.own 10 0 v4.length]]),(1,rI v1.fr),(2,rI v1.to),(3,rI v1.id),(4,.row 1 (Ls v1.cs)),(5,rI v2.fr),(6,rI v2.to),(7,rI v2.id),(8,.row 1 (Ls v2.cs)),(9,rI v3),(10,rI v4)],11⟩) (wkQ8 [(0,0),(2,1),(3,2),(4,3),(5,4),(7,5),(8,6),(9,7),(10,8),(11,9),(12,10)]) ?_;refine Qi ?_;have hr:=Option.some.inj h;rw [← hr];refine ⟨_,(.cell Q4j rfl rfl rfl (by simp) (by simp) .nil),?_⟩;refine ⟨(.agg rfl .nil),[iV v1.n,lI v1.fr,lI v1.to,lI v1.id,.lst true 1 (Ls v1.cs),iV v2.n,lI v2.fr,lI v2.to,lI v2.id,.lst true 1 (Ls v2.cs),lI v3,lI v4],[1,2,3,4,5,6,7,8,9,10],by simp [Cat.cells,Fn.cells,UA,U1,IA,I1,LA,L1,BA,B1,EA,E1,E2,eB,eI,eL],by simp,(UpL.refl _)⟩
attribute [local simp] eL eI Qn QC Q4n Cat.cells Fn.cells
noncomputable def QJ (f_:Fn) (g_:Fn):Option Fn :=
 (Q4g f_.ob g_.ob).bind fun v1 =>
 (Q4g f_.ar g_.ar).bind fun v2 =>
 (Q1B f_.s g_.t v1 v2).bind fun v3 =>
 some v3
theorem Q3g (f_:Fn) (g_:Fn) (r:Fn) (h:QJ f_ g_=some r):Contract Try.prog 106 [.rptr (f_.cells true),.rptr (g_.cells true)] (.agg (r.cells true)):=by
 refine Qe (rvs:=[.cell 4 44]) (rs:=[.agg (r.cells true)]) Try.func106 rfl rfl rfl rfl (by simp [Try.f106]) fun F hN hP=>?_;unfold QJ at h;refine Q4 ?_;refine runQ hN fun K hK=>?_;simp [-Q0,-Q6,-Q1,-Q7,-Q2];repeat refine sdQ ?_
 refine hK _ ?_;clear hK K;refine tn ?_;refine Q8 (st':=⟨[(0,.rptr (Fn.cells true f_)),(1,.rptr (Fn.cells true g_)),(4,.adr 0 0 0)],[(0,.mix 12 [[iV 0,.val (.slice none 0 0),.val (.slice none 0 0),.val (.slice none 0 0),.val (.slice none 0 0),iV 0,.val (.slice none 0 0),.val (.slice none 0 0),.val (.slice none 0 0),.val (.slice none 0 0),.val (.slice none 0 0),.val (.slice none 0 0)]])],1⟩) (wkQ8 [(0,0)]) ?_;refine Q4 ?_;refine runQ hN fun K hK=>?_;simp [-Q0,-Q6,-Q1,-Q7,-Q2];repeat with_reducible refine sdQ ?_
 replace h:=bind_some h;obtain ⟨v1,hv1,h⟩:=h;refine Q3 (Q8r _ _ v1 hv1) (.cons .lst (.cons .lst .nil)) ?_;simp [-Q0,-Q6,-Q1,-Q7,-Q2,unk,unA,unE,unT,unC,flat];repeat with_reducible refine sdQ ?_
 replace h:=bind_some h;obtain ⟨v2,hv2,h⟩:=h;refine Q3 (Q8r _ _ v2 hv2) (.cons .lst (.cons .lst .nil)) ?_;simp [-Q0,-Q6,-Q1,-Q7,-Q2,unk,unA,unE,unT,unC,flat];repeat with_reducible refine sdQ ?_
 replace h:=bind_some h;obtain ⟨v3,hv3,h⟩:=h;refine Q3 (Q43 _ _ _ _ v3 hv3) (.cons (.preT (by simp [Cat.cells,Fn.cells])) (.cons (.preT (by simp [Cat.cells,Fn.cells])) (.cons (.whole (by simp) (by simp) (by simp)) (.cons (.whole (by simp) (by simp) (by simp)) .nil)))) ?_;simp [-Q0,-Q6,-Q1,-Q7,-Q2,unk,unA,unE,unT,unC,flat];repeat refine sdQ ?_
 refine hK _ ?_;clear hK K;refine tn ?_;refine Q8 (st':=⟨[(4,.adr 0 0 0)],[(0,.mix 12 [[iV v3.s.n,.own 1 0 v3.s.fr.length,.own 2 0 v3.s.to.length,.own 3 0 v3.s.id.length,.own 4 0 v3.s.cs.length,iV v3.t.n,.own 5 0 v3.t.fr.length,.own 6 0 v3.t.to.length,.own 7 0 v3.t.id.length,.own 8 0 v3.t.cs.length,.own 9 0 v3.ob.length,.own 10 0 v3.ar.length]]),(1,rI v3.s.fr),(2,rI v3.s.to),(3,rI v3.s.id),(4,.row 1 (Ls v3.s.cs)),(5,rI v3.t.fr),(6,rI v3.t.to),(7,rI v3.t.id),(8,.row 1 (Ls v3.t.cs)),(9,rI v3.ob),(10,rI v3.ar)],11⟩) (wkQ8 [(0,0),(4,1),(5,2),(6,3),(7,4),(9,5),(10,6),(11,7),(12,8),(13,9),(14,10)]) ?_;refine Qi ?_;have hr:=Option.some.inj h;rw [← hr];refine ⟨_,(.cell Q4j rfl rfl rfl (by simp) (by simp) .nil),?_⟩;refine ⟨(.agg rfl .nil),[iV v3.s.n,lI v3.s.fr,lI v3.s.to,lI v3.s.id,.lst true 1 (Ls v3.s.cs),iV v3.t.n,lI v3.t.fr,lI v3.t.to,lI v3.t.id,.lst true 1 (Ls v3.t.cs),lI v3.ob,lI v3.ar],[1,2,3,4,5,6,7,8,9,10],by simp [Cat.cells,Fn.cells,UA,U1,IA,I1,LA,L1,BA,B1,EA,E1,E2,eB,eI,eL],by simp,(UpL.refl _)⟩
attribute [local simp] eL eI Qn
noncomputable def Q2t (n_:Int):Option (List Int) :=
 ass (0≤n_∧n_≤1073741824) <|
 (Qv (σ:=List Int × Int) (ε:=List Int) (fun s6 =>
  if s6.2<((List.replicate n_.toNat 0).length:Int) then
   ass (0≤s6.2∧s6.2<(s6.1.length:Int)) <|
   ass (B64 (s6.2+1)) <|
   some (Ctl.next (s6.1.set s6.2.toNat s6.2,s6.2+1))
  else
   some (Ctl.ret s6.1)) fuel (List.replicate n_.toNat 0,0)).bind fun b2 =>
 some b2
theorem Q7K (n_:Int) (r:List Int) (h:Q2t n_=some r):Contract Try.prog 188 [iV n_] (lI r):=by
 refine Qe (rvs:=[.tmp 2]) (rs:=[lI r]) Try.func188 rfl rfl rfl rfl (by simp [Try.f188]) fun F hN hP=>?_;unfold Q2t at h;refine Q4 ?_;refine runQ hN fun K hK=>?_;simp [-Q0,-Q6,-Q1,-Q7,-Q2];repeat refine sdQ ?_
 refine hK _ ?_;clear hK K;refine tn ?_;refine Q8 (st':=⟨[(0,iV n_)],[],0⟩) (wkQ8 []) ?_;refine Q4 ?_;refine runQ hN fun K hK=>?_;replace h:=Q5 h;obtain ⟨a1,h⟩:=h;simp [-Q0,-Q6,-Q1,-Q7,-Q2];repeat refine sdQ ?_
 refine hK _ ?_;clear hK K;refine tn ?_;refine Q8 (st':=⟨[(3,.own 0 0 ((List.replicate n_.toNat 0).length))],[(0,rI (List.replicate n_.toNat 0))],1⟩) (wkQ8 [(0,0)]) ?_;refine Q4 ?_;refine Q4 ?_;refine runQ hN fun K hK=>?_;simp [-Q0,-Q6,-Q1,-Q7,-Q2];repeat refine sdQ ?_
 refine hK _ ?_;clear hK K;refine tn ?_;refine Q8 (st':=⟨[(3,.own 0 0 ((List.replicate n_.toNat 0).length)),(8,iV ((List.replicate n_.toNat 0).length:Int)),(9,iV 0)],[(0,rI (List.replicate n_.toNat 0))],1⟩) (wkQ8 [(0,0)]) ?_;replace h:=bind_some h;obtain ⟨e2,h,h2⟩:=h;refine Qh (fun b2:List Int=>⟨[(3,.own 0 0 b2.length)],[(0,rI b2)],1⟩) (fun b2=>b2=e2) ?_ ?_
 ·refine Qa ?_;refine Qs h (fun s6:List Int × Int=>⟨[(3,.own 0 0 s6.1.length),(8,iV ((List.replicate n_.toNat 0).length:Int)),(9,iV s6.2)],[(0,rI s6.1)],1⟩) (wkQ8 [(0,0)]) ?_;clear h;intro k6 s6 c6 h hk6;refine Q4 ?_;refine runQ hN fun K hK=>?_;simp [-Q0,-Q6,-Q1,-Q7,-Q2];repeat refine sdQ ?_
  refine hK _ ?_;clear hK K;refine tn ?_;refine Q8 (st':=⟨[(3,.own 0 0 s6.1.length),(8,iV ((List.replicate n_.toNat 0).length:Int)),(9,iV s6.2),(10,.val (.bool (decide (s6.2<((List.replicate n_.toNat 0).length:Int)))))],[(0,rI s6.1)],1⟩) (wkQ8 [(0,0)]) ?_;refine Q4 ?_;refine Qc rfl (fun g=>?_) fun g=>?_
  ·have g7:s6.2<((List.replicate n_.toNat 0).length:Int):=gQ;clear g;replace h:=if_l g7 h;refine Qd ?_;refine tn ?_;refine Q4 ?_;refine Qa ?_;refine Q4 ?_;refine runQ hN fun K hK=>?_;simp [-Q0,-Q6,-Q1,-Q7,-Q2];(repeat refine sdQ ?_);refine hK _ ?_;clear hK K;refine tn ?_;refine Q8 (st':=⟨[(3,.own 0 0 s6.1.length),(4,iV s6.2),(8,iV ((List.replicate n_.toNat 0).length:Int)),(9,iV s6.2)],[(0,rI s6.1)],1⟩) (wkQ8 [(0,0)]) ?_;refine runQ hN fun K hK=>?_;replace h:=Q5 h;obtain ⟨a8,h⟩:=h;simp [-Q0,-Q6,-Q1,-Q7,-Q2,at_I a8];(repeat refine sdQ ?_);refine hK _ ?_;clear hK K;refine bn ?_;refine tn ?_;refine Q8 (st':=⟨[(3,.own 0 0 ((s6.1.set s6.2.toNat s6.2).length)),(8,iV ((List.replicate n_.toNat 0).length:Int)),(9,iV s6.2)],[(0,rI (s6.1.set s6.2.toNat s6.2))],1⟩) (wkQ8 [(0,0)]) ?_;refine runQ hN fun K hK=>?_;replace h:=Q5 h;obtain ⟨a9,h⟩:=h;simp [-Q0,-Q6,-Q1,-Q7,-Q2,Qp a9];(repeat refine sdQ ?_);refine hK _ ?_;clear hK K;cases h;exact rn (s':=(s6.1.set s6.2.toNat s6.2,s6.2+1)) hk6 (wkQ8 [(0,0)])
  have g7:¬ (s6.2<((List.replicate n_.toNat 0).length:Int)):=gQ;clear g;replace h:=if_r g7 h;refine Qj ?_;refine tx ?_;refine lx ?_;refine bh ?_;cases h;exact jn (b:=s6.1) hk6 (wkQ8 [(0,0)])
 intro b2 hb2;have h:=h2;try rw [← hb2] at h
 clear h2;try dsimp only at h
 refine Q4 ?_;refine runQ hN fun K hK=>?_;simp [-Q0,-Q6,-Q1,-Q7,-Q2];repeat refine sdQ ?_
 refine hK _ ?_;clear hK K;refine tn ?_;refine Q8 (st':=⟨[(2,.own 0 0 b2.length)],[(0,rI b2)],1⟩) (wkQ8 [(0,0)]) ?_;refine Qi ?_;have hr:=Option.some.inj h;rw [← hr];refine ⟨_,(.tmp .nil),?_⟩;refine ⟨(.one rfl rfl .nil),[lI b2],[0],by simp [UA,U1,IA,I1,LA,L1,BA,B1,EA,E1,E2,eB,eI,eL],by simp,(UpL.refl _)⟩
attribute [local simp] eL eI Qn QC Q4n Cat.cells Fn.cells
noncomputable def Q1D (c_:Cat) (d_:Cat) (objects_:List Int) (arrows_:List Int):Option Fn :=
 (Q2X c_).bind fun v1 =>
 (Q2X d_).bind fun v2 =>
 (Q2W objects_).bind fun v3 =>
 (Q2W arrows_).bind fun v4 =>
 some (⟨v1,v2,v3,v4⟩:Fn)
theorem Q46 (c_:Cat) (d_:Cat) (objects_:List Int) (arrows_:List Int) (r:Fn) (h:Q1D c_ d_ objects_ arrows_=some r):Contract Try.prog 84 [.agg (c_.cells true),.agg (d_.cells true),lI objects_,lI arrows_] (.agg (r.cells true)):=by
 refine Qe (rvs:=[.cell 8 44]) (rs:=[.agg (r.cells true)]) Try.func84 rfl rfl rfl rfl (by simp [Try.f84]) fun F hN hP=>?_;unfold Q1D at h;refine Q4 ?_;refine runQ hN fun K hK=>?_;simp [-Q0,-Q6,-Q1,-Q7,-Q2];repeat refine sdQ ?_
 refine hK _ ?_;clear hK K;refine tn ?_;refine Q8 (st':=⟨[(2,lI objects_),(3,lI arrows_),(4,.adr 0 0 0),(5,.adr 1 0 0),(8,.adr 2 0 0)],[(0,.mix 5 [(Cat.cells true c_)]),(1,.mix 5 [(Cat.cells true d_)]),(2,.mix 12 [[iV 0,.val (.slice none 0 0),.val (.slice none 0 0),.val (.slice none 0 0),.val (.slice none 0 0),iV 0,.val (.slice none 0 0),.val (.slice none 0 0),.val (.slice none 0 0),.val (.slice none 0 0),.val (.slice none 0 0),.val (.slice none 0 0)]])],3⟩) (wkQ8 [(0,0),(1,1),(2,2)]) ?_;refine Q4 ?_;refine runQ hN fun K hK=>?_;simp [-Q0,-Q6,-Q1,-Q7,-Q2];repeat with_reducible refine sdQ ?_
 replace h:=bind_some h;obtain ⟨v1,hv1,h⟩:=h;refine Q3 (Q60 _ v1 hv1) (.cons (.aggL (.cons .val (.cons .lst (.cons .lst (.cons .lst (.cons .lst .nil)))))) .nil) ?_;simp [-Q0,-Q6,-Q1,-Q7,-Q2,unk,unA,unE,unT,unC,flat];repeat with_reducible refine sdQ ?_
 replace h:=bind_some h;obtain ⟨v2,hv2,h⟩:=h;refine Q3 (Q60 _ v2 hv2) (.cons (.aggL (.cons .val (.cons .lst (.cons .lst (.cons .lst (.cons .lst .nil)))))) .nil) ?_;simp [-Q0,-Q6,-Q1,-Q7,-Q2,unk,unA,unE,unT,unC,flat];repeat with_reducible refine sdQ ?_
 replace h:=bind_some h;obtain ⟨v3,hv3,h⟩:=h;refine Q3 (Q5Z _ v3 hv3) (.cons .lst .nil) ?_;simp [-Q0,-Q6,-Q1,-Q7,-Q2,unk,unA,unE,unT,unC,flat];repeat with_reducible refine sdQ ?_
 replace h:=bind_some h;obtain ⟨v4,hv4,h⟩:=h;refine Q3 (Q5Z _ v4 hv4) (.cons .lst .nil) ?_;simp [-Q0,-Q6,-Q1,-Q7,-Q2,unk,unA,unE,unT,unC,flat];repeat refine sdQ ?_
 refine hK _ ?_;clear hK K;refine tn ?_;refine Q8 (st':=⟨[(8,.adr 0 0 0)],[(0,.mix 12 [[iV v1.n,.own 1 0 v1.fr.length,.own 2 0 v1.to.length,.own 3 0 v1.id.length,.own 4 0 v1.cs.length,iV v2.n,.own 5 0 v2.fr.length,.own 6 0 v2.to.length,.own 7 0 v2.id.length,.own 8 0 v2.cs.length,.own 9 0 v3.length,.own 10 0 v4.length]]),(1,rI v1.fr),(2,rI v1.to),(3,rI v1.id),(4,.row 1 (Ls v1.cs)),(5,rI v2.fr),(6,rI v2.to),(7,rI v2.id),(8,.row 1 (Ls v2.cs)),(9,rI v3),(10,rI v4)],11⟩) (wkQ8 [(2,0),(4,1),(5,2),(6,3),(7,4),(9,5),(10,6),(11,7),(12,8),(13,9),(14,10)]) ?_;refine Qi ?_;have hr:=Option.some.inj h;rw [← hr];refine ⟨_,(.cell Q4j rfl rfl rfl (by simp) (by simp) .nil),?_⟩;refine ⟨(.agg rfl .nil),[iV v1.n,lI v1.fr,lI v1.to,lI v1.id,.lst true 1 (Ls v1.cs),iV v2.n,lI v2.fr,lI v2.to,lI v2.id,.lst true 1 (Ls v2.cs),lI v3,lI v4],[1,2,3,4,5,6,7,8,9,10],by simp [Cat.cells,Fn.cells,UA,U1,IA,I1,LA,L1,BA,B1,EA,E1,E2,eB,eI,eL],by simp,(UpL.refl _)⟩
attribute [local simp] eL eI Qn QC Q4n Cat.cells Fn.cells
noncomputable def Q1p (f_:Fn) (g_:Fn):Option Fn :=
 (Q2v f_.ob g_.ob).bind fun v1 =>
 (Q2v f_.ar g_.ar).bind fun v2 =>
 (Q1D f_.s g_.t v1 v2).bind fun v3 =>
 some v3
theorem Q5v (f_:Fn) (g_:Fn) (r:Fn) (h:Q1p f_ g_=some r):Contract Try.prog 139 [.agg (f_.cells true),.agg (g_.cells true)] (.agg (r.cells true)):=by
 refine Qe (rvs:=[.cell 4 44]) (rs:=[.agg (r.cells true)]) Try.func139 rfl rfl rfl rfl (by simp [Try.f139]) fun F hN hP=>?_;unfold Q1p at h;refine Q4 ?_;refine runQ hN fun K hK=>?_;simp [-Q0,-Q6,-Q1,-Q7,-Q2];repeat refine sdQ ?_
 refine hK _ ?_;clear hK K;refine tn ?_;refine Q8 (st':=⟨[(2,.adr 0 0 0),(3,.adr 1 0 0),(4,.adr 2 0 0)],[(0,.mix 12 [(Fn.cells true f_)]),(1,.mix 12 [(Fn.cells true g_)]),(2,.mix 12 [[iV 0,.val (.slice none 0 0),.val (.slice none 0 0),.val (.slice none 0 0),.val (.slice none 0 0),iV 0,.val (.slice none 0 0),.val (.slice none 0 0),.val (.slice none 0 0),.val (.slice none 0 0),.val (.slice none 0 0),.val (.slice none 0 0)]])],3⟩) (wkQ8 [(0,0),(1,1),(2,2)]) ?_;refine Q4 ?_;refine runQ hN fun K hK=>?_;simp [-Q0,-Q6,-Q1,-Q7,-Q2];repeat with_reducible refine sdQ ?_
 replace h:=bind_some h;obtain ⟨v1,hv1,h⟩:=h;refine Q3 (Q5s _ _ v1 hv1) (.cons .lst (.cons .lst .nil)) ?_;simp [-Q0,-Q6,-Q1,-Q7,-Q2,unk,unA,unE,unT,unC,flat];repeat with_reducible refine sdQ ?_
 replace h:=bind_some h;obtain ⟨v2,hv2,h⟩:=h;refine Q3 (Q5s _ _ v2 hv2) (.cons .lst (.cons .lst .nil)) ?_;simp [-Q0,-Q6,-Q1,-Q7,-Q2,unk,unA,unE,unT,unC,flat];repeat with_reducible refine sdQ ?_
 replace h:=bind_some h;obtain ⟨v3,hv3,h⟩:=h;refine Q3 (Q46 _ _ _ _ v3 hv3) (.cons (.aggL (.cons .val (.cons .lst (.cons .lst (.cons .lst (.cons .lst .nil)))))) (.cons (.aggL (.cons .val (.cons .lst (.cons .lst (.cons .lst (.cons .lst .nil)))))) (.cons (.whole (by simp) (by simp) (by simp)) (.cons (.whole (by simp) (by simp) (by simp)) .nil)))) ?_;simp [-Q0,-Q6,-Q1,-Q7,-Q2,unk,unA,unE,unT,unC,flat];repeat refine sdQ ?_
 refine hK _ ?_;clear hK K;refine tn ?_;refine Q8 (st':=⟨[(4,.adr 0 0 0)],[(0,.mix 12 [[iV v3.s.n,.own 1 0 v3.s.fr.length,.own 2 0 v3.s.to.length,.own 3 0 v3.s.id.length,.own 4 0 v3.s.cs.length,iV v3.t.n,.own 5 0 v3.t.fr.length,.own 6 0 v3.t.to.length,.own 7 0 v3.t.id.length,.own 8 0 v3.t.cs.length,.own 9 0 v3.ob.length,.own 10 0 v3.ar.length]]),(1,rI v3.s.fr),(2,rI v3.s.to),(3,rI v3.s.id),(4,.row 1 (Ls v3.s.cs)),(5,rI v3.t.fr),(6,rI v3.t.to),(7,rI v3.t.id),(8,.row 1 (Ls v3.t.cs)),(9,rI v3.ob),(10,rI v3.ar)],11⟩) (wkQ8 [(2,0),(6,1),(7,2),(8,3),(9,4),(11,5),(12,6),(13,7),(14,8),(15,9),(16,10)]) ?_;refine Qi ?_;have hr:=Option.some.inj h;rw [← hr];refine ⟨_,(.cell Q4j rfl rfl rfl (by simp) (by simp) .nil),?_⟩;refine ⟨(.agg rfl .nil),[iV v3.s.n,lI v3.s.fr,lI v3.s.to,lI v3.s.id,.lst true 1 (Ls v3.s.cs),iV v3.t.n,lI v3.t.fr,lI v3.t.to,lI v3.t.id,.lst true 1 (Ls v3.t.cs),lI v3.ob,lI v3.ar],[1,2,3,4,5,6,7,8,9,10],by simp [Cat.cells,Fn.cells,UA,U1,IA,I1,LA,L1,BA,B1,EA,E1,E2,eB,eI,eL],by simp,(UpL.refl _)⟩
theorem Q58 (n:Nat) {j:Int} (h0:0≤j) (h1:j<n):ix (iota n) j=j:=by
 obtain ⟨i,rfl⟩:∃ i:Nat,j=i:=⟨j.toNat,by omega⟩;rw [← QN _ _ (show i<(iota n).length by simp [iota];omega)];simp [iota]
theorem set_fill {α:Type} (xs:List α) (k:Nat) (v z:α) {i:Nat} (h:i=xs.length):(xs++List.replicate (k+1) z).set i v=(xs++[v])++List.replicate k z:=by
 subst h;simp [List.replicate_succ]
def Q5q (f g:Fn):Fn:=⟨f.s,g.t,Q1l f.ob g.ob,Q1l f.ar g.ar⟩
theorem Cat.Is.ok {c:Cat} (h:c.Is):c.ok:=h.1.size2.1
theorem Q54 {c d:Cat} {ob ar:List Int} (hc:c.ok) (hd:d.ok) (ho:ob.length≤1048576) (ha:ar.length≤1048576):Q1D c d ob ar=some ⟨c,d,ob,ar⟩:=by
 simp [Q1D,Q2X,Q2W,hc,hd,ho,ha]
theorem Q51 {c d:Cat} {ob ar:List Int} (hc:c.ok) (hd:d.ok) (ho:ob.length≤1048576) (ha:ar.length≤1048576):Q1B c d ob ar=some ⟨c,d,ob,ar⟩:=by
 simp [Q1B,Q1a,Q3y,hc,hd,ho,ha]
theorem e_numbers {n:Int} (h0:0≤n) (h1:n≤1048576):Q2t n=some (iota n.toNat):=by
 unfold Q2t;rw [Q9 (by omega)];simp only [List.length_replicate];refine Q1G n.toNat (fun i:Nat=>iota i++List.replicate (n.toNat - i) 0) (e:=iota n.toNat) (by simp [iota]) (by omega) (fun i hi=>?_) (by simp) (by simp);obtain ⟨k,hk⟩:∃ k,n.toNat - i=k+1:=⟨n.toNat - i - 1,by omega⟩;have hl:(iota i).length=i:=by simp [iota]
 have hs:=set_fill (iota i) k (i:Int) 0 (i:=i) (by rw [hl]);rw [iota_succ,hk,show n.toNat - (i+1)=k by omega,← hs];simp (disch:=omega) [Q9,B64,hl];omega
attribute [local simp] eL eI Qn QC Q4n Cat.cells Fn.cells
noncomputable def Q1h (f_:Fn):Option Bool :=
 (
  if ¬ ((f_.ob.length:Int)=f_.s.n) then
   some true
  else
   (Qr f_.s).bind fun v3 =>
   if ¬ ((f_.ar.length:Int)=v3) then
    some true
   else
    (Q1T f_.ob f_.t.n).bind fun v5 =>
    if ¬ (v5=true) then
     some true
    else
     (Qr f_.t).bind fun v7 =>
     (Q1T f_.ar v7).bind fun v8 =>
     some (!v8):Option (Bool)).bind fun b1 =>
 if b1=true then
  some false
 else
  (Qv (σ:=Int) (ε:=Unit ⊕ Bool) (fun s23 =>
   if s23<(f_.ar.length:Int) then
    ass (0≤s23∧s23<(f_.ar.length:Int)) <|
    (
     ass (0≤ix f_.ar s23∧ix f_.ar s23<(f_.t.fr.length:Int)) <|
     ass (0≤s23∧s23<(f_.s.fr.length:Int)) <|
     ass (0≤ix f_.s.fr s23∧ix f_.s.fr s23<(f_.ob.length:Int)) <|
     if ¬ ((ix f_.t.fr (ix f_.ar s23))=(ix f_.ob (ix f_.s.fr s23))) then
      some true
     else
      ass (0≤ix f_.ar s23∧ix f_.ar s23<(f_.t.to.length:Int)) <|
      ass (0≤s23∧s23<(f_.s.to.length:Int)) <|
      ass (0≤ix f_.s.to s23∧ix f_.s.to s23<(f_.ob.length:Int)) <|
      some ((ix f_.t.to (ix f_.ar s23)) != (ix f_.ob (ix f_.s.to s23))):Option (Bool)).bind fun b26 =>
    if b26=true then
     some (Ctl.ret (Sum.inr false))
    else
     ass (B64 (s23+1)) <|
     some (Ctl.next (s23+1))
   else
    some (Ctl.ret (Sum.inl ()))) fuel 0).bind fun e10 =>
  match e10 with
  | .inl b10 =>
   (Qv (σ:=Int) (ε:=Unit ⊕ Bool) (fun s44 =>
    if s44<(f_.s.id.length:Int) then
     ass (0≤s44∧s44<(f_.s.id.length:Int)) <|
     ass (0≤ix f_.s.id s44∧ix f_.s.id s44<(f_.ar.length:Int)) <|
     ass (0≤s44∧s44<(f_.ob.length:Int)) <|
     ass (0≤ix f_.ob s44∧ix f_.ob s44<(f_.t.id.length:Int)) <|
     if ¬ ((ix f_.ar (ix f_.s.id s44))=(ix f_.t.id (ix f_.ob s44))) then
      some (Ctl.ret (Sum.inr false))
     else
      ass (B64 (s44+1)) <|
      some (Ctl.next (s44+1))
    else
     some (Ctl.ret (Sum.inl ()))) fuel 0).bind fun e36 =>
   match e36 with
   | .inl b36 =>
    (Qv (σ:=Int) (ε:=Unit ⊕ Bool) (fun s78 =>
     if s78<(f_.s.cs.length:Int) then
      (
       ass (0≤s78∧s78<(f_.s.cs.length:Int)) <|
       (Qv (σ:=Int) (ε:=Bool ⊕ Unit) (fun s92 =>
        if s92<((rx f_.s.cs s78).length:Int) then
         ass (0≤s92∧s92<((rx f_.s.cs s78).length:Int)) <|
         (
          if (ix (rx f_.s.cs s78) s92) ≥ 0 then
           ass (0≤ix (rx f_.s.cs s78) s92∧ix (rx f_.s.cs s78) s92<(f_.ar.length:Int)) <|
           ass (0≤s78∧s78<(f_.ar.length:Int)) <|
           ass (0≤s92∧s92<(f_.ar.length:Int)) <|
           (Qt f_.t (ix f_.ar s78) (ix f_.ar s92)).bind fun v100 =>
           some ((ix f_.ar (ix (rx f_.s.cs s78) s92)) != v100)
          else
           some false:Option (Bool)).bind fun b95 =>
         if b95=true then
          some (Ctl.ret (Sum.inl false))
         else
          ass (B64 (s92+1)) <|
          some (Ctl.next (s92+1))
        else
         some (Ctl.ret (Sum.inr ()))) fuel 0).bind fun e92 =>
       match e92 with
       | .inl p92 =>
        some (Sum.inr p92)
       | .inr p92 =>
        some (Sum.inl p92):Option (Unit ⊕ Bool)).bind fun e80 =>
      match e80 with
      | .inl b80 =>
       ass (B64 (s78+1)) <|
       some (Ctl.next (s78+1))
      | .inr p80 =>
       some (Ctl.ret (Sum.inr p80))
     else
      some (Ctl.ret (Sum.inl ()))) fuel 0).bind fun e52 =>
    match e52 with
    | .inl b52 =>
     some true
    | .inr p52 =>
     some p52
   | .inr p36 =>
    some p36
  | .inr p10 =>
   some p10
theorem Q4S (f_:Fn) (r:Bool) (h:Q1h f_=some r):Contract Try.prog 154 [.rptr (f_.cells true)] (.val (.bool r)):=by
 refine Qe (rvs:=[.tmp 2]) (rs:=[.val (.bool r)]) Try.func154 rfl rfl rfl rfl (by simp [Try.f154]) fun F hN hP=>?_;unfold Q1h at h;refine Q4 ?_;refine runQ hN fun K hK=>?_;simp [-Q0,-Q6,-Q1,-Q7,-Q2];repeat refine sdQ ?_
 refine hK _ ?_;clear hK K;refine tn ?_;refine Q8 (st':=⟨[(0,.rptr (Fn.cells true f_))],[],0⟩) (wkQ8 []) ?_;refine Q4 ?_;refine runQ hN fun K hK=>?_;simp [-Q0,-Q6,-Q1,-Q7,-Q2];repeat refine sdQ ?_
 refine hK _ ?_;clear hK K;refine tn ?_;refine Q8 (st':=⟨[(0,.rptr (Fn.cells true f_)),(3,.rptr (Fn.cells true f_)),(4,.rptr [iV f_.t.n,lI f_.t.fr,lI f_.t.to,lI f_.t.id,.lst true 1 (Ls f_.t.cs),lI f_.ob,lI f_.ar])],[],0⟩) (wkQ8 []) ?_;refine Q4 ?_;refine Q4 ?_;replace h:=bind_some h;obtain ⟨e1,h,h1⟩:=h;refine Qh (fun b1:Bool=>⟨[(0,.rptr (Fn.cells true f_)),(3,.rptr (Fn.cells true f_)),(4,.rptr [iV f_.t.n,lI f_.t.fr,lI f_.t.to,lI f_.t.id,.lst true 1 (Ls f_.t.cs),lI f_.ob,lI f_.ar]),(60,.val (.bool b1))],[],0⟩) (fun b1=>b1=e1) ?_ ?_
 ·refine runQ hN fun K hK=>?_;simp [-Q0,-Q6,-Q1,-Q7,-Q2];repeat with_reducible refine sdQ ?_
  refine Qw (fun g=>?_) (fun g=>?_)
  ·have g2:¬ (¬ ((f_.ob.length:Int)=f_.s.n)):=gQ;clear g;replace h:=if_r g2 h;simp [-Q0,-Q6,-Q1,-Q7,-Q2];(repeat with_reducible refine sdQ ?_);replace h:=bind_some h;obtain ⟨v3,hv3,h⟩:=h;refine Q3 (Q1e _ v3 hv3) (.cons (.preT (by simp [Cat.cells,Fn.cells])) .nil) ?_;simp [-Q0,-Q6,-Q1,-Q7,-Q2,unk,unA,unE,unT,unC,flat];(repeat with_reducible refine sdQ ?_);refine Qw (fun g=>?_) (fun g=>?_)
   ·have g4:¬ (¬ ((f_.ar.length:Int)=v3)):=gQ;clear g;replace h:=if_r g4 h;simp [-Q0,-Q6,-Q1,-Q7,-Q2];(repeat with_reducible refine sdQ ?_);replace h:=bind_some h;obtain ⟨v5,hv5,h⟩:=h;refine Q3 (Q5X _ _ v5 hv5) (.cons .lst (.cons .val .nil)) ?_;simp [-Q0,-Q6,-Q1,-Q7,-Q2,unk,unA,unE,unT,unC,flat];(repeat with_reducible refine sdQ ?_);refine Qw (fun g=>?_) (fun g=>?_)
    ·have g6:¬ (¬ (v5=true)):=gQ;clear g;replace h:=if_r g6 h;simp [-Q0,-Q6,-Q1,-Q7,-Q2];(repeat with_reducible refine sdQ ?_);replace h:=bind_some h;obtain ⟨v7,hv7,h⟩:=h;refine Q3 (Q1e _ v7 hv7) (.cons (.preT (by simp [Cat.cells,Fn.cells])) .nil) ?_;simp [-Q0,-Q6,-Q1,-Q7,-Q2,unk,unA,unE,unT,unC,flat];(repeat with_reducible refine sdQ ?_);replace h:=bind_some h;obtain ⟨v8,hv8,h⟩:=h;refine Q3 (Q5X _ _ v8 hv8) (.cons .lst (.cons .val .nil)) ?_;simp [-Q0,-Q6,-Q1,-Q7,-Q2,unk,unA,unE,unT,unC,flat];(repeat refine sdQ ?_);refine hK _ ?_;exact jn (b:=!v8) (Option.some.inj h) (wkQ8 [])
    have g6:¬ (v5=true):=gQ;clear g;replace h:=if_l g6 h;simp [-Q0,-Q6,-Q1,-Q7,-Q2];(repeat refine sdQ ?_);refine hK _ ?_;exact jn (b:=true) (Option.some.inj h) (wkQ8 [])
   have g4:¬ ((f_.ar.length:Int)=v3):=gQ;clear g;replace h:=if_l g4 h;simp [-Q0,-Q6,-Q1,-Q7,-Q2];(repeat refine sdQ ?_);refine hK _ ?_;exact jn (b:=true) (Option.some.inj h) (wkQ8 [])
  have g2:¬ ((f_.ob.length:Int)=f_.s.n):=gQ;clear g;replace h:=if_l g2 h;simp [-Q0,-Q6,-Q1,-Q7,-Q2];repeat refine sdQ ?_
  refine hK _ ?_;exact jn (b:=true) (Option.some.inj h) (wkQ8 [])
 intro b1 hb1;have h:=h1;try rw [← hb1] at h
 clear h1;try dsimp only at h
 refine Qc rfl (fun g=>?_) fun g=>?_
 ·have g9:b1=true:=gQ;clear g;replace h:=if_l g9 h;refine Q4 ?_;refine runQ hN fun K hK=>?_;simp [-Q0,-Q6,-Q1,-Q7,-Q2];repeat refine sdQ ?_
  refine hK _ ?_;clear hK K;refine tn ?_;refine Q8 (st':=⟨[(2,.val (.bool false))],[],0⟩) (wkQ8 []) ?_;refine Qi ?_;refine tr ?_;have hr:=Option.some.inj h;rw [← hr];refine ⟨_,(.tmp .nil),?_⟩;refine ⟨(.one rfl rfl .nil),[.val (.bool false)],[],by simp [Cat.cells,Fn.cells,UA,U1,IA,I1,LA,L1,BA,B1,EA,E1,E2,eB,eI,eL],by simp,(UpL.refl _)⟩
 have g9:¬ (b1=true):=gQ;clear g;replace h:=if_r g9 h;refine Qd ?_;refine tn ?_;refine Q4 ?_;refine Q4 ?_;refine runQ hN fun K hK=>?_;simp [-Q0,-Q6,-Q1,-Q7,-Q2];repeat refine sdQ ?_
 refine hK _ ?_;clear hK K;refine tn ?_;refine Q8 (st':=⟨[(0,.rptr (Fn.cells true f_)),(3,.rptr (Fn.cells true f_)),(4,.rptr [iV f_.t.n,lI f_.t.fr,lI f_.t.to,lI f_.t.id,.lst true 1 (Ls f_.t.cs),lI f_.ob,lI f_.ar]),(64,lI f_.ar),(65,iV (f_.ar.length:Int)),(66,iV 0)],[],0⟩) (wkQ8 []) ?_;replace h:=bind_some h;obtain ⟨e10,h,h10⟩:=h;refine Qh (fun b10:Unit=>⟨[(0,.rptr (Fn.cells true f_)),(3,.rptr (Fn.cells true f_)),(4,.rptr [iV f_.t.n,lI f_.t.fr,lI f_.t.to,lI f_.t.id,.lst true 1 (Ls f_.t.cs),lI f_.ob,lI f_.ar])],[],0⟩) (fun b10=>Sum.inl b10=e10) ?_ ?_
 ·refine Qa ?_;refine Qs h (fun s23:Int=>⟨[(0,.rptr (Fn.cells true f_)),(3,.rptr (Fn.cells true f_)),(4,.rptr [iV f_.t.n,lI f_.t.fr,lI f_.t.to,lI f_.t.id,.lst true 1 (Ls f_.t.cs),lI f_.ob,lI f_.ar]),(64,lI f_.ar),(65,iV (f_.ar.length:Int)),(66,iV s23)],[],0⟩) (wkQ8 []) ?_;clear h;intro k23 s23 c23 h hk23;refine Q4 ?_;refine runQ hN fun K hK=>?_;simp [-Q0,-Q6,-Q1,-Q7,-Q2];repeat refine sdQ ?_
  refine hK _ ?_;clear hK K;refine tn ?_;refine Q8 (st':=⟨[(0,.rptr (Fn.cells true f_)),(3,.rptr (Fn.cells true f_)),(4,.rptr [iV f_.t.n,lI f_.t.fr,lI f_.t.to,lI f_.t.id,.lst true 1 (Ls f_.t.cs),lI f_.ob,lI f_.ar]),(64,lI f_.ar),(65,iV (f_.ar.length:Int)),(66,iV s23),(67,.val (.bool (decide (s23<(f_.ar.length:Int)))))],[],0⟩) (wkQ8 []) ?_;refine Q4 ?_;refine Qc rfl (fun g=>?_) fun g=>?_
  ·have g24:s23<(f_.ar.length:Int):=gQ;clear g;replace h:=if_l g24 h;refine Qd ?_;refine tn ?_;refine Q4 ?_;refine Qa ?_;refine Q4 ?_;refine runQ hN fun K hK=>?_;replace h:=Q5 h;obtain ⟨a25,h⟩:=h;simp [-Q0,-Q6,-Q1,-Q7,-Q2,at_I a25];(repeat refine sdQ ?_);refine hK _ ?_;clear hK K;refine tn ?_;refine Q8 (st':=⟨[(0,.rptr (Fn.cells true f_)),(3,.rptr (Fn.cells true f_)),(4,.rptr [iV f_.t.n,lI f_.t.fr,lI f_.t.to,lI f_.t.id,.lst true 1 (Ls f_.t.cs),lI f_.ob,lI f_.ar]),(5,iV s23),(6,iV (ix f_.ar s23)),(64,lI f_.ar),(65,iV (f_.ar.length:Int)),(66,iV s23)],[],0⟩) (wkQ8 []) ?_;refine Q4 ?_;replace h:=bind_some h;obtain ⟨e26,h,h26⟩:=h;refine Qh (fun b26:Bool=>⟨[(0,.rptr (Fn.cells true f_)),(3,.rptr (Fn.cells true f_)),(4,.rptr [iV f_.t.n,lI f_.t.fr,lI f_.t.to,lI f_.t.id,.lst true 1 (Ls f_.t.cs),lI f_.ob,lI f_.ar]),(64,lI f_.ar),(65,iV (f_.ar.length:Int)),(66,iV s23),(114,.val (.bool b26))],[],0⟩) (fun b26=>b26=e26) ?_ ?_
   ·refine runQ hN fun K hK=>?_;replace h:=Q5 h;obtain ⟨a27,h⟩:=h;replace h:=Q5 h;obtain ⟨a28,h⟩:=h;replace h:=Q5 h;obtain ⟨a29,h⟩:=h;simp [-Q0,-Q6,-Q1,-Q7,-Q2,at_I a27,at_I a28,at_I a29];(repeat with_reducible refine sdQ ?_);refine Qw (fun g=>?_) (fun g=>?_)
    ·have g30:¬ (¬ ((ix f_.t.fr (ix f_.ar s23))=(ix f_.ob (ix f_.s.fr s23)))):=gQ;clear g;replace h:=if_r g30 h;replace h:=Q5 h;obtain ⟨a31,h⟩:=h;replace h:=Q5 h;obtain ⟨a32,h⟩:=h;replace h:=Q5 h;obtain ⟨a33,h⟩:=h;simp [-Q0,-Q6,-Q1,-Q7,-Q2,at_I a27,at_I a28,at_I a29,at_I a31,at_I a32,at_I a33];(repeat refine sdQ ?_);refine hK _ ?_;exact jn (b:=(ix f_.t.to (ix f_.ar s23)) != (ix f_.ob (ix f_.s.to s23))) (Option.some.inj h) (wkQ8 [])
    have g30:¬ ((ix f_.t.fr (ix f_.ar s23))=(ix f_.ob (ix f_.s.fr s23))):=gQ;clear g;replace h:=if_l g30 h;simp [-Q0,-Q6,-Q1,-Q7,-Q2,at_I a27,at_I a28,at_I a29];(repeat refine sdQ ?_);refine hK _ ?_;exact jn (b:=true) (Option.some.inj h) (wkQ8 [])
   intro b26 hb26;have h:=h26;(try rw [← hb26] at h);clear h26;(try dsimp only at h);refine Qc rfl (fun g=>?_) fun g=>?_
   ·have g34:b26=true:=gQ;clear g;replace h:=if_l g34 h;refine Q4 ?_;refine runQ hN fun K hK=>?_;simp [-Q0,-Q6,-Q1,-Q7,-Q2];(repeat refine sdQ ?_);refine hK _ ?_;clear hK K;refine tn ?_;refine Q8 (st':=⟨[(2,.val (.bool false))],[],0⟩) (wkQ8 []) ?_;refine Qi ?_;refine br ?_;refine tr ?_;refine lr ?_;refine br ?_;refine tr ?_;cases h;have q:_=e10:=hk23;have h:=h10;rw [← q] at h;clear q;(try dsimp only at h);have hr:=Option.some.inj h;rw [← hr];refine ⟨_,(.tmp .nil),?_⟩;refine ⟨(.one rfl rfl .nil),[.val (.bool false)],[],by simp [Cat.cells,Fn.cells,UA,U1,IA,I1,LA,L1,BA,B1,EA,E1,E2,eB,eI,eL],by simp,(UpL.refl _)⟩
   have g34:¬ (b26=true):=gQ;clear g;replace h:=if_r g34 h;refine Qd ?_;refine bn ?_;refine tn ?_;refine runQ hN fun K hK=>?_;replace h:=Q5 h;obtain ⟨a35,h⟩:=h;simp [-Q0,-Q6,-Q1,-Q7,-Q2,Qp a35];(repeat refine sdQ ?_);refine hK _ ?_;clear hK K;cases h;exact rn (s':=s23+1) hk23 (wkQ8 [])
  have g24:¬ (s23<(f_.ar.length:Int)):=gQ;clear g;replace h:=if_r g24 h;refine Qj ?_;refine tx ?_;refine lx ?_;refine bh ?_;cases h;exact jn (b:=()) hk23 (wkQ8 [])
 intro b10 hb10;have h:=h10;try rw [← hb10] at h
 clear h10;try dsimp only at h
 refine Q4 ?_;refine Q4 ?_;refine runQ hN fun K hK=>?_;simp [-Q0,-Q6,-Q1,-Q7,-Q2];repeat refine sdQ ?_
 refine hK _ ?_;clear hK K;refine tn ?_;refine Q8 (st':=⟨[(0,.rptr (Fn.cells true f_)),(3,.rptr (Fn.cells true f_)),(4,.rptr [iV f_.t.n,lI f_.t.fr,lI f_.t.to,lI f_.t.id,.lst true 1 (Ls f_.t.cs),lI f_.ob,lI f_.ar]),(119,lI f_.s.id),(120,iV (f_.s.id.length:Int)),(121,iV 0)],[],0⟩) (wkQ8 []) ?_;replace h:=bind_some h;obtain ⟨e36,h,h36⟩:=h;refine Qh (fun b36:Unit=>⟨[(0,.rptr (Fn.cells true f_)),(3,.rptr (Fn.cells true f_)),(4,.rptr [iV f_.t.n,lI f_.t.fr,lI f_.t.to,lI f_.t.id,.lst true 1 (Ls f_.t.cs),lI f_.ob,lI f_.ar])],[],0⟩) (fun b36=>Sum.inl b36=e36) ?_ ?_
 ·refine Qa ?_;refine Qs h (fun s44:Int=>⟨[(0,.rptr (Fn.cells true f_)),(3,.rptr (Fn.cells true f_)),(4,.rptr [iV f_.t.n,lI f_.t.fr,lI f_.t.to,lI f_.t.id,.lst true 1 (Ls f_.t.cs),lI f_.ob,lI f_.ar]),(119,lI f_.s.id),(120,iV (f_.s.id.length:Int)),(121,iV s44)],[],0⟩) (wkQ8 []) ?_;clear h;intro k44 s44 c44 h hk44;refine Q4 ?_;refine runQ hN fun K hK=>?_;simp [-Q0,-Q6,-Q1,-Q7,-Q2];repeat refine sdQ ?_
  refine hK _ ?_;clear hK K;refine tn ?_;refine Q8 (st':=⟨[(0,.rptr (Fn.cells true f_)),(3,.rptr (Fn.cells true f_)),(4,.rptr [iV f_.t.n,lI f_.t.fr,lI f_.t.to,lI f_.t.id,.lst true 1 (Ls f_.t.cs),lI f_.ob,lI f_.ar]),(119,lI f_.s.id),(120,iV (f_.s.id.length:Int)),(121,iV s44),(122,.val (.bool (decide (s44<(f_.s.id.length:Int)))))],[],0⟩) (wkQ8 []) ?_;refine Q4 ?_;refine Qc rfl (fun g=>?_) fun g=>?_
  ·have g45:s44<(f_.s.id.length:Int):=gQ;clear g;replace h:=if_l g45 h;refine Qd ?_;refine tn ?_;refine Q4 ?_;refine Qa ?_;refine Q4 ?_;refine runQ hN fun K hK=>?_;replace h:=Q5 h;obtain ⟨a46,h⟩:=h;simp [-Q0,-Q6,-Q1,-Q7,-Q2,at_I a46];(repeat refine sdQ ?_);refine hK _ ?_;clear hK K;refine tn ?_;refine Q8 (st':=⟨[(0,.rptr (Fn.cells true f_)),(3,.rptr (Fn.cells true f_)),(4,.rptr [iV f_.t.n,lI f_.t.fr,lI f_.t.to,lI f_.t.id,.lst true 1 (Ls f_.t.cs),lI f_.ob,lI f_.ar]),(7,iV s44),(8,iV (ix f_.s.id s44)),(119,lI f_.s.id),(120,iV (f_.s.id.length:Int)),(121,iV s44)],[],0⟩) (wkQ8 []) ?_;refine Q4 ?_;refine runQ hN fun K hK=>?_;replace h:=Q5 h;obtain ⟨a47,h⟩:=h;replace h:=Q5 h;obtain ⟨a48,h⟩:=h;replace h:=Q5 h;obtain ⟨a49,h⟩:=h;simp [-Q0,-Q6,-Q1,-Q7,-Q2,at_I a47,at_I a48,at_I a49];(repeat refine sdQ ?_);refine hK _ ?_;clear hK K;refine tn ?_;refine Q8 (st':=⟨[(0,.rptr (Fn.cells true f_)),(3,.rptr (Fn.cells true f_)),(4,.rptr [iV f_.t.n,lI f_.t.fr,lI f_.t.to,lI f_.t.id,.lst true 1 (Ls f_.t.cs),lI f_.ob,lI f_.ar]),(119,lI f_.s.id),(120,iV (f_.s.id.length:Int)),(121,iV s44),(146,.val (.bool ((ix f_.ar (ix f_.s.id s44)) != (ix f_.t.id (ix f_.ob s44)))))],[],0⟩) (wkQ8 []) ?_;refine Qc rfl (fun g=>?_) fun g=>?_
   ·have g50:¬ ((ix f_.ar (ix f_.s.id s44))=(ix f_.t.id (ix f_.ob s44))):=gQ;clear g;replace h:=if_l g50 h;refine Q4 ?_;refine runQ hN fun K hK=>?_;simp [-Q0,-Q6,-Q1,-Q7,-Q2];(repeat refine sdQ ?_);refine hK _ ?_;clear hK K;refine tn ?_;refine Q8 (st':=⟨[(2,.val (.bool false))],[],0⟩) (wkQ8 []) ?_;refine Qi ?_;refine br ?_;refine tr ?_;refine lr ?_;refine br ?_;refine tr ?_;cases h;have q:_=e36:=hk44;have h:=h36;rw [← q] at h;clear q;(try dsimp only at h);have hr:=Option.some.inj h;rw [← hr];refine ⟨_,(.tmp .nil),?_⟩;refine ⟨(.one rfl rfl .nil),[.val (.bool false)],[],by simp [Cat.cells,Fn.cells,UA,U1,IA,I1,LA,L1,BA,B1,EA,E1,E2,eB,eI,eL],by simp,(UpL.refl _)⟩
   have g50:¬ (¬ ((ix f_.ar (ix f_.s.id s44))=(ix f_.t.id (ix f_.ob s44)))):=gQ;clear g;replace h:=if_r g50 h;refine Qd ?_;refine bn ?_;refine tn ?_;refine runQ hN fun K hK=>?_;replace h:=Q5 h;obtain ⟨a51,h⟩:=h;simp [-Q0,-Q6,-Q1,-Q7,-Q2,Qp a51];(repeat refine sdQ ?_);refine hK _ ?_;clear hK K;cases h;exact rn (s':=s44+1) hk44 (wkQ8 [])
  have g45:¬ (s44<(f_.s.id.length:Int)):=gQ;clear g;replace h:=if_r g45 h;refine Qj ?_;refine tx ?_;refine lx ?_;refine bh ?_;cases h;exact jn (b:=()) hk44 (wkQ8 [])
 intro b36 hb36;have h:=h36;try rw [← hb36] at h
 clear h36;try dsimp only at h
 refine Q4 ?_;refine Q4 ?_;refine runQ hN fun K hK=>?_;simp [-Q0,-Q6,-Q1,-Q7,-Q2];repeat refine sdQ ?_
 refine hK _ ?_;clear hK K;refine tn ?_;refine Q8 (st':=⟨[(0,.rptr (Fn.cells true f_)),(4,.rptr [iV f_.t.n,lI f_.t.fr,lI f_.t.to,lI f_.t.id,.lst true 1 (Ls f_.t.cs),lI f_.ob,lI f_.ar]),(151,.lst true 1 (Ls f_.s.cs)),(152,iV (f_.s.cs.length:Int)),(153,iV 0)],[],0⟩) (wkQ8 []) ?_;replace h:=bind_some h;obtain ⟨e52,h,h52⟩:=h;refine Qh (fun b52:Unit=>⟨[],[],0⟩) (fun b52=>Sum.inl b52=e52) ?_ ?_
 ·refine Qa ?_;refine Qs h (fun s78:Int=>⟨[(0,.rptr (Fn.cells true f_)),(4,.rptr [iV f_.t.n,lI f_.t.fr,lI f_.t.to,lI f_.t.id,.lst true 1 (Ls f_.t.cs),lI f_.ob,lI f_.ar]),(151,.lst true 1 (Ls f_.s.cs)),(152,iV (f_.s.cs.length:Int)),(153,iV s78)],[],0⟩) (wkQ8 []) ?_;clear h;intro k78 s78 c78 h hk78;refine Q4 ?_;refine runQ hN fun K hK=>?_;simp [-Q0,-Q6,-Q1,-Q7,-Q2];repeat refine sdQ ?_
  refine hK _ ?_;clear hK K;refine tn ?_;refine Q8 (st':=⟨[(0,.rptr (Fn.cells true f_)),(4,.rptr [iV f_.t.n,lI f_.t.fr,lI f_.t.to,lI f_.t.id,.lst true 1 (Ls f_.t.cs),lI f_.ob,lI f_.ar]),(151,.lst true 1 (Ls f_.s.cs)),(152,iV (f_.s.cs.length:Int)),(153,iV s78),(154,.val (.bool (decide (s78<(f_.s.cs.length:Int)))))],[],0⟩) (wkQ8 []) ?_;refine Q4 ?_;refine Qc rfl (fun g=>?_) fun g=>?_
  ·have g79:s78<(f_.s.cs.length:Int):=gQ;clear g;replace h:=if_l g79 h;refine Qd ?_;refine tn ?_;refine Q4 ?_;replace h:=bind_some h;obtain ⟨e80,h,h80⟩:=h;refine Qh (fun b80:Unit=>⟨[(0,.rptr (Fn.cells true f_)),(4,.rptr [iV f_.t.n,lI f_.t.fr,lI f_.t.to,lI f_.t.id,.lst true 1 (Ls f_.t.cs),lI f_.ob,lI f_.ar]),(151,.lst true 1 (Ls f_.s.cs)),(152,iV (f_.s.cs.length:Int)),(153,iV s78)],[],0⟩) (fun b80=>Sum.inl b80=e80) ?_ ?_
   ·refine Qa ?_;refine Q4 ?_;refine runQ hN fun K hK=>?_;replace h:=Q5 h;obtain ⟨a81,h⟩:=h;simp [-Q0,-Q6,-Q1,-Q7,-Q2,at_L a81];(repeat refine sdQ ?_);refine hK _ ?_;clear hK K;refine tn ?_;refine Q8 (st':=⟨[(0,.rptr (Fn.cells true f_)),(4,.rptr [iV f_.t.n,lI f_.t.fr,lI f_.t.to,lI f_.t.id,.lst true 1 (Ls f_.t.cs),lI f_.ob,lI f_.ar]),(9,iV s78),(10,lI (rx f_.s.cs s78)),(151,.lst true 1 (Ls f_.s.cs)),(152,iV (f_.s.cs.length:Int)),(153,iV s78)],[],0⟩) (wkQ8 []) ?_;refine Q4 ?_;refine runQ hN fun K hK=>?_;simp [-Q0,-Q6,-Q1,-Q7,-Q2];(repeat refine sdQ ?_);refine hK _ ?_;clear hK K;refine tn ?_;refine Q8 (st':=⟨[(0,.rptr (Fn.cells true f_)),(4,.rptr [iV f_.t.n,lI f_.t.fr,lI f_.t.to,lI f_.t.id,.lst true 1 (Ls f_.t.cs),lI f_.ob,lI f_.ar]),(9,iV s78),(151,.lst true 1 (Ls f_.s.cs)),(152,iV (f_.s.cs.length:Int)),(153,iV s78),(158,lI (rx f_.s.cs s78)),(159,iV ((rx f_.s.cs s78).length:Int)),(160,iV 0)],[],0⟩) (wkQ8 []) ?_;refine Qa ?_;replace h:=bind_some h;obtain ⟨e92,he92,h92⟩:=h;refine Qs he92 (fun s92:Int=>⟨[(0,.rptr (Fn.cells true f_)),(4,.rptr [iV f_.t.n,lI f_.t.fr,lI f_.t.to,lI f_.t.id,.lst true 1 (Ls f_.t.cs),lI f_.ob,lI f_.ar]),(9,iV s78),(151,.lst true 1 (Ls f_.s.cs)),(152,iV (f_.s.cs.length:Int)),(153,iV s78),(158,lI (rx f_.s.cs s78)),(159,iV ((rx f_.s.cs s78).length:Int)),(160,iV s92)],[],0⟩) (wkQ8 []) ?_;intro k92 s92 c92 h hk92;refine Q4 ?_;refine runQ hN fun K hK=>?_;simp [-Q0,-Q6,-Q1,-Q7,-Q2];(repeat refine sdQ ?_);refine hK _ ?_;clear hK K;refine tn ?_;refine Q8 (st':=⟨[(0,.rptr (Fn.cells true f_)),(4,.rptr [iV f_.t.n,lI f_.t.fr,lI f_.t.to,lI f_.t.id,.lst true 1 (Ls f_.t.cs),lI f_.ob,lI f_.ar]),(9,iV s78),(151,.lst true 1 (Ls f_.s.cs)),(152,iV (f_.s.cs.length:Int)),(153,iV s78),(158,lI (rx f_.s.cs s78)),(159,iV ((rx f_.s.cs s78).length:Int)),(160,iV s92),(161,.val (.bool (decide (s92<((rx f_.s.cs s78).length:Int)))))],[],0⟩) (wkQ8 []) ?_;refine Q4 ?_;refine Qc rfl (fun g=>?_) fun g=>?_
    ·have g93:s92<((rx f_.s.cs s78).length:Int):=gQ;clear g;replace h:=if_l g93 h;refine Qd ?_;refine tn ?_;refine Q4 ?_;refine Qa ?_;refine Q4 ?_;refine runQ hN fun K hK=>?_;replace h:=Q5 h;obtain ⟨a94,h⟩:=h;simp [-Q0,-Q6,-Q1,-Q7,-Q2,at_I a94];(repeat refine sdQ ?_);refine hK _ ?_;clear hK K;refine tn ?_;refine Q8 (st':=⟨[(0,.rptr (Fn.cells true f_)),(4,.rptr [iV f_.t.n,lI f_.t.fr,lI f_.t.to,lI f_.t.id,.lst true 1 (Ls f_.t.cs),lI f_.ob,lI f_.ar]),(9,iV s78),(11,iV s92),(12,iV (ix (rx f_.s.cs s78) s92)),(151,.lst true 1 (Ls f_.s.cs)),(152,iV (f_.s.cs.length:Int)),(153,iV s78),(158,lI (rx f_.s.cs s78)),(159,iV ((rx f_.s.cs s78).length:Int)),(160,iV s92)],[],0⟩) (wkQ8 []) ?_;refine Q4 ?_;replace h:=bind_some h;obtain ⟨e95,h,h95⟩:=h;refine Qh (fun b95:Bool=>⟨[(0,.rptr (Fn.cells true f_)),(4,.rptr [iV f_.t.n,lI f_.t.fr,lI f_.t.to,lI f_.t.id,.lst true 1 (Ls f_.t.cs),lI f_.ob,lI f_.ar]),(9,iV s78),(151,.lst true 1 (Ls f_.s.cs)),(152,iV (f_.s.cs.length:Int)),(153,iV s78),(158,lI (rx f_.s.cs s78)),(159,iV ((rx f_.s.cs s78).length:Int)),(160,iV s92),(192,.val (.bool b95))],[],0⟩) (fun b95=>b95=e95) ?_ ?_
     ·refine runQ hN fun K hK=>?_;simp [-Q0,-Q6,-Q1,-Q7,-Q2];(repeat with_reducible refine sdQ ?_);refine Qw (fun g=>?_) (fun g=>?_)
      ·have g96:(ix (rx f_.s.cs s78) s92) ≥ 0:=gQ;clear g;replace h:=if_l g96 h;replace h:=Q5 h;obtain ⟨a97,h⟩:=h;replace h:=Q5 h;obtain ⟨a98,h⟩:=h;replace h:=Q5 h;obtain ⟨a99,h⟩:=h;simp [-Q0,-Q6,-Q1,-Q7,-Q2,at_I a97,at_I a98,at_I a99];(repeat with_reducible refine sdQ ?_);replace h:=bind_some h;obtain ⟨v100,hv100,h⟩:=h;refine Q3 (QR _ _ _ v100 hv100) (.cons (.preT (by simp [Cat.cells,Fn.cells])) (.cons .val (.cons .val .nil))) ?_;simp [-Q0,-Q6,-Q1,-Q7,-Q2,unk,unA,unE,unT,unC,flat,at_I a97,at_I a98,at_I a99];(repeat refine sdQ ?_);refine hK _ ?_;exact jn (b:=(ix f_.ar (ix (rx f_.s.cs s78) s92)) != v100) (Option.some.inj h) (wkQ8 [])
      have g96:¬ ((ix (rx f_.s.cs s78) s92) ≥ 0):=gQ;clear g;replace h:=if_r g96 h;simp [-Q0,-Q6,-Q1,-Q7,-Q2];(repeat refine sdQ ?_);refine hK _ ?_;exact jn (b:=false) (Option.some.inj h) (wkQ8 [])
     intro b95 hb95;have h:=h95;(try rw [← hb95] at h);clear h95;(try dsimp only at h);refine Qc rfl (fun g=>?_) fun g=>?_
     ·have g101:b95=true:=gQ;clear g;replace h:=if_l g101 h;refine Q4 ?_;refine runQ hN fun K hK=>?_;simp [-Q0,-Q6,-Q1,-Q7,-Q2];(repeat refine sdQ ?_);refine hK _ ?_;clear hK K;refine tn ?_;refine Q8 (st':=⟨[(2,.val (.bool false))],[],0⟩) (wkQ8 []) ?_;refine Qi ?_;refine br ?_;refine tr ?_;refine lr ?_;refine br ?_;refine br ?_;refine tr ?_;refine lr ?_;refine br ?_;refine tr ?_;cases h;have q:_=e92:=hk92;have h:=h92;rw [← q] at h;clear q;(try dsimp only at h);cases h;have h:=h80;(try dsimp only at h);cases h;have q:_=e52:=hk78;have h:=h52;rw [← q] at h;clear q;(try dsimp only at h);have hr:=Option.some.inj h;rw [← hr];refine ⟨_,(.tmp .nil),?_⟩;refine ⟨(.one rfl rfl .nil),[.val (.bool false)],[],by simp [Cat.cells,Fn.cells,UA,U1,IA,I1,LA,L1,BA,B1,EA,E1,E2,eB,eI,eL],by simp,(UpL.refl _)⟩
     have g101:¬ (b95=true):=gQ;clear g;replace h:=if_r g101 h;refine Qd ?_;refine bn ?_;refine tn ?_;refine runQ hN fun K hK=>?_;replace h:=Q5 h;obtain ⟨a102,h⟩:=h;simp [-Q0,-Q6,-Q1,-Q7,-Q2,Qp a102];(repeat refine sdQ ?_);refine hK _ ?_;clear hK K;cases h;exact rn (s':=s92+1) hk92 (wkQ8 [])
    have g93:¬ (s92<((rx f_.s.cs s78).length:Int)):=gQ;clear g;replace h:=if_r g93 h;refine Qj ?_;refine tx ?_;refine lx ?_;refine bh ?_;refine bn ?_;cases h;have q:_=e92:=hk92;have h:=h92;rw [← q] at h;clear q;(try dsimp only at h);exact jn (b:=()) (Option.some.inj h) (wkQ8 [])
   intro b80 hb80;have h:=h80;(try rw [← hb80] at h);clear h80;(try dsimp only at h);refine runQ hN fun K hK=>?_;replace h:=Q5 h;obtain ⟨a103,h⟩:=h;simp [-Q0,-Q6,-Q1,-Q7,-Q2,Qp a103];(repeat refine sdQ ?_);refine hK _ ?_;clear hK K;cases h;exact rn (s':=s78+1) hk78 (wkQ8 [])
  have g79:¬ (s78<(f_.s.cs.length:Int)):=gQ;clear g;replace h:=if_r g79 h;refine Qj ?_;refine tx ?_;refine lx ?_;refine bh ?_;cases h;exact jn (b:=()) hk78 (wkQ8 [])
 intro b52 hb52;have h:=h52;try rw [← hb52] at h
 clear h52;try dsimp only at h
 refine Q4 ?_;refine runQ hN fun K hK=>?_;simp [-Q0,-Q6,-Q1,-Q7,-Q2];repeat refine sdQ ?_
 refine hK _ ?_;clear hK K;refine tn ?_;refine Q8 (st':=⟨[(2,.val (.bool true))],[],0⟩) (wkQ8 []) ?_;refine Qi ?_;have hr:=Option.some.inj h;rw [← hr];refine ⟨_,(.tmp .nil),?_⟩;refine ⟨(.one rfl rfl .nil),[.val (.bool true)],[],by simp [Cat.cells,Fn.cells,UA,U1,IA,I1,LA,L1,BA,B1,EA,E1,E2,eB,eI,eL],by simp,(UpL.refl _)⟩
attribute [local simp] eL eI Qn QC Cat.cells
noncomputable def Q1b (list_:List Cat):Option Bool :=
 (Qv (σ:=Int) (ε:=Unit ⊕ Bool) (fun s7 =>
  if s7<(list_.length:Int) then
   ass (0≤s7∧s7<(list_.length:Int)) <|
   (QF (gx list_ s7)).bind fun v10 =>
   if ¬ (v10=true) then
    some (Ctl.ret (Sum.inr false))
   else
    ass (B64 (s7+1)) <|
    some (Ctl.next (s7+1))
  else
   some (Ctl.ret (Sum.inl ()))) fuel 0).bind fun e1 =>
 match e1 with
 | .inl b1 =>
  some true
 | .inr p1 =>
  some p1
theorem Q4y (list_:List Cat) (r:Bool) (h:Q1b list_=some r):Contract Try.prog 153 [.lst true 1 (Es QC list_)] (.val (.bool r)):=by
 refine Qe (rvs:=[.tmp 2]) (rs:=[.val (.bool r)]) Try.func153 rfl rfl rfl rfl (by simp [Try.f153]) fun F hN hP=>?_;unfold Q1b at h;refine Q4 ?_;refine runQ hN fun K hK=>?_;simp [-Q0,-Q6,-Q1,-Q7,-Q2];repeat refine sdQ ?_
 refine hK _ ?_;clear hK K;refine tn ?_;refine Q8 (st':=⟨[(0,.lst true 1 (Es QC list_))],[],0⟩) (wkQ8 []) ?_;refine Q4 ?_;refine Q4 ?_;refine runQ hN fun K hK=>?_;simp [-Q0,-Q6,-Q1,-Q7,-Q2];repeat refine sdQ ?_
 refine hK _ ?_;clear hK K;refine tn ?_;refine Q8 (st':=⟨[(5,.lst true 1 (Es QC list_)),(6,iV (list_.length:Int)),(7,iV 0)],[],0⟩) (wkQ8 []) ?_;replace h:=bind_some h;obtain ⟨e1,h,h1⟩:=h;refine Qh (fun b1:Unit=>⟨[],[],0⟩) (fun b1=>Sum.inl b1=e1) ?_ ?_
 ·refine Qa ?_;refine Qs h (fun s7:Int=>⟨[(5,.lst true 1 (Es QC list_)),(6,iV (list_.length:Int)),(7,iV s7)],[],0⟩) (wkQ8 []) ?_;clear h;intro k7 s7 c7 h hk7;refine Q4 ?_;refine runQ hN fun K hK=>?_;simp [-Q0,-Q6,-Q1,-Q7,-Q2];repeat refine sdQ ?_
  refine hK _ ?_;clear hK K;refine tn ?_;refine Q8 (st':=⟨[(5,.lst true 1 (Es QC list_)),(6,iV (list_.length:Int)),(7,iV s7),(8,.val (.bool (decide (s7<(list_.length:Int)))))],[],0⟩) (wkQ8 []) ?_;refine Q4 ?_;refine Qc rfl (fun g=>?_) fun g=>?_
  ·have g8:s7<(list_.length:Int):=gQ;clear g;replace h:=if_l g8 h;refine Qd ?_;refine tn ?_;refine Q4 ?_;refine Qa ?_;refine Q4 ?_;refine runQ hN fun K hK=>?_;replace h:=Q5 h;obtain ⟨a9,h⟩:=h;simp [-Q0,-Q6,-Q1,-Q7,-Q2,at_E (c:=QC) a9];(repeat refine sdQ ?_);refine hK _ ?_;clear hK K;refine tn ?_;refine Q8 (st':=⟨[(4,.rptr (Cat.cells true (gx list_ s7))),(5,.lst true 1 (Es QC list_)),(6,iV (list_.length:Int)),(7,iV s7)],[],0⟩) (wkQ8 []) ?_;refine Q4 ?_;refine runQ hN fun K hK=>?_;simp [-Q0,-Q6,-Q1,-Q7,-Q2];(repeat with_reducible refine sdQ ?_);replace h:=bind_some h;obtain ⟨v10,hv10,h⟩:=h;refine Q3 (Q39 _ v10 hv10) (.cons (.preT (by simp [Cat.cells])) .nil) ?_;simp [-Q0,-Q6,-Q1,-Q7,-Q2,unk,unA,unE,unT,unC,flat];(repeat refine sdQ ?_);refine hK _ ?_;clear hK K;refine tn ?_;refine Q8 (st':=⟨[(5,.lst true 1 (Es QC list_)),(6,iV (list_.length:Int)),(7,iV s7),(13,.val (.bool (!v10)))],[],0⟩) (wkQ8 []) ?_;refine Qc rfl (fun g=>?_) fun g=>?_
   ·have g11:¬ (v10=true):=gQ;clear g;replace h:=if_l g11 h;refine Q4 ?_;refine runQ hN fun K hK=>?_;simp [-Q0,-Q6,-Q1,-Q7,-Q2];(repeat refine sdQ ?_);refine hK _ ?_;clear hK K;refine tn ?_;refine Q8 (st':=⟨[(2,.val (.bool false))],[],0⟩) (wkQ8 []) ?_;refine Qi ?_;refine br ?_;refine tr ?_;refine lr ?_;refine br ?_;refine tr ?_;cases h;have q:_=e1:=hk7;have h:=h1;rw [← q] at h;clear q;(try dsimp only at h);have hr:=Option.some.inj h;rw [← hr];refine ⟨_,(.tmp .nil),?_⟩;refine ⟨(.one rfl rfl .nil),[.val (.bool false)],[],by simp [Cat.cells,UA,U1,IA,I1,LA,L1,BA,B1,EA,E1,E2,eB,eI,eL],by simp,(UpL.refl _)⟩
   have g11:¬ (¬ (v10=true)):=gQ;clear g;replace h:=if_r g11 h;refine Qd ?_;refine bn ?_;refine tn ?_;refine runQ hN fun K hK=>?_;replace h:=Q5 h;obtain ⟨a12,h⟩:=h;simp [-Q0,-Q6,-Q1,-Q7,-Q2,Qp a12];(repeat refine sdQ ?_);refine hK _ ?_;clear hK K;cases h;exact rn (s':=s7+1) hk7 (wkQ8 [])
  have g8:¬ (s7<(list_.length:Int)):=gQ;clear g;replace h:=if_r g8 h;refine Qj ?_;refine tx ?_;refine lx ?_;refine bh ?_;cases h;exact jn (b:=()) hk7 (wkQ8 [])
 intro b1 hb1;have h:=h1;try rw [← hb1] at h
 clear h1;try dsimp only at h
 refine Q4 ?_;refine runQ hN fun K hK=>?_;simp [-Q0,-Q6,-Q1,-Q7,-Q2];repeat refine sdQ ?_
 refine hK _ ?_;clear hK K;refine tn ?_;refine Q8 (st':=⟨[(2,.val (.bool true))],[],0⟩) (wkQ8 []) ?_;refine Qi ?_;have hr:=Option.some.inj h;rw [← hr];refine ⟨_,(.tmp .nil),?_⟩;refine ⟨(.one rfl rfl .nil),[.val (.bool true)],[],by simp [Cat.cells,UA,U1,IA,I1,LA,L1,BA,B1,EA,E1,E2,eB,eI,eL],by simp,(UpL.refl _)⟩
attribute [local simp] eL eI Qn QC Q4n Cat.cells Fn.cells
noncomputable def QL (f_:Fn):Option Bool :=
 (
  (Q1b [f_.s,f_.t]).bind fun v2 =>
  if v2=true then
   (Q1h f_).bind fun v4 =>
   some v4
  else
   some false:Option (Bool)).bind fun b1 =>
 some b1
theorem Q3D (f_:Fn) (r:Bool) (h:QL f_=some r):Contract Try.prog 103 [.rptr (f_.cells true)] (.val (.bool r)):=by
 refine Qe (rvs:=[.tmp 2]) (rs:=[.val (.bool r)]) Try.func103 rfl rfl rfl rfl (by simp [Try.f103]) fun F hN hP=>?_;unfold QL at h;refine Q4 ?_;refine runQ hN fun K hK=>?_;simp [-Q0,-Q6,-Q1,-Q7,-Q2];repeat refine sdQ ?_
 refine hK _ ?_;clear hK K;refine tn ?_;refine Q8 (st':=⟨[(0,.rptr (Fn.cells true f_))],[],0⟩) (wkQ8 []) ?_;refine Q4 ?_;replace h:=bind_some h;obtain ⟨e1,h,h1⟩:=h;refine Qh (fun b1:Bool=>⟨[(2,.val (.bool b1))],[],0⟩) (fun b1=>b1=e1) ?_ ?_
 ·refine runQ hN fun K hK=>?_;simp [-Q0,-Q6,-Q1,-Q7,-Q2];repeat with_reducible refine sdQ ?_
  replace h:=bind_some h;obtain ⟨v2,hv2,h⟩:=h;refine Q3 (Q4y _ v2 hv2) (.cons (.lits (es:=_) rfl (.cons rfl (.cons (.preT (by simp [Cat.cells,Fn.cells])) .nil) (.cons rfl (.cons (.preT (by simp [Cat.cells,Fn.cells])) .nil) .nil)) rfl) .nil) ?_;simp [-Q0,-Q6,-Q1,-Q7,-Q2,unk,unA,unE,unT,unC,flat];repeat with_reducible refine sdQ ?_
  refine Qw (fun g=>?_) (fun g=>?_)
  ·have g3:v2=true:=gQ;clear g;replace h:=if_l g3 h;simp [-Q0,-Q6,-Q1,-Q7,-Q2];(repeat with_reducible refine sdQ ?_);replace h:=bind_some h;obtain ⟨v4,hv4,h⟩:=h;refine Q3 (Q4S _ v4 hv4) (.cons (.preT (by simp [Cat.cells,Fn.cells])) .nil) ?_;simp [-Q0,-Q6,-Q1,-Q7,-Q2,unk,unA,unE,unT,unC,flat];(repeat refine sdQ ?_);refine hK _ ?_;exact jn (b:=v4) (Option.some.inj h) (wkQ8 [])
  have g3:¬ (v2=true):=gQ;clear g;replace h:=if_r g3 h;simp [-Q0,-Q6,-Q1,-Q7,-Q2];repeat refine sdQ ?_
  refine hK _ ?_;exact jn (b:=false) (Option.some.inj h) (wkQ8 [])
 intro b1 hb1;have h:=h1;try rw [← hb1] at h
 clear h1;try dsimp only at h
 refine Qi ?_;have hr:=Option.some.inj h;rw [← hr];refine ⟨_,(.tmp .nil),?_⟩;refine ⟨(.one rfl rfl .nil),[.val (.bool b1)],[],by simp [Cat.cells,Fn.cells,UA,U1,IA,I1,LA,L1,BA,B1,EA,E1,E2,eB,eI,eL],by simp,(UpL.refl _)⟩
noncomputable def Q16 (c_:Cat) (f_:Int) (g_:Int):Option Int :=
 ass (0≤f_∧f_<(c_.cs.length:Int)) <|
 ass (0≤g_∧g_<((rx c_.cs f_).length:Int)) <|
 some (ix (rx c_.cs f_) g_)
theorem Q3c (c_:Cat) (f_:Int) (g_:Int) (r:Int) (h:Q16 c_ f_ g_=some r):Contract Try.prog 141 [.agg (c_.cells true),iV f_,iV g_] (iV r):=by
 refine Qe (rvs:=[.tmp 6]) (rs:=[iV r]) Try.func141 rfl rfl rfl rfl (by simp [Try.f141]) fun F hN hP=>?_;unfold Q16 at h;refine Q4 ?_;refine runQ hN fun K hK=>?_;simp [-Q0,-Q6,-Q1,-Q7,-Q2,eL,eI,Qn,QC,Cat.cells];repeat refine sdQ ?_
 refine hK _ ?_;clear hK K;refine tn ?_;refine Q8 (st':=⟨[(1,iV f_),(2,iV g_),(3,.adr 0 0 0)],[(0,.mix 5 [(Cat.cells true c_)])],1⟩) (wkQ8 [(0,0)]) ?_;refine Q4 ?_;refine runQ hN fun K hK=>?_;replace h:=Q5 h;obtain ⟨a1,h⟩:=h;replace h:=Q5 h;obtain ⟨a2,h⟩:=h;simp [-Q0,-Q6,-Q1,-Q7,-Q2,eL,eI,Qn,QC,Cat.cells,at_L a1,at_I a2];repeat refine sdQ ?_
 refine hK _ ?_;clear hK K;refine tn ?_;refine Q8 (st':=⟨[(6,iV (ix (rx c_.cs f_) g_))],[],0⟩) (wkQ8 []) ?_;refine Qi ?_;have hr:=Option.some.inj h;rw [← hr];refine ⟨_,(.tmp .nil),?_⟩;refine ⟨(.one rfl rfl .nil),[iV (ix (rx c_.cs f_) g_)],[],by simp [Cat.cells,UA,U1,IA,I1,LA,L1,BA,B1,EA,E1,E2,eB,eI,eL],by simp,(UpL.refl _)⟩
structure Para (f g:Fn):Prop where
 hf:f.Is
 hg:g.Is
 s:f.s=g.s
 t:f.t=g.t
theorem Q4b {c:Cat} {f g:Int} (h0:0≤f∧f<(c.cs.length:Int)) (h1:0≤g∧g<((rx c.cs f).length:Int)):Q16 c f g=some (ix (rx c.cs f) g):=by
 unfold Q16;rw [Q9 h0,Q9 h1]
theorem Q3X {c:Cat} {f g:Int} (h0:0≤f∧f<(c.cs.length:Int)) (h1:0≤g∧g<((rx c.cs f).length:Int)):Qt c f g=some (ix (rx c.cs f) g):=by
 unfold Qt;rw [Q9 h0.1,Q9 h0.2,Q9 h1.1,Q9 h1.2]
theorem e_fits {f:Fn} (h1:f.s.Is) (h2:f.t.Is):Q1h f=some (bo f.Is):=by
 have hs:=h1.1;have ht:=h2.1;have k0:=hs.n0;have k1:=hs.n8;have k2:=hs.m40;have k3:=hs.li;have k4:=hs.lt;have k5:=hs.lc;have k6:=ht.li;have k7:=ht.lt;have k8:=ht.lc;have k9:=ht.m40;have k10:=ht.n0;have k11:=ht.n8;have b1:B64 (f.t.n - 1):=⟨by omega,by omega⟩;have b2:B64 ((f.t.fr.length:Int) - 1):=⟨by omega,by omega⟩;unfold Q1h
 by_cases h3:(f.ob.length:Int)=f.s.n
 case neg=>rw [QB (show ¬ f.Is from fun q=>h3 q.lo)];simp [h3]
 by_cases h4:(f.ar.length:Int)=f.s.fr.length
 case neg=>rw [QB (show ¬ f.Is from fun q=>h4 (by rw [q.la]))];simp [Qr,h3,h4]
 by_cases h5:f.ob.all (inR f.t.n)=true
 case neg=>rw [QB (show ¬ f.Is from fun q=>h5 (all_inR.2 q.ob))];simp [Qr,Q1T,Q9 b1,h3,h4,h5]
 by_cases h6:f.ar.all (inR f.t.fr.length)=true
 case neg=>rw [QB (show ¬ f.Is from fun q=>h6 (all_inR.2 q.ar))];simp [Qr,Q1T,Q9 b1,Q9 b2,h3,h4,h5,h6]
 have ho:=all_inR.1 h5;have ha:=all_inR.1 h6;simp only [Qr,Q1T,Q9 b1,Q9 b2,h3,h4,h5,h6,Option.bind_some,if_true,if_false,not_true_eq_false,Bool.not_true,Bool.false_eq_true];refine Q2b f.s.fr.length (fun a:Nat=>ix f.t.fr (ix f.ar a)=ix f.ob (ix f.s.fr a)∧ix f.t.to (ix f.ar a)=ix f.ob (ix f.s.to a)) (eb:=Sum.inr false) (eg:=Sum.inl ()) (by omega) (fun a hi hp=>?_) (fun a hi hp=>?_) (by simp) (fun hx=>?_) fun q1=>?_
 ·have:=hs.frn hi;have:=ha a (by omega);simp (disch:=omega) [Q9,B64,hp.1,hp.2,hi]
 ·have:=hs.frn hi;have:=ha a (by omega)
  by_cases hp1:ix f.t.fr (ix f.ar a)=ix f.ob (ix f.s.fr a)
  ·have hp2:¬ ix f.t.to (ix f.ar a)=ix f.ob (ix f.s.to a):=fun h=>hp ⟨hp1,h⟩;simp (disch:=omega) [Q9,B64,hp1,hp2,hi]
  simp (disch:=omega) [Q9,B64,hp1,hi]
 ·rw [QB (show ¬ f.Is from fun q=>hx q.ends)]
 simp only;refine Q2b f.s.id.length (fun x:Nat=>ix f.ar (ix f.s.id x)=ix f.t.id (ix f.ob x)) (eb:=Sum.inr false) (eg:=Sum.inl ()) (by omega) (fun a hi hp=>?_) (fun a hi hp=>?_) (by simp) (fun hx=>?_) fun q2=>?_
 ·have:=hs.idn hi;have:=ho a (by omega);simp (disch:=omega) [Q9,B64,hp,hi]
 ·have:=hs.idn hi;have:=ho a (by omega);simp (disch:=omega) [Q9,B64,hp,hi]
 ·rw [QB (show ¬ f.Is from fun q=>hx q.ids)]
 simp only;refine Q2b f.s.fr.length (fun a:Nat=>∀ b:Nat,b<f.s.fr.length→ix f.s.to a=ix f.s.fr b→ix f.ar (ix (rx f.s.cs a) b)=ix (rx f.t.cs (ix f.ar a)) (ix f.ar b)) (eb:=Sum.inr false) (eg:=Sum.inl ()) (by omega) (fun a hi hp=>?_) (fun a hi hp=>?_) (by simp;omega) (fun hx=>?_) fun q3=>?_;rotate_left 2
 ·rw [QB (show ¬ f.Is from fun q=>hx q.comp)]
 ·rw [QO (show f.Is from ⟨h1,h2,h3,by omega,ho,ha,q1,q2,q3⟩)]
 all_goals
  have h8:=ha a (by omega);have h11:=hs.row' (j:=a) (by omega) (by omega);have h12:=ht.row' (j:=ix f.ar a) (by omega) (by omega);rw [if_pos (by omega),Q9 (by omega),Option.bind_assoc];refine Q2b f.s.fr.length (fun b:Nat=>ix f.s.to a=ix f.s.fr b→ix f.ar (ix (rx f.s.cs a) b)=ix (rx f.t.cs (ix f.ar a)) (ix f.ar b)) (eb:=Sum.inl false) (eg:=Sum.inr ()) (by omega) (fun b hb hq=>?_) (fun b hb hq=>?_) ?_ (fun hn=>?_) fun hn=>?_
 all_goals first
  | exact absurd hp hn
  | exact absurd hn hp
  | (simp (disch:=omega) [Q9,B64,h11];done)
  | skip
 all_goals
  have h13:=ha b (by omega);have h16:=hs.cell' (f:=a) (g:=b) (by omega) (by omega) (by omega) (by omega)
  by_cases h14:ix f.s.to a=ix f.s.fr b
  ·have h15:=hs.cmp (f:=a) (g:=b) (by omega) (by omega) (by omega) (by omega) h14;have h17:ix (rx f.s.cs a) b ≥ 0:=h15.1;first
    | (have hq1:=hq h14;simp (disch:=omega) [Q9,B64,Q3X,h14,hq1,hb,h11,h17];done)
    | (have hq1:=fun e=>hq (fun _=>e);simp (disch:=omega) [Q9,B64,Q3X,h14,hq1,hb,h11,h17];exact hq1)
  have h17:=h16.1 h14;first
   | (simp (disch:=omega) [Q9,B64,h14,hb,h11,h17];done)
   | exact absurd (fun e=>absurd e h14) hq
theorem gx_nat {α:Type} [Inhabited α] (xs:List α) {i:Nat} (h:i<xs.length):gx xs i=xs[i]:=by simp [gx,List.getD_eq_getElem?_getD,h]
theorem e_areCats (cs:List Cat) (hl:cs.length≤1048576):Q1b cs=some (bo (∀ c∈cs,c.Is)):=by
 unfold Q1b;refine Q2b cs.length (fun i:Nat=>(gx cs i).Is) (eb:=Sum.inr false) (eg:=Sum.inl ()) (by omega) (fun a hi hp=>?_) (fun a hi hp=>?_) (by simp) (fun hx=>?_) fun q1=>?_
 ·simp (disch:=omega) [Q9,B64,QF,QO hp,hi]
 ·simp (disch:=omega) [Q9,B64,QF,QB hp,hi]
 ·rw [QB (show ¬ ∀ c∈cs,c.Is from fun q=>hx fun i hi=>q _ (by rw [gx_nat _ hi];exact List.getElem_mem hi))]
 rw [QO (show ∀ c∈cs,c.Is from fun c hc=>by obtain ⟨i,hi,rfl⟩:=List.getElem_of_mem hc;have:=q1 i hi;rwa [gx_nat _ hi] at this)]
theorem Q7h (f:Fn):QL f=some (bo f.Is):=by
 unfold QL;rw [e_areCats _ (by simp)]
 by_cases h:f.s.Is∧f.t.Is
 ·rw [QO (show ∀ c∈[f.s,f.t],c.Is by simpa using h)];simp [e_fits h.1 h.2]
 rw [QB (show ¬ ∀ c∈[f.s,f.t],c.Is by simpa using h),QB (show ¬ f.Is from fun q=>h ⟨q.s,q.t⟩)];simp
noncomputable def Q1X (c_:Cat) (f_:Int):Option Bool :=
 ass (0≤f_∧f_<(c_.fr.length:Int)) <|
 ass (0≤ix c_.fr f_∧ix c_.fr f_<(c_.id.length:Int)) <|
 some ((ix c_.id (ix c_.fr f_)) == f_)
theorem Q5u (c_:Cat) (f_:Int) (r:Bool) (h:Q1X c_ f_=some r):Contract Try.prog 216 [.agg (c_.cells true),iV f_] (.val (.bool r)):=by
 refine Qe (rvs:=[.tmp 4]) (rs:=[.val (.bool r)]) Try.func216 rfl rfl rfl rfl (by simp [Try.f216]) fun F hN hP=>?_;unfold Q1X at h;refine Q4 ?_;refine runQ hN fun K hK=>?_;simp [-Q0,-Q6,-Q1,-Q7,-Q2,eL,eI,Qn,QC,Cat.cells];repeat refine sdQ ?_
 refine hK _ ?_;clear hK K;refine tn ?_;refine Q8 (st':=⟨[(1,iV f_),(2,.adr 0 0 0)],[(0,.mix 5 [(Cat.cells true c_)])],1⟩) (wkQ8 [(0,0)]) ?_;refine Q4 ?_;refine runQ hN fun K hK=>?_;replace h:=Q5 h;obtain ⟨a1,h⟩:=h;replace h:=Q5 h;obtain ⟨a2,h⟩:=h;simp [-Q0,-Q6,-Q1,-Q7,-Q2,eL,eI,Qn,QC,Cat.cells,at_I a1,at_I a2];repeat refine sdQ ?_
 refine hK _ ?_;clear hK K;refine tn ?_;refine Q8 (st':=⟨[(4,.val (.bool ((ix c_.id (ix c_.fr f_)) == f_)))],[],0⟩) (wkQ8 []) ?_;refine Qi ?_;have hr:=Option.some.inj h;rw [← hr];refine ⟨_,(.tmp .nil),?_⟩;refine ⟨(.one rfl rfl .nil),[.val (.bool ((ix c_.id (ix c_.fr f_)) == f_))],[],by simp [Cat.cells,UA,U1,IA,I1,LA,L1,BA,B1,EA,E1,E2,eB,eI,eL],by simp,(UpL.refl _)⟩
theorem Q53 {c:Cat} (hc:c.Is) {f:Int} (h0:0≤f) (h1:f<c.fr.length):Q1X c f=some (bo (f=ix c.id (ix c.fr f))):=by
 have:=hc.1.fr' h0 h1;unfold Q1X;rw [Q9 ⟨h0,h1⟩,Q9 this]
 by_cases h:ix c.id (ix c.fr f)=f
 ·rw [QO h.symm];simp [h]
 rw [QB (fun q=>h q.symm)];simp [h]
def tab {α:Type} (n:Nat) (g:Nat→α):List α:=(List.range n).map g
@[simp] theorem Q2k {α:Type} (n:Nat) (g:Nat→α):(tab n g).length=n:=by simp [tab]
theorem Q19 {α:Type} (n:Nat) (g:Nat→α):tab (n+1) g=tab n g++[g n]:=by simp [tab,List.range_succ]
theorem Q8p {α:Type} (g:Nat→α):tab 0 g=[]:=rfl
theorem Q59 (n:Nat) (g:Nat→Int) {i:Nat} (h:i<n):ix (tab n g) i=g i:=by
 rw [← QN _ _ (show i<(tab n g).length by simpa using h)];simp [tab]
def zeroF:Fn:=⟨⟨0,[],[],[],[]⟩,⟨0,[],[],[],[]⟩,[],[]⟩
theorem Q5p {α:Type} {n:Nat} {f g:Nat→α} (h:∀ i,i<n→f i=g i):tab n f=tab n g:=by
 unfold tab;exact List.map_congr_left fun i hi=>h i (by simpa using hi)
attribute [local simp] eL eI Qn QC Cat.cells
noncomputable def QI (c_:Cat) (x_:Int) (y_:Int):Option (List Int) :=
 (Qv (σ:=List Int × Int) (ε:=List Int) (fun s11 =>
  if s11.2<(c_.fr.length:Int) then
   (
    (
     ass (0≤s11.2∧s11.2<(c_.fr.length:Int)) <|
     if (ix c_.fr s11.2)=x_ then
      ass (0≤s11.2∧s11.2<(c_.to.length:Int)) <|
      some ((ix c_.to s11.2) == y_)
     else
      some false:Option (Bool)).bind fun b14 =>
    if b14=true then
     ass ((s11.1++[s11.2]).length≤1073741824) <|
     some (s11.1++[s11.2])
    else
     some s11.1:Option (List Int)).bind fun b13 =>
   ass (B64 (s11.2+1)) <|
   some (Ctl.next (b13,s11.2+1))
  else
   some (Ctl.ret s11.1)) fuel ([],0)).bind fun b1 =>
 some b1
theorem Q3e (c_:Cat) (x_:Int) (y_:Int) (r:List Int) (h:QI c_ x_ y_=some r):Contract Try.prog 86 [.rptr (c_.cells true),iV x_,iV y_] (lI r):=by
 refine Qe (rvs:=[.tmp 6]) (rs:=[lI r]) Try.func86 rfl rfl rfl rfl (by simp [Try.f86]) fun F hN hP=>?_;unfold QI at h;refine Q4 ?_;refine runQ hN fun K hK=>?_;simp [-Q0,-Q6,-Q1,-Q7,-Q2];repeat refine sdQ ?_
 refine hK _ ?_;clear hK K;refine tn ?_;refine Q8 (st':=⟨[(0,.rptr (Cat.cells true c_)),(1,iV x_),(2,iV y_)],[],0⟩) (wkQ8 []) ?_;refine Q4 ?_;refine runQ hN fun K hK=>?_;simp [-Q0,-Q6,-Q1,-Q7,-Q2];repeat refine sdQ ?_
 refine hK _ ?_;clear hK K;refine tn ?_;refine Q8 (st':=⟨[(0,.rptr (Cat.cells true c_)),(1,iV x_),(2,iV y_),(7,.own 0 0 0)],[(0,.mix 1 [])],1⟩) (wkQ8 [(0,0)]) ?_;refine Q4 ?_;refine Q4 ?_;refine runQ hN fun K hK=>?_;simp [-Q0,-Q6,-Q1,-Q7,-Q2];repeat refine sdQ ?_
 refine hK _ ?_;clear hK K;refine tn ?_;refine Q8 (st':=⟨[(0,.rptr (Cat.cells true c_)),(1,iV x_),(2,iV y_),(7,.own 0 0 0),(14,iV (c_.fr.length:Int)),(15,iV 0)],[(0,.mix 1 [])],1⟩) (wkQ8 [(0,0)]) ?_;replace h:=bind_some h;obtain ⟨e1,h,h1⟩:=h;refine Qh (fun b1:List Int=>⟨[(7,.own 0 0 b1.length)],[(0,rI b1)],1⟩) (fun b1=>b1=e1) ?_ ?_
 ·refine Qa ?_;refine Qs h (fun s11:List Int × Int=>⟨[(0,.rptr (Cat.cells true c_)),(1,iV x_),(2,iV y_),(7,.own 0 0 s11.1.length),(14,iV (c_.fr.length:Int)),(15,iV s11.2)],[(0,rI s11.1)],1⟩) (Q2O ⟨[(0,.rptr (Cat.cells true c_)),(1,iV x_),(2,iV y_),(7,.own 0 0 0),(14,iV (c_.fr.length:Int)),(15,iV 0)],[(0,rI [])],1⟩ (Wk.nils [] (by simp) (by simp) (by simp [nlA]) (by simp [entN,nlL,nlA,Cat.cells,UA,U1,IA,I1,LA,L1,BA,B1,EA,E1,E2,eB,eI,eL]) (by simp)) (wkQ8 [(0,0)])) ?_;clear h;intro k11 s11 c11 h hk11;refine Q4 ?_;refine runQ hN fun K hK=>?_;simp [-Q0,-Q6,-Q1,-Q7,-Q2];repeat refine sdQ ?_
  refine hK _ ?_;clear hK K;refine tn ?_;refine Q8 (st':=⟨[(0,.rptr (Cat.cells true c_)),(1,iV x_),(2,iV y_),(7,.own 0 0 s11.1.length),(14,iV (c_.fr.length:Int)),(15,iV s11.2),(16,.val (.bool (decide (s11.2<(c_.fr.length:Int)))))],[(0,rI s11.1)],1⟩) (wkQ8 [(0,0)]) ?_;refine Q4 ?_;refine Qc rfl (fun g=>?_) fun g=>?_
  ·have g12:s11.2<(c_.fr.length:Int):=gQ;clear g;replace h:=if_l g12 h;refine Qd ?_;refine tn ?_;refine Q4 ?_;replace h:=bind_some h;obtain ⟨e13,h,h13⟩:=h;refine Qh (fun b13:List Int=>⟨[(0,.rptr (Cat.cells true c_)),(1,iV x_),(2,iV y_),(7,.own 0 0 b13.length),(14,iV (c_.fr.length:Int)),(15,iV s11.2)],[(0,rI b13)],1⟩) (fun b13=>b13=e13) ?_ ?_
   ·refine Qa ?_;refine Q4 ?_;refine runQ hN fun K hK=>?_;simp [-Q0,-Q6,-Q1,-Q7,-Q2];(repeat refine sdQ ?_);refine hK _ ?_;clear hK K;refine tn ?_;refine Q8 (st':=⟨[(0,.rptr (Cat.cells true c_)),(1,iV x_),(2,iV y_),(7,.own 0 0 s11.1.length),(8,iV s11.2),(14,iV (c_.fr.length:Int)),(15,iV s11.2)],[(0,rI s11.1)],1⟩) (wkQ8 [(0,0)]) ?_;refine Q4 ?_;replace h:=bind_some h;obtain ⟨e14,h,h14⟩:=h;refine Qh (fun b14:Bool=>⟨[(0,.rptr (Cat.cells true c_)),(1,iV x_),(2,iV y_),(7,.own 0 0 s11.1.length),(8,iV s11.2),(14,iV (c_.fr.length:Int)),(15,iV s11.2),(37,.val (.bool b14))],[(0,rI s11.1)],1⟩) (fun b14=>b14=e14) ?_ ?_
    ·refine runQ hN fun K hK=>?_;replace h:=Q5 h;obtain ⟨a15,h⟩:=h;simp [-Q0,-Q6,-Q1,-Q7,-Q2,at_I a15];(repeat with_reducible refine sdQ ?_);refine Qw (fun g=>?_) (fun g=>?_)
     ·have g16:(ix c_.fr s11.2)=x_:=gQ;clear g;replace h:=if_l g16 h;replace h:=Q5 h;obtain ⟨a17,h⟩:=h;simp [-Q0,-Q6,-Q1,-Q7,-Q2,at_I a15,at_I a17];(repeat refine sdQ ?_);refine hK _ ?_;exact jn (b:=(ix c_.to s11.2) == y_) (Option.some.inj h) (wkQ8 [(0,0)])
     have g16:¬ ((ix c_.fr s11.2)=x_):=gQ;clear g;replace h:=if_r g16 h;simp [-Q0,-Q6,-Q1,-Q7,-Q2,at_I a15];(repeat refine sdQ ?_);refine hK _ ?_;exact jn (b:=false) (Option.some.inj h) (wkQ8 [(0,0)])
    intro b14 hb14;have h:=h14;(try rw [← hb14] at h);clear h14;(try dsimp only at h);refine Qc rfl (fun g=>?_) fun g=>?_
    ·have g18:b14=true:=gQ;clear g;replace h:=if_l g18 h;refine runQ hN fun K hK=>?_;replace h:=Q5 h;obtain ⟨a19,h⟩:=h;(try simp only [List.length_append,List.length_cons,List.length_nil] at a19);simp [-Q0,-Q6,-Q1,-Q7,-Q2,a19];(repeat refine sdQ ?_);refine hK _ ?_;clear hK K;refine bn ?_;exact jn (b:=s11.1++[s11.2]) (Option.some.inj h) (wkQ8 [(2,0)])
    have g18:¬ (b14=true):=gQ;clear g;replace h:=if_r g18 h;refine Qd ?_;refine bn ?_;exact jn (b:=s11.1) (Option.some.inj h) (wkQ8 [(0,0)])
   intro b13 hb13;have h:=h13;(try rw [← hb13] at h);clear h13;(try dsimp only at h);refine runQ hN fun K hK=>?_;replace h:=Q5 h;obtain ⟨a20,h⟩:=h;simp [-Q0,-Q6,-Q1,-Q7,-Q2,Qp a20];(repeat refine sdQ ?_);refine hK _ ?_;clear hK K;cases h;exact rn (s':=(b13,s11.2+1)) hk11 (wkQ8 [(0,0)])
  have g12:¬ (s11.2<(c_.fr.length:Int)):=gQ;clear g;replace h:=if_r g12 h;refine Qj ?_;refine tx ?_;refine lx ?_;refine bh ?_;cases h;exact jn (b:=s11.1) hk11 (wkQ8 [(0,0)])
 intro b1 hb1;have h:=h1;try rw [← hb1] at h
 clear h1;try dsimp only at h
 refine Q4 ?_;refine runQ hN fun K hK=>?_;simp [-Q0,-Q6,-Q1,-Q7,-Q2];repeat refine sdQ ?_
 refine hK _ ?_;clear hK K;refine tn ?_;refine Q8 (st':=⟨[(6,.own 0 0 b1.length)],[(0,rI b1)],1⟩) (wkQ8 [(0,0)]) ?_;refine Qi ?_;have hr:=Option.some.inj h;rw [← hr];refine ⟨_,(.tmp .nil),?_⟩;refine ⟨(.one rfl rfl .nil),[lI b1],[0],by simp [Cat.cells,UA,U1,IA,I1,LA,L1,BA,B1,EA,E1,E2,eB,eI,eL],by simp,(UpL.refl _)⟩
attribute [local simp] eL eI Qn QC Cat.cells
noncomputable def QA (c_:Cat) (f_:Int):Option Int :=
 ass (0≤f_∧f_<(c_.fr.length:Int)) <|
 ass (0≤f_∧f_<(c_.to.length:Int)) <|
 (QI c_ (ix c_.to f_) (ix c_.fr f_)).bind fun v3 =>
 (Qv (σ:=Int) (ε:=Unit ⊕ Int) (fun s15 =>
  if s15<(v3.length:Int) then
   ass (0≤s15∧s15<(v3.length:Int)) <|
   (
    (Qt c_ f_ (ix v3 s15)).bind fun v19 =>
    ass (0≤ix c_.fr f_∧ix c_.fr f_<(c_.id.length:Int)) <|
    if v19=(ix c_.id (ix c_.fr f_)) then
     (Qt c_ (ix v3 s15) f_).bind fun v22 =>
     ass (0≤ix c_.to f_∧ix c_.to f_<(c_.id.length:Int)) <|
     some (v22 == (ix c_.id (ix c_.to f_)))
    else
     some false:Option (Bool)).bind fun b18 =>
   if b18=true then
    some (Ctl.ret (Sum.inr (ix v3 s15)))
   else
    ass (B64 (s15+1)) <|
    some (Ctl.next (s15+1))
  else
   some (Ctl.ret (Sum.inl ()))) fuel 0).bind fun e4 =>
 match e4 with
 | .inl b4 =>
  some (-1)
 | .inr p4 =>
  some p4
theorem Q1t (c_:Cat) (f_:Int) (r:Int) (h:QA c_ f_=some r):Contract Try.prog 158 [.rptr (c_.cells true),iV f_] (iV r):=by
 refine Qe (rvs:=[.tmp 4]) (rs:=[iV r]) Try.func158 rfl rfl rfl rfl (by simp [Try.f158]) fun F hN hP=>?_;unfold QA at h;refine Q4 ?_;refine runQ hN fun K hK=>?_;simp [-Q0,-Q6,-Q1,-Q7,-Q2];repeat refine sdQ ?_
 refine hK _ ?_;clear hK K;refine tn ?_;refine Q8 (st':=⟨[(0,.rptr (Cat.cells true c_)),(1,iV f_)],[],0⟩) (wkQ8 []) ?_;refine Q4 ?_;refine runQ hN fun K hK=>?_;replace h:=Q5 h;obtain ⟨a1,h⟩:=h;replace h:=Q5 h;obtain ⟨a2,h⟩:=h;simp [-Q0,-Q6,-Q1,-Q7,-Q2,at_I a1,at_I a2];repeat refine sdQ ?_
 refine hK _ ?_;clear hK K;refine tn ?_;refine Q8 (st':=⟨[(0,.rptr (Cat.cells true c_)),(1,iV f_),(5,iV (ix c_.fr f_)),(6,iV (ix c_.to f_))],[],0⟩) (wkQ8 []) ?_;refine Q4 ?_;refine Q4 ?_;refine runQ hN fun K hK=>?_;simp [-Q0,-Q6,-Q1,-Q7,-Q2];repeat with_reducible refine sdQ ?_
 replace h:=bind_some h;obtain ⟨v3,hv3,h⟩:=h;refine Q3 (Q3e _ _ _ v3 hv3) (.cons (.preT (by simp [Cat.cells])) (.cons .val (.cons .val .nil))) ?_;simp [-Q0,-Q6,-Q1,-Q7,-Q2,unk,unA,unE,unT,unC,flat];repeat refine sdQ ?_
 refine hK _ ?_;clear hK K;refine tn ?_;refine Q8 (st':=⟨[(0,.rptr (Cat.cells true c_)),(1,iV f_),(5,iV (ix c_.fr f_)),(6,iV (ix c_.to f_)),(26,.own 0 0 v3.length),(27,iV (v3.length:Int)),(28,iV 0)],[(0,rI v3)],1⟩) (wkQ8 [(0,0)]) ?_;replace h:=bind_some h;obtain ⟨e4,h,h4⟩:=h;refine Qh (fun b4:Unit=>⟨[],[],0⟩) (fun b4=>Sum.inl b4=e4) ?_ ?_
 ·refine Qa ?_;refine Qs h (fun s15:Int=>⟨[(0,.rptr (Cat.cells true c_)),(1,iV f_),(5,iV (ix c_.fr f_)),(6,iV (ix c_.to f_)),(26,.own 0 0 v3.length),(27,iV (v3.length:Int)),(28,iV s15)],[(0,rI v3)],1⟩) (wkQ8 [(0,0)]) ?_;clear h;intro k15 s15 c15 h hk15;refine Q4 ?_;refine runQ hN fun K hK=>?_;simp [-Q0,-Q6,-Q1,-Q7,-Q2];repeat refine sdQ ?_
  refine hK _ ?_;clear hK K;refine tn ?_;refine Q8 (st':=⟨[(0,.rptr (Cat.cells true c_)),(1,iV f_),(5,iV (ix c_.fr f_)),(6,iV (ix c_.to f_)),(26,.own 0 0 v3.length),(27,iV (v3.length:Int)),(28,iV s15),(29,.val (.bool (decide (s15<(v3.length:Int)))))],[(0,rI v3)],1⟩) (wkQ8 [(0,0)]) ?_;refine Q4 ?_;refine Qc rfl (fun g=>?_) fun g=>?_
  ·have g16:s15<(v3.length:Int):=gQ;clear g;replace h:=if_l g16 h;refine Qd ?_;refine tn ?_;refine Q4 ?_;refine Qa ?_;refine Q4 ?_;refine runQ hN fun K hK=>?_;replace h:=Q5 h;obtain ⟨a17,h⟩:=h;simp [-Q0,-Q6,-Q1,-Q7,-Q2,at_I a17];(repeat refine sdQ ?_);refine hK _ ?_;clear hK K;refine tn ?_;refine Q8 (st':=⟨[(0,.rptr (Cat.cells true c_)),(1,iV f_),(5,iV (ix c_.fr f_)),(6,iV (ix c_.to f_)),(8,iV (ix v3 s15)),(26,.own 0 0 v3.length),(27,iV (v3.length:Int)),(28,iV s15)],[(0,rI v3)],1⟩) (wkQ8 [(0,0)]) ?_;refine Q4 ?_;replace h:=bind_some h;obtain ⟨e18,h,h18⟩:=h;refine Qh (fun b18:Bool=>⟨[(0,.rptr (Cat.cells true c_)),(1,iV f_),(5,iV (ix c_.fr f_)),(6,iV (ix c_.to f_)),(8,iV (ix v3 s15)),(26,.own 0 0 v3.length),(27,iV (v3.length:Int)),(28,iV s15),(57,.val (.bool b18))],[(0,rI v3)],1⟩) (fun b18=>b18=e18) ?_ ?_
   ·refine runQ hN fun K hK=>?_;simp [-Q0,-Q6,-Q1,-Q7,-Q2];(repeat with_reducible refine sdQ ?_);replace h:=bind_some h;obtain ⟨v19,hv19,h⟩:=h;refine Q3 (QR _ _ _ v19 hv19) (.cons (.preT (by simp [Cat.cells])) (.cons .val (.cons .val .nil))) ?_;replace h:=Q5 h;obtain ⟨a20,h⟩:=h;simp [-Q0,-Q6,-Q1,-Q7,-Q2,unk,unA,unE,unT,unC,flat,at_I a20];(repeat with_reducible refine sdQ ?_);refine Qw (fun g=>?_) (fun g=>?_)
    ·have g21:v19=(ix c_.id (ix c_.fr f_)):=gQ;clear g;replace h:=if_l g21 h;simp [-Q0,-Q6,-Q1,-Q7,-Q2,at_I a20];(repeat with_reducible refine sdQ ?_);replace h:=bind_some h;obtain ⟨v22,hv22,h⟩:=h;refine Q3 (QR _ _ _ v22 hv22) (.cons (.preT (by simp [Cat.cells])) (.cons .val (.cons .val .nil))) ?_;replace h:=Q5 h;obtain ⟨a23,h⟩:=h;simp [-Q0,-Q6,-Q1,-Q7,-Q2,unk,unA,unE,unT,unC,flat,at_I a20,at_I a23];(repeat refine sdQ ?_);refine hK _ ?_;exact jn (b:=v22 == (ix c_.id (ix c_.to f_))) (Option.some.inj h) (wkQ8 [(0,0)])
    have g21:¬ (v19=(ix c_.id (ix c_.fr f_))):=gQ;clear g;replace h:=if_r g21 h;simp [-Q0,-Q6,-Q1,-Q7,-Q2,at_I a20];(repeat refine sdQ ?_);refine hK _ ?_;exact jn (b:=false) (Option.some.inj h) (wkQ8 [(0,0)])
   intro b18 hb18;have h:=h18;(try rw [← hb18] at h);clear h18;(try dsimp only at h);refine Qc rfl (fun g=>?_) fun g=>?_
   ·have g24:b18=true:=gQ;clear g;replace h:=if_l g24 h;refine Q4 ?_;refine runQ hN fun K hK=>?_;simp [-Q0,-Q6,-Q1,-Q7,-Q2];(repeat refine sdQ ?_);refine hK _ ?_;clear hK K;refine tn ?_;refine Q8 (st':=⟨[(4,iV (ix v3 s15))],[],0⟩) (wkQ8 []) ?_;refine Qi ?_;refine br ?_;refine tr ?_;refine lr ?_;refine br ?_;refine tr ?_;cases h;have q:_=e4:=hk15;have h:=h4;rw [← q] at h;clear q;(try dsimp only at h);have hr:=Option.some.inj h;rw [← hr];refine ⟨_,(.tmp .nil),?_⟩;refine ⟨(.one rfl rfl .nil),[iV (ix v3 s15)],[],by simp [Cat.cells,UA,U1,IA,I1,LA,L1,BA,B1,EA,E1,E2,eB,eI,eL],by simp,(UpL.refl _)⟩
   have g24:¬ (b18=true):=gQ;clear g;replace h:=if_r g24 h;refine Qd ?_;refine bn ?_;refine tn ?_;refine runQ hN fun K hK=>?_;replace h:=Q5 h;obtain ⟨a25,h⟩:=h;simp [-Q0,-Q6,-Q1,-Q7,-Q2,Qp a25];(repeat refine sdQ ?_);refine hK _ ?_;clear hK K;cases h;exact rn (s':=s15+1) hk15 (wkQ8 [(0,0)])
  have g16:¬ (s15<(v3.length:Int)):=gQ;clear g;replace h:=if_r g16 h;refine Qj ?_;refine tx ?_;refine lx ?_;refine bh ?_;cases h;exact jn (b:=()) hk15 (wkQ8 [])
 intro b4 hb4;have h:=h4;try rw [← hb4] at h
 clear h4;try dsimp only at h
 refine Q4 ?_;refine runQ hN fun K hK=>?_;simp [-Q0,-Q6,-Q1,-Q7,-Q2];repeat refine sdQ ?_
 refine hK _ ?_;clear hK K;refine tn ?_;refine Q8 (st':=⟨[(4,iV (-1))],[],0⟩) (wkQ8 []) ?_;refine Qi ?_;have hr:=Option.some.inj h;rw [← hr];refine ⟨_,(.tmp .nil),?_⟩;refine ⟨(.one rfl rfl .nil),[iV (-1)],[],by simp [Cat.cells,UA,U1,IA,I1,LA,L1,BA,B1,EA,E1,E2,eB,eI,eL],by simp,(UpL.refl _)⟩
attribute [local simp] eL eI Qn QC Cat.cells
noncomputable def Q1W (c_:Cat) (x_:Int) (y_:Int):Option (List Int) :=
 (Qv (σ:=List Int × Int) (ε:=List Int) (fun s11 =>
  if s11.2<(c_.fr.length:Int) then
   (
    (
     ass (0≤s11.2∧s11.2<(c_.fr.length:Int)) <|
     if (ix c_.fr s11.2)=x_ then
      ass (0≤s11.2∧s11.2<(c_.to.length:Int)) <|
      some ((ix c_.to s11.2) == y_)
     else
      some false:Option (Bool)).bind fun b14 =>
    if b14=true then
     ass ((s11.1++[s11.2]).length≤1073741824) <|
     some (s11.1++[s11.2])
    else
     some s11.1:Option (List Int)).bind fun b13 =>
   ass (B64 (s11.2+1)) <|
   some (Ctl.next (b13,s11.2+1))
  else
   some (Ctl.ret s11.1)) fuel ([],0)).bind fun b1 =>
 some b1
theorem Q4A (c_:Cat) (x_:Int) (y_:Int) (r:List Int) (h:Q1W c_ x_ y_=some r):Contract Try.prog 83 [.agg (c_.cells true),iV x_,iV y_] (lI r):=by
 refine Qe (rvs:=[.tmp 6]) (rs:=[lI r]) Try.func83 rfl rfl rfl rfl (by simp [Try.f83]) fun F hN hP=>?_;unfold Q1W at h;refine Q4 ?_;refine runQ hN fun K hK=>?_;simp [-Q0,-Q6,-Q1,-Q7,-Q2];repeat refine sdQ ?_
 refine hK _ ?_;clear hK K;refine tn ?_;refine Q8 (st':=⟨[(1,iV x_),(2,iV y_),(3,.adr 0 0 0)],[(0,.mix 5 [(Cat.cells true c_)])],1⟩) (wkQ8 [(0,0)]) ?_;refine Q4 ?_;refine runQ hN fun K hK=>?_;simp [-Q0,-Q6,-Q1,-Q7,-Q2];repeat refine sdQ ?_
 refine hK _ ?_;clear hK K;refine tn ?_;refine Q8 (st':=⟨[(1,iV x_),(2,iV y_),(3,.adr 0 0 0),(7,.own 1 0 0)],[(0,.mix 5 [(Cat.cells true c_)]),(1,.mix 1 [])],2⟩) (wkQ8 [(0,0),(1,1)]) ?_;refine Q4 ?_;refine Q4 ?_;refine runQ hN fun K hK=>?_;simp [-Q0,-Q6,-Q1,-Q7,-Q2];repeat refine sdQ ?_
 refine hK _ ?_;clear hK K;refine tn ?_;refine Q8 (st':=⟨[(1,iV x_),(2,iV y_),(3,.adr 0 0 0),(7,.own 1 0 0),(8,iV 0)],[(0,.mix 5 [(Cat.cells true c_)]),(1,.mix 1 [])],2⟩) (wkQ8 [(0,0),(1,1)]) ?_;replace h:=bind_some h;obtain ⟨e1,h,h1⟩:=h;refine Qh (fun b1:List Int=>⟨[(7,.own 0 0 b1.length)],[(0,rI b1)],1⟩) (fun b1=>b1=e1) ?_ ?_
 ·refine Qa ?_;refine Qs h (fun s11:List Int × Int=>⟨[(1,iV x_),(2,iV y_),(3,.adr 0 0 0),(7,.own 1 0 s11.1.length),(8,iV s11.2)],[(0,.mix 5 [(Cat.cells true c_)]),(1,rI s11.1)],2⟩) (Q2O ⟨[(1,iV x_),(2,iV y_),(3,.adr 0 0 0),(7,.own 1 0 0),(8,iV 0)],[(0,.mix 5 [(Cat.cells true c_)]),(1,rI [])],2⟩ (Wk.nils [] (by simp) (by simp) (by simp [nlA]) (by simp [entN,nlL,nlA,Cat.cells,UA,U1,IA,I1,LA,L1,BA,B1,EA,E1,E2,eB,eI,eL]) (by simp)) (wkQ8 [(0,0),(1,1)])) ?_;clear h;intro k11 s11 c11 h hk11;refine Q4 ?_;refine Q4 ?_;refine runQ hN fun K hK=>?_;simp [-Q0,-Q6,-Q1,-Q7,-Q2];repeat refine sdQ ?_
  refine hK _ ?_;clear hK K;refine tn ?_;refine Q8 (st':=⟨[(1,iV x_),(2,iV y_),(3,.adr 0 0 0),(7,.own 1 0 s11.1.length),(8,iV s11.2),(14,.val (.bool (decide (s11.2<(c_.fr.length:Int)))))],[(0,.mix 5 [(Cat.cells true c_)]),(1,rI s11.1)],2⟩) (wkQ8 [(0,0),(1,1)]) ?_;refine Qc rfl (fun g=>?_) fun g=>?_
  ·have g12:s11.2<(c_.fr.length:Int):=gQ;clear g;replace h:=if_l g12 h;refine Qd ?_;refine tn ?_;refine Q4 ?_;replace h:=bind_some h;obtain ⟨e13,h,h13⟩:=h;refine Qh (fun b13:List Int=>⟨[(1,iV x_),(2,iV y_),(3,.adr 0 0 0),(7,.own 1 0 b13.length),(8,iV s11.2)],[(0,.mix 5 [(Cat.cells true c_)]),(1,rI b13)],2⟩) (fun b13=>b13=e13) ?_ ?_
   ·refine Qa ?_;refine Q4 ?_;replace h:=bind_some h;obtain ⟨e14,h,h14⟩:=h;refine Qh (fun b14:Bool=>⟨[(1,iV x_),(2,iV y_),(3,.adr 0 0 0),(7,.own 1 0 s11.1.length),(8,iV s11.2),(32,.val (.bool b14))],[(0,.mix 5 [(Cat.cells true c_)]),(1,rI s11.1)],2⟩) (fun b14=>b14=e14) ?_ ?_
    ·refine runQ hN fun K hK=>?_;replace h:=Q5 h;obtain ⟨a15,h⟩:=h;simp [-Q0,-Q6,-Q1,-Q7,-Q2,at_I a15];(repeat with_reducible refine sdQ ?_);refine Qw (fun g=>?_) (fun g=>?_)
     ·have g16:(ix c_.fr s11.2)=x_:=gQ;clear g;replace h:=if_l g16 h;replace h:=Q5 h;obtain ⟨a17,h⟩:=h;simp [-Q0,-Q6,-Q1,-Q7,-Q2,at_I a15,at_I a17];(repeat refine sdQ ?_);refine hK _ ?_;exact jn (b:=(ix c_.to s11.2) == y_) (Option.some.inj h) (wkQ8 [(0,0),(1,1)])
     have g16:¬ ((ix c_.fr s11.2)=x_):=gQ;clear g;replace h:=if_r g16 h;simp [-Q0,-Q6,-Q1,-Q7,-Q2,at_I a15];(repeat refine sdQ ?_);refine hK _ ?_;exact jn (b:=false) (Option.some.inj h) (wkQ8 [(0,0),(1,1)])
    intro b14 hb14;have h:=h14;(try rw [← hb14] at h);clear h14;(try dsimp only at h);refine Qc rfl (fun g=>?_) fun g=>?_
    ·have g18:b14=true:=gQ;clear g;replace h:=if_l g18 h;refine runQ hN fun K hK=>?_;replace h:=Q5 h;obtain ⟨a19,h⟩:=h;(try simp only [List.length_append,List.length_cons,List.length_nil] at a19);simp [-Q0,-Q6,-Q1,-Q7,-Q2,a19];(repeat refine sdQ ?_);refine hK _ ?_;clear hK K;refine bn ?_;exact jn (b:=s11.1++[s11.2]) (Option.some.inj h) (wkQ8 [(0,0),(3,1)])
    have g18:¬ (b14=true):=gQ;clear g;replace h:=if_r g18 h;refine Qd ?_;refine bn ?_;exact jn (b:=s11.1) (Option.some.inj h) (wkQ8 [(0,0),(1,1)])
   intro b13 hb13;have h:=h13;(try rw [← hb13] at h);clear h13;(try dsimp only at h);refine runQ hN fun K hK=>?_;replace h:=Q5 h;obtain ⟨a20,h⟩:=h;simp [-Q0,-Q6,-Q1,-Q7,-Q2,Qp a20];(repeat refine sdQ ?_);refine hK _ ?_;clear hK K;cases h;exact rn (s':=(b13,s11.2+1)) hk11 (wkQ8 [(0,0),(1,1)])
  have g12:¬ (s11.2<(c_.fr.length:Int)):=gQ;clear g;replace h:=if_r g12 h;refine Qj ?_;refine tx ?_;refine lx ?_;refine bh ?_;cases h;exact jn (b:=s11.1) hk11 (wkQ8 [(1,0)])
 intro b1 hb1;have h:=h1;try rw [← hb1] at h
 clear h1;try dsimp only at h
 refine Q4 ?_;refine runQ hN fun K hK=>?_;simp [-Q0,-Q6,-Q1,-Q7,-Q2];repeat refine sdQ ?_
 refine hK _ ?_;clear hK K;refine tn ?_;refine Q8 (st':=⟨[(6,.own 0 0 b1.length)],[(0,rI b1)],1⟩) (wkQ8 [(0,0)]) ?_;refine Qi ?_;have hr:=Option.some.inj h;rw [← hr];refine ⟨_,(.tmp .nil),?_⟩;refine ⟨(.one rfl rfl .nil),[lI b1],[0],by simp [Cat.cells,UA,U1,IA,I1,LA,L1,BA,B1,EA,E1,E2,eB,eI,eL],by simp,(UpL.refl _)⟩
noncomputable def flt (n:Nat) (p:Nat→Prop):List Int:=((List.range n).filter fun i=>bo (p i)).map Int.ofNat
noncomputable def fstN (n:Nat) (p:Nat→Prop):Int:=(((List.range n).find? fun i=>bo (p i)).map Int.ofNat).getD (-1)
theorem Q2l {n:Nat} {p:Nat→Prop} (h:p n):flt (n+1) p=flt n p++[(n:Int)]:=by simp [flt,List.range_succ,QO h]
theorem Q1Q {n:Nat} {p:Nat→Prop} (h:¬ p n):flt (n+1) p=flt n p:=by simp [flt,List.range_succ,QB h]
theorem Q3q (n:Nat) (p:Nat→Prop):(flt n p).length≤n:=by
 unfold flt;rw [List.length_map];exact Nat.le_trans (List.length_filter_le _ _) (by simp)
theorem mem_flt {n:Nat} {p:Nat→Prop} {x:Int}:x∈flt n p↔∃ i:Nat,i<n∧p i∧x=(i:Int):=by
 simp only [flt,List.mem_map,List.mem_filter,List.mem_range,bo_tt];constructor
 ·rintro ⟨i,⟨h1,h2⟩,rfl⟩;exact ⟨i,h1,h2,rfl⟩
 rintro ⟨i,h1,h2,rfl⟩;exact ⟨i,⟨h1,h2⟩,rfl⟩
theorem ix_flt {n:Nat} {p:Nat→Prop} {i:Nat} (h:i<(flt n p).length):∃ k:Nat,k<n∧p k∧ix (flt n p) i=(k:Int):=by
 have:=List.getElem_mem h;rw [QN _ _ h] at this;exact mem_flt.1 this
theorem Q20 (n:Nat) (p:Nat→Prop):(fstN n p = -1∧∀ i,i<n→¬ p i)∨∃ k:Nat,k<n∧p k∧fstN n p=(k:Int):=by
 unfold fstN;cases h:(List.range n).find? fun i=>bo (p i) with
 | none =>
  refine .inl ⟨rfl,fun i hi=>?_⟩;have:=List.find?_eq_none.1 h i (by simpa using hi);simpa [bo_tt] using this
 | some k =>
  have h1:=List.find?_some h;have h2:=List.mem_of_find?_eq_some h;exact .inr ⟨k,by simpa using h2,by simpa [bo_tt] using h1,rfl⟩
theorem first_flt (n:Nat) (p:Nat→Prop) (q:Int→Prop):((flt n p).find? fun v=>bo (q v)).getD (-1)=fstN n fun i=>p i∧q i:=by
 unfold flt fstN;rw [List.find?_map,List.find?_filter]
 congr 3
 funext i
 by_cases h1:p i<;>by_cases h2:q i<;>simp [bo,h1,h2]
theorem find_loop {ε:Type} {body:Int→Option (Ctl Int ε)} (xs:List Int) (q:Int→Prop) {eb:Int→ε} {eg:ε} (hn:xs.length<4611686018427387904) (h1:∀ i:Nat,i<xs.length→¬ q (ix xs i)→body (i:Int)=some (.next ((i:Int)+1))) (h2:∀ i:Nat,i<xs.length→q (ix xs i)→body (i:Int)=some (.ret (eb (ix xs i)))) (h3:body (xs.length:Int)=some (.ret eg)) :
  Qv body fuel 0=some (((xs.find? fun v=>bo (q v)).map eb).getD eg):=by
 rcases Q8a (body:=body) xs.length (fun i=>¬ q (ix xs i)) (eb:=fun i=>eb (ix xs i)) (eg:=eg) hn h1 (fun i hi h=>h2 i hi (Classical.byContradiction h)) h3 with ⟨h,e⟩|⟨m,hm,hq,hlt,e⟩
 ·rw [e,List.find?_eq_none.2 fun x hx=>?_]
  ·rfl
  obtain ⟨i,hi,rfl⟩:=List.getElem_of_mem hx;have:=h i hi;rw [← QN _ _ hi] at this;simpa [bo_tt] using this
 rw [e,show (xs.find? fun v=>bo (q v))=some (ix xs m) from List.find?_eq_some_iff_getElem.2 ⟨by rw [bo_tt];exact Classical.byContradiction hq,m,hm,QN _ _ hm,fun j hj=>?_⟩]
 ·rfl
 have:=hlt j hj;rw [← QN _ _ (by omega)] at this;simp [QB this]
theorem Q6y {ε:Type} {body:Int→Option (Ctl Int ε)} {K:ε→Option Int} {xs:List Int} (n:Nat) (p:Nat→Prop) (q:Int→Prop) {eb:Int→ε} {eg:ε} (hx:xs=flt n p) (hn:n<4611686018427387904)
  (h1:∀ i k:Nat,i<xs.length→i<n→k<n→p k→ix xs i=(k:Int)→¬ q k→body (i:Int)=some (.next ((i:Int)+1))) (h2:∀ i k:Nat,i<xs.length→i<n→k<n→p k→ix xs i=(k:Int)→q k→body (i:Int)=some (.ret (eb k))) (h3:body (xs.length:Int)=some (.ret eg))
  (hb:∀ v,K (eb v)=some v) (hg:K eg=some (-1)):(Qv body fuel 0).bind K=some (fstN n fun i=>p i∧q i):=by
 subst hx;have hl:=Q3q n p;rw [find_loop (flt n p) q (eb:=eb) (eg:=eg) (by omega) (fun i hi h=>?_) (fun i hi h=>?_) h3,← first_flt]
 ·cases (flt n p).find? fun v=>bo (q v) with
  | none=>exact hg
  | some v=>exact hb v
 ·obtain ⟨k,k1,k2,k3⟩:=ix_flt hi;rw [k3] at h;exact h1 i k hi (by omega) k1 k2 k3 h
 obtain ⟨k,k1,k2,k3⟩:=ix_flt hi;rw [k3] at h ⊢;exact h2 i k hi (by omega) k1 k2 k3 h
theorem e_hom {c:Cat} (h:c.Is) (x y:Int):QI c x y=some (flt c.fr.length fun a=>ix c.fr a=x∧ix c.to a=y):=by
 have k1:=h.1.lt;have k2:=h.1.m40;unfold QI;refine Q1G c.fr.length (fun i=>flt i fun a=>ix c.fr a=x∧ix c.to a=y) (e:=flt c.fr.length fun a=>ix c.fr a=x∧ix c.to a=y) rfl (by omega) (fun i hi=>?_) (by simp) rfl;have hl:=Q3q i fun a=>ix c.fr a=x∧ix c.to a=y
 by_cases h1:ix c.fr i=x
 ·by_cases h2:ix c.to i=y
  ·rw [Q2l ⟨h1,h2⟩];simp (disch:=omega) [Q9,B64,h1,h2];try omega
  rw [Q1Q fun q=>h2 q.2];simp (disch:=omega) [Q9,B64,h1,h2];try omega
 rw [Q1Q fun q=>h1 q.1];simp (disch:=omega) [Q9,B64,h1];try omega
theorem Q7W (c:Cat) (x y:Int):Q1W c x y=QI c x y:=rfl
def Inv (c:Cat) (f:Int) (g:Nat):Prop:=(ix c.fr g=ix c.to f∧ix c.to g=ix c.fr f)∧ix (rx c.cs f) g=ix c.id (ix c.fr f)∧ix (rx c.cs g) f=ix c.id (ix c.to f)
noncomputable def inv (c:Cat) (f:Int):Int:=fstN c.fr.length (Inv c f)
theorem Q52 {c:Cat} (h:c.Is) {f:Int} (h0:0≤f) (h1:f<c.fr.length):QA c f=some (inv c f):=by
 have k1:=h.1.lt;have k2:=h.1.m40;have k3:=h.1.lc;have k4:=h.1.li;have f1:=h.1.fr' h0 h1;have f2:=h.1.to' h0 h1;have f3:=h.1.row' h0 h1;unfold QA;rw [Q9 ⟨h0,h1⟩,Q9 (by omega),e_hom h];simp only [Option.bind_some];refine Q6y c.fr.length _ (fun g=>ix (rx c.cs f) g=ix c.id (ix c.fr f)∧ix (rx c.cs g) f=ix c.id (ix c.to f)) (eb:=fun v=>Sum.inr v) (eg:=Sum.inl ()) rfl (by omega) (fun i k hi hn hk hp hix hq=>?_) (fun i k hi hn hk hp hix hq=>?_) (by simp) (fun v=>rfl) rfl
 ·have f4:=h.1.row' (j:=k) (by omega) (by omega)
  by_cases hq1:ix (rx c.cs f) k=ix c.id (ix c.fr f)
  ·have hq2:¬ ix (rx c.cs k) f=ix c.id (ix c.to f):=fun q=>hq ⟨hq1,q⟩;simp (disch:=omega) [Q9,B64,Q3X,hix,hq1,hq2,hi];try omega
  simp (disch:=omega) [Q9,B64,Q3X,hix,hq1,hi];try omega
 have f4:=h.1.row' (j:=k) (by omega) (by omega);simp (disch:=omega) [Q9,B64,Q3X,hix,hq.1,hq.2,hi];try omega
attribute [local simp] eL eI Qn QC Cat.cells
noncomputable def Q15 (c_:Cat) (f_:Int):Option Int :=
 ass (0≤f_∧f_<(c_.to.length:Int)) <|
 ass (0≤f_∧f_<(c_.fr.length:Int)) <|
 (Q1W c_ (ix c_.to f_) (ix c_.fr f_)).bind fun v3 =>
 (Qv (σ:=Int) (ε:=Unit ⊕ Int) (fun s17 =>
  if s17<(v3.length:Int) then
   (
    ass (0≤s17∧s17<(v3.length:Int)) <|
    (Q16 c_ f_ (ix v3 s17)).bind fun v21 =>
    (Q1X c_ v21).bind fun v22 =>
    if v22=true then
     ass (0≤s17∧s17<(v3.length:Int)) <|
     (Q16 c_ (ix v3 s17) f_).bind fun v25 =>
     (Q1X c_ v25).bind fun v26 =>
     some v26
    else
     some false:Option (Bool)).bind fun b19 =>
   if b19=true then
    ass (0≤s17∧s17<(v3.length:Int)) <|
    some (Ctl.ret (Sum.inr (ix v3 s17)))
   else
    ass (B64 (s17+1)) <|
    some (Ctl.next (s17+1))
  else
   some (Ctl.ret (Sum.inl ()))) fuel 0).bind fun e4 =>
 match e4 with
 | .inl b4 =>
  some (-1)
 | .inr p4 =>
  some p4
theorem Q2M (c_:Cat) (f_:Int) (r:Int) (h:Q15 c_ f_=some r):Contract Try.prog 198 [.agg (c_.cells true),iV f_] (iV r):=by
 refine Qe (rvs:=[.tmp 4]) (rs:=[iV r]) Try.func198 rfl rfl rfl rfl (by simp [Try.f198]) fun F hN hP=>?_;unfold Q15 at h;refine Q4 ?_;refine runQ hN fun K hK=>?_;simp [-Q0,-Q6,-Q1,-Q7,-Q2];repeat refine sdQ ?_
 refine hK _ ?_;clear hK K;refine tn ?_;refine Q8 (st':=⟨[(1,iV f_),(2,.adr 0 0 0)],[(0,.mix 5 [(Cat.cells true c_)])],1⟩) (wkQ8 [(0,0)]) ?_;refine Q4 ?_;refine runQ hN fun K hK=>?_;replace h:=Q5 h;obtain ⟨a1,h⟩:=h;replace h:=Q5 h;obtain ⟨a2,h⟩:=h;simp [-Q0,-Q6,-Q1,-Q7,-Q2,at_I a1,at_I a2];repeat with_reducible refine sdQ ?_
 replace h:=bind_some h;obtain ⟨v3,hv3,h⟩:=h;refine Q3 (Q4A _ _ _ v3 hv3) (.cons (.aggL (.cons .val (.cons .lst (.cons .lst (.cons .lst (.cons .lst .nil)))))) (.cons .val (.cons .val .nil))) ?_;simp [-Q0,-Q6,-Q1,-Q7,-Q2,unk,unA,unE,unT,unC,flat,at_I a1,at_I a2];repeat refine sdQ ?_
 refine hK _ ?_;clear hK K;refine tn ?_;refine Q8 (st':=⟨[(1,iV f_),(2,.adr 0 0 0),(5,.own 1 0 v3.length)],[(0,.mix 5 [(Cat.cells true c_)]),(1,rI v3)],2⟩) (wkQ8 [(0,0),(1,1)]) ?_;refine Q4 ?_;refine Q4 ?_;refine runQ hN fun K hK=>?_;simp [-Q0,-Q6,-Q1,-Q7,-Q2];repeat refine sdQ ?_
 refine hK _ ?_;clear hK K;refine tn ?_;refine Q8 (st':=⟨[(1,iV f_),(2,.adr 0 0 0),(5,.own 1 0 v3.length),(6,iV 0)],[(0,.mix 5 [(Cat.cells true c_)]),(1,rI v3)],2⟩) (wkQ8 [(0,0),(1,1)]) ?_;replace h:=bind_some h;obtain ⟨e4,h,h4⟩:=h;refine Qh (fun b4:Unit=>⟨[],[],0⟩) (fun b4=>Sum.inl b4=e4) ?_ ?_
 ·refine Qa ?_;refine Qs h (fun s17:Int=>⟨[(1,iV f_),(2,.adr 0 0 0),(5,.own 1 0 v3.length),(6,iV s17)],[(0,.mix 5 [(Cat.cells true c_)]),(1,rI v3)],2⟩) (wkQ8 [(0,0),(1,1)]) ?_;clear h;intro k17 s17 c17 h hk17;refine Q4 ?_;refine Q4 ?_;refine runQ hN fun K hK=>?_;simp [-Q0,-Q6,-Q1,-Q7,-Q2];repeat refine sdQ ?_
  refine hK _ ?_;clear hK K;refine tn ?_;refine Q8 (st':=⟨[(1,iV f_),(2,.adr 0 0 0),(5,.own 1 0 v3.length),(6,iV s17),(22,.val (.bool (decide (s17<(v3.length:Int)))))],[(0,.mix 5 [(Cat.cells true c_)]),(1,rI v3)],2⟩) (wkQ8 [(0,0),(1,1)]) ?_;refine Qc rfl (fun g=>?_) fun g=>?_
  ·have g18:s17<(v3.length:Int):=gQ;clear g;replace h:=if_l g18 h;refine Qd ?_;refine tn ?_;refine Q4 ?_;refine Qa ?_;refine Q4 ?_;replace h:=bind_some h;obtain ⟨e19,h,h19⟩:=h;refine Qh (fun b19:Bool=>⟨[(1,iV f_),(2,.adr 0 0 0),(5,.own 1 0 v3.length),(6,iV s17),(44,.val (.bool b19))],[(0,.mix 5 [(Cat.cells true c_)]),(1,rI v3)],2⟩) (fun b19=>b19=e19) ?_ ?_
   ·refine runQ hN fun K hK=>?_;replace h:=Q5 h;obtain ⟨a20,h⟩:=h;simp [-Q0,-Q6,-Q1,-Q7,-Q2,at_I a20];(repeat with_reducible refine sdQ ?_);replace h:=bind_some h;obtain ⟨v21,hv21,h⟩:=h;refine Q3 (Q3c _ _ _ v21 hv21) (.cons (.aggL (.cons .val (.cons .lst (.cons .lst (.cons .lst (.cons .lst .nil)))))) (.cons .val (.cons .val .nil))) ?_;simp [-Q0,-Q6,-Q1,-Q7,-Q2,unk,unA,unE,unT,unC,flat,at_I a20];(repeat with_reducible refine sdQ ?_);replace h:=bind_some h;obtain ⟨v22,hv22,h⟩:=h;refine Q3 (Q5u _ _ v22 hv22) (.cons (.aggL (.cons .val (.cons .lst (.cons .lst (.cons .lst (.cons .lst .nil)))))) (.cons .val .nil)) ?_;simp [-Q0,-Q6,-Q1,-Q7,-Q2,unk,unA,unE,unT,unC,flat,at_I a20];(repeat with_reducible refine sdQ ?_);refine Qw (fun g=>?_) (fun g=>?_)
    ·have g23:v22=true:=gQ;clear g;replace h:=if_l g23 h;replace h:=Q5 h;obtain ⟨a24,h⟩:=h;simp [-Q0,-Q6,-Q1,-Q7,-Q2,at_I a20,at_I a24];(repeat with_reducible refine sdQ ?_);replace h:=bind_some h;obtain ⟨v25,hv25,h⟩:=h;refine Q3 (Q3c _ _ _ v25 hv25) (.cons (.aggL (.cons .val (.cons .lst (.cons .lst (.cons .lst (.cons .lst .nil)))))) (.cons .val (.cons .val .nil))) ?_;simp [-Q0,-Q6,-Q1,-Q7,-Q2,unk,unA,unE,unT,unC,flat,at_I a20,at_I a24];(repeat with_reducible refine sdQ ?_);replace h:=bind_some h;obtain ⟨v26,hv26,h⟩:=h;refine Q3 (Q5u _ _ v26 hv26) (.cons (.aggL (.cons .val (.cons .lst (.cons .lst (.cons .lst (.cons .lst .nil)))))) (.cons .val .nil)) ?_;simp [-Q0,-Q6,-Q1,-Q7,-Q2,unk,unA,unE,unT,unC,flat,at_I a20,at_I a24];(repeat refine sdQ ?_);refine hK _ ?_;exact jn (b:=v26) (Option.some.inj h) (wkQ8 [(0,0),(1,1)])
    have g23:¬ (v22=true):=gQ;clear g;replace h:=if_r g23 h;simp [-Q0,-Q6,-Q1,-Q7,-Q2,at_I a20];(repeat refine sdQ ?_);refine hK _ ?_;exact jn (b:=false) (Option.some.inj h) (wkQ8 [(0,0),(1,1)])
   intro b19 hb19;have h:=h19;(try rw [← hb19] at h);clear h19;(try dsimp only at h);refine Qc rfl (fun g=>?_) fun g=>?_
   ·have g27:b19=true:=gQ;clear g;replace h:=if_l g27 h;refine Q4 ?_;refine runQ hN fun K hK=>?_;replace h:=Q5 h;obtain ⟨a28,h⟩:=h;simp [-Q0,-Q6,-Q1,-Q7,-Q2,at_I a28];(repeat refine sdQ ?_);refine hK _ ?_;clear hK K;refine tn ?_;refine Q8 (st':=⟨[(4,iV (ix v3 s17))],[],0⟩) (wkQ8 []) ?_;refine Qi ?_;refine br ?_;refine tr ?_;refine lr ?_;refine br ?_;refine tr ?_;cases h;have q:_=e4:=hk17;have h:=h4;rw [← q] at h;clear q;(try dsimp only at h);have hr:=Option.some.inj h;rw [← hr];refine ⟨_,(.tmp .nil),?_⟩;refine ⟨(.one rfl rfl .nil),[iV (ix v3 s17)],[],by simp [Cat.cells,UA,U1,IA,I1,LA,L1,BA,B1,EA,E1,E2,eB,eI,eL],by simp,(UpL.refl _)⟩
   have g27:¬ (b19=true):=gQ;clear g;replace h:=if_r g27 h;refine Qd ?_;refine bn ?_;refine tn ?_;refine runQ hN fun K hK=>?_;replace h:=Q5 h;obtain ⟨a29,h⟩:=h;simp [-Q0,-Q6,-Q1,-Q7,-Q2,Qp a29];(repeat refine sdQ ?_);refine hK _ ?_;clear hK K;cases h;exact rn (s':=s17+1) hk17 (wkQ8 [(0,0),(1,1)])
  have g18:¬ (s17<(v3.length:Int)):=gQ;clear g;replace h:=if_r g18 h;refine Qj ?_;refine tx ?_;refine lx ?_;refine bh ?_;cases h;exact jn (b:=()) hk17 (wkQ8 [])
 intro b4 hb4;have h:=h4;try rw [← hb4] at h
 clear h4;try dsimp only at h
 refine Q4 ?_;refine runQ hN fun K hK=>?_;simp [-Q0,-Q6,-Q1,-Q7,-Q2];repeat refine sdQ ?_
 refine hK _ ?_;clear hK K;refine tn ?_;refine Q8 (st':=⟨[(4,iV (-1))],[],0⟩) (wkQ8 []) ?_;refine Qi ?_;have hr:=Option.some.inj h;rw [← hr];refine ⟨_,(.tmp .nil),?_⟩;refine ⟨(.one rfl rfl .nil),[iV (-1)],[],by simp [Cat.cells,UA,U1,IA,I1,LA,L1,BA,B1,EA,E1,E2,eB,eI,eL],by simp,(UpL.refl _)⟩
theorem Q3p {c:Cat} (h:c.Is) {f:Int} (h0:0≤f) (h1:f<c.fr.length):Q15 c f=some (inv c f):=by
 have k1:=h.1.lt;have k2:=h.1.m40;have k3:=h.1.lc;have k4:=h.1.li;have f1:=h.1.fr' h0 h1;have f2:=h.1.to' h0 h1;have f3:=h.1.row' h0 h1;unfold Q15;rw [Q9 (by omega),Q9 ⟨h0,h1⟩,Q7W,e_hom h];simp only [Option.bind_some];have key:∀ k:Nat,k<c.fr.length→ix c.fr k=ix c.to f∧ix c.to k=ix c.fr f→(0≤ix (rx c.cs f) k∧ix (rx c.cs f) k<c.fr.length∧ix c.fr (ix (rx c.cs f) k)=ix c.fr f)∧(0≤ix (rx c.cs k) f∧ix (rx c.cs k) f<c.fr.length∧ix c.fr (ix (rx c.cs k) f)=ix c.to f):=by
  intro k hk hp;have c1:=(h.1.cell' (f:=f) (g:=k) h0 h1 (by omega) (by omega)).2 hp.1.symm;have c2:=(h.1.cell' (f:=k) (g:=f) (by omega) (by omega) h0 h1).2 hp.2;exact ⟨⟨c1.1,c1.2.1,c1.2.2.1⟩,c2.1,c2.2.1,by rw [c2.2.2.1,hp.1]⟩
 refine Q6y c.fr.length _ (fun g=>ix (rx c.cs f) g=ix c.id (ix c.fr f)∧ix (rx c.cs g) f=ix c.id (ix c.to f)) (eb:=fun v=>Sum.inr v) (eg:=Sum.inl ()) rfl (by omega) (fun i k hi hn hk hp hix hq=>?_) (fun i k hi hn hk hp hix hq=>?_) (by simp) (fun v=>rfl) rfl
 ·have f4:=h.1.row' (j:=k) (by omega) (by omega);obtain ⟨⟨a1,a2,a3⟩,b1,b2,b3⟩:=key k hk hp
  by_cases hq1:ix (rx c.cs f) k=ix c.id (ix c.fr f)
  ·have hq2:¬ ix (rx c.cs k) f=ix c.id (ix c.to f):=fun q=>hq ⟨hq1,q⟩;have e1:bo (ix (rx c.cs f) k=ix c.id (ix c.fr (ix (rx c.cs f) k)))=true:=QO (by rw [a3];exact hq1);have e2:bo (ix (rx c.cs k) f=ix c.id (ix c.fr (ix (rx c.cs k) f)))=false:=QB (by rw [b3];exact hq2);simp (disch:=omega) only [Q9,B64,Q4b,Q53 h,hix,e1,e2,hi,Option.bind_some,if_true,if_false,Bool.false_eq_true,if_pos,true_and]
  have e1:bo (ix (rx c.cs f) k=ix c.id (ix c.fr (ix (rx c.cs f) k)))=false:=QB (by rw [a3];exact hq1);simp (disch:=omega) only [Q9,B64,Q4b,Q53 h,hix,e1,hi,Option.bind_some,if_true,if_false,Bool.false_eq_true,if_pos,true_and]
 have f4:=h.1.row' (j:=k) (by omega) (by omega);obtain ⟨⟨a1,a2,a3⟩,b1,b2,b3⟩:=key k hk hp;have e1:bo (ix (rx c.cs f) k=ix c.id (ix c.fr (ix (rx c.cs f) k)))=true:=QO (by rw [a3];exact hq.1);have e2:bo (ix (rx c.cs k) f=ix c.id (ix c.fr (ix (rx c.cs k) f)))=true:=QO (by rw [b3];exact hq.2);simp (disch:=omega) only [Q9,B64,Q4b,Q53 h,hix,e1,e2,hi,Option.bind_some,if_true,if_false,Bool.false_eq_true,if_pos,true_and]
theorem Cat.Is.two {c:Cat} (h:c.Is) {f g:Int} (f0:0≤f∧f<c.fr.length) (g0:0≤g∧g<c.fr.length) (e:ix c.to f=ix c.fr g):(0≤ix (rx c.cs f) g∧ix (rx c.cs f) g<c.fr.length)∧ix c.fr (ix (rx c.cs f) g)=ix c.fr f∧ix c.to (ix (rx c.cs f) g)=ix c.to g:=by
 have:=(h.1.cell' f0.1 f0.2 g0.1 g0.2).2 e;exact ⟨⟨this.1,this.2.1⟩,this.2.2⟩
theorem e_Then {c:Cat} (h:c.Is) {f g:Int} (f0:0≤f∧f<c.fr.length) (g0:0≤g∧g<c.fr.length):Q16 c f g=some (ix (rx c.cs f) g)∧Qt c f g=some (ix (rx c.cs f) g):=by
 have h1:=h.1.lc;have h2:=h.1.row' f0.1 f0.2;exact ⟨Q4b (by omega) (by omega),Q3X (by omega) (by omega)⟩
abbrev Ar (c:Cat) (f x y:Int):Prop:=(0≤f∧f<(c.fr.length:Int))∧ix c.fr f=x∧ix c.to f=y
theorem Ar.two {c:Cat} (hc:c.Is) {f g x y z:Int} (h1:Ar c f x y) (h2:Ar c g y z):Ar c (ix (rx c.cs f) g) x z:=by
 have:=hc.two h1.1 h2.1 (by rw [h1.2.2,h2.2.1]);exact ⟨this.1,by rw [this.2.1,h1.2.1],by rw [this.2.2,h2.2.2]⟩
theorem Ar.thn {c:Cat} (hc:c.Is) {f g x y z:Int} (h1:Ar c f x y) (h2:Ar c g y z):Q16 c f g=some (ix (rx c.cs f) g)∧Qt c f g=some (ix (rx c.cs f) g):=e_Then hc h1.1 h2.1
theorem mem_ix {xs:List Int} {P:Int→Prop} (h:∀ x∈xs,P x) {i:Nat} (hi:i<xs.length):P (ix xs i):=by
 rw [← QN _ _ hi];exact h _ (List.getElem_mem hi)
noncomputable def homL (c:Cat) (x y:Int):List Int:=flt c.fr.length fun a=>ix c.fr a=x∧ix c.to a=y
theorem homL_mem {c:Cat} {x y:Int}:∀ f∈homL c x y,Ar c f x y:=by
 intro f hf;obtain ⟨i,h1,h2,rfl⟩:=mem_flt.1 hf;exact ⟨by omega,h2⟩
theorem Q85 (c:Cat) (x y:Int):(homL c x y).length≤c.fr.length:=Q3q _ _
theorem e_homs {c:Cat} (h:c.Is) (x y:Int):Q1W c x y=some (homL c x y)∧QI c x y=some (homL c x y):=⟨by rw [Q7W,e_hom h];rfl,e_hom h x y⟩
def MpP (f:List Int) (m n:Int):Prop:=(f.length:Int)=m∧∀ j:Nat,j<f.length→0≤ix f j∧ix f j<n
def Prf.row (p:Prf) (x:Nat):Prop:=((rx p.sz x).length:Int)=p.t.n∧∀ y:Nat,y<(rx p.sz x).length→0≤ix (rx p.sz x) y∧ix (rx p.sz x) y≤64
def Prf.mbf (p:Prf) (a:Nat):Prop:=((gx p.bf a).length:Int)=p.t.n∧∀ y:Nat,y<(gx p.bf a).length→MpP (rx (gx p.bf a) y) (ix (rx p.sz (ix p.s.to a)) y) (ix (rx p.sz (ix p.s.fr a)) y)
def Prf.mbh (p:Prf) (b:Nat):Prop:=((gx p.bh b).length:Int)=p.s.n∧∀ x:Nat,x<(gx p.bh b).length→MpP (rx (gx p.bh b) x) (ix (rx p.sz x) (ix p.t.fr b)) (ix (rx p.sz x) (ix p.t.to b))
structure Prf.Z (p:Prf):Prop where
 hs:p.s.Is
 ht:p.t.Is
 ls:(p.sz.length:Int)=p.s.n
 lb:p.bf.length=p.s.fr.length
 lh:p.bh.length=p.t.fr.length
 row:∀ x:Nat,x<p.sz.length→p.row x
structure Prf.M (p:Prf):Prop where
 z:p.Z
 bf:∀ a:Nat,a<p.bf.length→p.mbf a
 bh:∀ b:Nat,b<p.bh.length→p.mbh b
def Prf.li (p:Prf) (y x:Nat):Prop:=rx (gx p.bf (ix p.s.id x)) y=iota (ix (rx p.sz x) y).toNat∧rx (gx p.bh (ix p.t.id y)) x=iota (ix (rx p.sz x) y).toNat
def Prf.la (p:Prf) (y a b:Nat):Prop:=0≤ix (rx p.s.cs a) b→rx (gx p.bf (ix (rx p.s.cs a) b)) y=Q1l (rx (gx p.bf b) y) (rx (gx p.bf a) y)
def Prf.lc (p:Prf) (x a b:Nat):Prop:=0≤ix (rx p.t.cs a) b→rx (gx p.bh (ix (rx p.t.cs a) b)) x=Q1l (rx (gx p.bh a) x) (rx (gx p.bh b) x)
def Prf.ln (p:Prf) (a b:Nat):Prop:=Q1l (rx (gx p.bf a) (ix p.t.fr b)) (rx (gx p.bh b) (ix p.s.fr a))=Q1l (rx (gx p.bh b) (ix p.s.to a)) (rx (gx p.bf a) (ix p.t.to b))
structure Prf.Is (p:Prf):Prop where
 m:p.M
 l1:∀ y:Nat,y<p.t.id.length→(∀ x:Nat,x<p.s.id.length→p.li y x)∧∀ a:Nat,a<p.s.fr.length→∀ b:Nat,b<p.s.fr.length→p.la y a b
 l2:∀ x:Nat,x<p.s.id.length→∀ a:Nat,a<p.t.fr.length→∀ b:Nat,b<p.t.fr.length→p.lc x a b
 l3:∀ a:Nat,a<p.s.fr.length→∀ b:Nat,b<p.t.fr.length→p.ln a b
theorem Cat.Is.nums {c:Cat} (h:c.Is):0≤c.n∧c.n≤8∧c.fr.length≤40∧c.to.length=c.fr.length∧c.cs.length=c.fr.length∧(c.id.length:Int)=c.n:=⟨h.1.n0,h.1.n8,h.1.m40,h.1.lt,h.1.lc,h.1.li⟩
theorem Cat.Is.ends {c:Cat} (h:c.Is) {a:Int} (ha:0≤a∧a<(c.fr.length:Int)):(0≤ix c.fr a∧ix c.fr a<c.n)∧(0≤ix c.to a∧ix c.to a<c.n):=by
 have:=h.1.fr' ha.1 ha.2;have:=h.1.to' ha.1 ha.2;have:=h.1.li;omega
theorem Cat.Is.comp {c:Cat} (h:c.Is) {a b:Int} (ha:0≤a∧a<(c.fr.length:Int)) (hb:0≤b∧b<(c.fr.length:Int)) (h0:0≤ix (rx c.cs a) b) :
  ix c.to a=ix c.fr b∧ix (rx c.cs a) b<(c.fr.length:Int)∧ix c.fr (ix (rx c.cs a) b)=ix c.fr a∧ix c.to (ix (rx c.cs a) b)=ix c.to b:=by
 by_cases e:ix c.to a=ix c.fr b
 ·have q:=h.two ha hb e;exact ⟨e,q.1.2,q.2.1,q.2.2⟩
 have:=(h.1.cell' ha.1 ha.2 hb.1 hb.2).1 e;omega
theorem tabg {α ε β:Type} {body:List α × Int→Option (Ctl (List α × Int) ε)} {K:ε→Option β} {r:Option β} (n:Nat) (v:Nat→α) {e:ε} (hn:n<1000000)
  (h:∀ i:Nat,i<n→body (tab i v,(i:Int))=(ass ((tab i v++[v i]).length≤1073741824) <| ass (B64 ((i:Int)+1)) <| some (.next (tab i v++[v i],(i:Int)+1))))
  (he:body (tab n v,(n:Int))=some (.ret e)) (hk:K e=r):(Qv body fuel ([],0)).bind K=r:=by
 refine Q1G n (fun i=>tab i v) (e:=e) rfl (by omega) (fun i hi=>?_) he hk;rw [h i hi,Q9 (by simp;omega),Q9 (by unfold B64;omega),Q19]
theorem sumL_bnd {m:Nat}:∀ {x:List (List Int)},(∀ a∈x,a.length≤m)→sumL x≤x.length * m:=by
 intro x
 induction x with
 | nil=>intro _;simp [sumL]
 | cons a r ih =>
  intro h;have h1:=h a (by simp);have h2:=ih fun b hb=>h b (by simp [hb]);simp only [sumL,List.map_cons,List.sum_cons,List.length_cons,Nat.succ_mul] at h2 ⊢;omega
structure PRes (p:Prf) (f g:Fn):Prop where
 m:p.M
 hf:f.Is
 hg:g.Is
 e1:f.t=p.s
 e2:g.t=p.t
structure PRF (p:Prf) (f g:Fn):Prop where
 a1:(f.ob.length:Int)=f.s.n
 a2:f.ar.length=f.s.fr.length
 a3:(g.ob.length:Int)=g.s.n
 a4:g.ar.length=g.s.fr.length
 a5:f.s.n≤8
 a6:g.s.n≤8
 a7:f.s.fr.length≤40
 a8:g.s.fr.length≤40
 b1:∀ x:Nat,x<f.ob.length→0≤ix f.ob x∧ix f.ob x<p.s.n
 b2:∀ x:Nat,x<g.ob.length→0≤ix g.ob x∧ix g.ob x<p.t.n
 b3:∀ x:Nat,x<f.ar.length→0≤ix f.ar x∧ix f.ar x<(p.s.fr.length:Int)
 b4:∀ x:Nat,x<g.ar.length→0≤ix g.ar x∧ix g.ar x<(p.t.fr.length:Int)
theorem mem_tab {α:Type} {n:Nat} {v:Nat→α} {a:α} (h:a∈tab n v):∃ i,i<n∧a=v i:=by
 simp only [tab,List.mem_map,List.mem_range] at h;obtain ⟨i,hi,rfl⟩:=h;exact ⟨i,hi,rfl⟩
theorem Q6B {n m:Nat} {p:Nat→Prop} (hm:m<n) (hp:p m) (hl:∀ k,k<m→¬ p k):fstN n p=(m:Int):=by
 rcases Q20 n p with ⟨_,h⟩|⟨k,hk,pk,e⟩
 ·exact absurd hp (h m hm)
 unfold fstN;rw [List.find?_range_eq_some.2 ⟨QO hp,by simpa using hm,fun j hj=>by simp [QB (hl j hj)]⟩];rfl
theorem Q81 {n:Nat} {p:Nat→Prop} (h:∀ i,i<n→¬ p i):fstN n p = -1:=by
 rcases Q20 n p with ⟨e,_⟩|⟨k,hk,pk,e⟩
 ·exact e
 exact absurd pk (h k hk)
theorem fstI {ε β:Type} {body:Int→Option (Ctl Int ε)} {K:ε→Option β} {r:Option β} (n:Nat) (p:Nat→Prop) (eb:Int→ε) (eg:ε) (hn:n<4611686018427387904)
  (h:∀ i:Nat,i<n→body (i:Int)=if bo (p i)=true then some (.ret (eb i)) else some (.next ((i:Int)+1))) (h3:body (n:Int)=some (.ret eg)) (hk:K (if 0≤fstN n p then eb (fstN n p) else eg)=r):(Qv body fuel 0).bind K=r:=by
 rcases Q8a n (fun i=>¬ p i) (eb:=fun i=>eb i) (eg:=eg) hn (fun i hi q=>by rw [h i hi,QB q];simp) (fun i hi q=>by rw [h i hi,QO (Classical.byContradiction q)];simp) h3 with ⟨q,e⟩|⟨m,hm,hq,hlt,e⟩
 ·rw [e,Option.bind_some,← hk,Q81 q];simp
 rw [e,Option.bind_some,← hk,Q6B hm (Classical.byContradiction hq) hlt];simp
noncomputable def Q1R (L:List Int) (n i:Nat):List Bool:=(List.range n).map fun k:Nat=>bo (∃ j:Nat,j<i∧ix L j=(k:Int))
theorem Q6F {c:Cat} {x y:Int} {i:Nat} (hi:i<(homL c x y).length):Ar c (ix (homL c x y) i) x y:=mem_ix homL_mem hi
theorem zeroF_ok2:zeroF.ok∧zeroF.size≤10000:=by simp [Fn.ok,Fn.size,Cat.ok,Cat.size,zeroF,sumL]
theorem Q6h {c:Cat} (hc:c.Is) {f g h w x y z:Int} (a:Ar c f w x) (b:Ar c g x y) (d:Ar c h y z):ix (rx c.cs (ix (rx c.cs f) g)) h=ix (rx c.cs f) (ix (rx c.cs g) h):=by
 obtain ⟨i,rfl⟩:=Int.eq_ofNat_of_zero_le a.1.1;obtain ⟨j,rfl⟩:=Int.eq_ofNat_of_zero_le b.1.1;obtain ⟨k,rfl⟩:=Int.eq_ofNat_of_zero_le d.1.1;have:=hc.2.2 i (by have:=a.1;omega) j (by have:=b.1;omega) k (by have:=d.1;omega);exact this (by rw [a.2.2,b.2.1]) (by rw [b.2.2,d.2.1])
theorem Q8H {c:Cat} (hc:c.Is) {f x y:Int} (a:Ar c f x y):ix (rx c.cs (ix c.id x)) f=f∧ix (rx c.cs f) (ix c.id y)=f:=by
 obtain ⟨i,rfl⟩:=Int.eq_ofNat_of_zero_le a.1.1;have:=hc.2.1 i (by have:=a.1;omega);unfold Cat.un at this;rw [a.2.1,a.2.2] at this;exact this
theorem q_id {c:Cat} (h:c.Is) {x:Int} (hx:0≤x∧x<c.n):Ar c (ix c.id x) x x:=by
 have h1:=h.1.li;obtain ⟨i,rfl⟩:=Int.eq_ofNat_of_zero_le hx.1;have h2:=h.1.ids i (by omega);exact ⟨h.1.id' (by omega) (by omega),h2.1,h2.2⟩
theorem inv_iff {c:Cat} {a:Int}:0≤inv c a↔∃ g:Nat,g<c.fr.length∧Inv c a g:=by
 unfold inv;rcases Q20 c.fr.length (Inv c a) with ⟨e,h⟩|⟨k,hk,pk,e⟩
 ·rw [e];exact ⟨fun q=>by omega,fun ⟨g,hg,q⟩=>absurd q (h g hg)⟩
 rw [e];exact ⟨fun _=>⟨k,hk,pk⟩,fun _=>by omega⟩
def Io (c:Cat) (x y:Nat):Prop:=∃ a:Int,Ar c a x y∧0≤inv c a
theorem Io.lt {c:Cat} (hc:c.Is) {x y:Nat} (h:Io c x y):x<c.id.length∧y<c.id.length:=by
 obtain ⟨a,ha,_⟩:=h;have e:=hc.ends ha.1;have n:=hc.nums;rw [ha.2.1,ha.2.2] at e;omega
theorem Io.refl {c:Cat} (hc:c.Is) {x:Nat} (hx:x<c.id.length):Io c x x:=by
 have n:=hc.nums;have a:=q_id hc (x:=x) (by omega);refine ⟨_,a,inv_iff.2 ⟨(ix c.id x).toNat,by have:=a.1;omega,?_⟩⟩;unfold Inv;rw [Int.toNat_of_nonneg a.1.1,a.2.1,a.2.2];exact ⟨⟨rfl,rfl⟩,(Q8H hc a).1,(Q8H hc a).1⟩
theorem Io.symm {c:Cat} (hc:c.Is) {x y:Nat} (h:Io c x y):Io c y x:=by
 obtain ⟨a,ha,hi⟩:=h;obtain ⟨g,hg,⟨q1,q2⟩,q3,q4⟩:=inv_iff.1 hi;have n:=ha.1;refine ⟨(g:Int),⟨by omega,by rw [q1,ha.2.2],by rw [q2,ha.2.1]⟩,inv_iff.2 ⟨a.toNat,by omega,?_⟩⟩;unfold Inv;rw [Int.toNat_of_nonneg n.1,q1,q2];exact ⟨⟨rfl,rfl⟩,q4,q3⟩
theorem Io.trans {c:Cat} (hc:c.Is) {x y z:Nat} (h1:Io c x y) (h2:Io c y z):Io c x z:=by
 obtain ⟨a,ha,hi⟩:=h1;obtain ⟨b,hb,hj⟩:=h2;obtain ⟨f,hf,⟨p1,p2⟩,p3,p4⟩:=inv_iff.1 hi;obtain ⟨g,hg,⟨q1,q2⟩,q3,q4⟩:=inv_iff.1 hj;have af:Ar c f y x:=⟨by omega,by rw [p1,ha.2.2],by rw [p2,ha.2.1]⟩;have ag:Ar c g z y:=⟨by omega,by rw [q1,hb.2.2],by rw [q2,hb.2.1]⟩;have ab:=Ar.two hc ha hb;have gf:=Ar.two hc ag af;rw [ha.2.1] at p3;rw [ha.2.2] at p4;rw [hb.2.1] at q3;rw [hb.2.2] at q4;refine ⟨_,ab,inv_iff.2 ⟨(ix (rx c.cs g) f).toNat,by have:=gf.1;omega,?_⟩⟩;unfold Inv;rw [Int.toNat_of_nonneg gf.1.1,gf.2.1,gf.2.2,ab.2.1,ab.2.2];refine ⟨⟨rfl,rfl⟩,?_,?_⟩
 ·rw [Q6h hc ha hb gf,← Q6h hc hb ag af,q3,(Q8H hc af).1,p3]
 rw [Q6h hc ag af ab,← Q6h hc af ha hb,p4,(Q8H hc hb).1,q4]
theorem fst_min {n k:Nat} {p:Nat→Prop} (h:fstN n p=(k:Int)):∀ j,j<k→¬ p j:=by
 unfold fstN at h;cases hf:(List.range n).find? fun i=>bo (p i) with
 | none=>rw [hf] at h;simp at h
 | some m =>
  rw [hf] at h;have e:(m:Int)=k:=by simpa using h
  have:=List.find?_range_eq_some.1 hf;intro j hj q;have:=this.2.2 j (by omega);simp [QO q] at this
noncomputable def rho (c:Cat) (x:Nat):Nat:=(fstN (x+1) fun y=>Io c y x).toNat
theorem Q2C {c:Cat} (hc:c.Is) {x:Nat} (hx:x<c.id.length):rho c x≤x∧Io c (rho c x) x∧∀ k,k<rho c x→¬ Io c k x:=by
 have h0:=Io.refl hc hx;rcases Q20 (x+1) (fun y=>Io c y x) with ⟨_,h⟩|⟨k,hk,pk,e⟩
 ·exact absurd h0 (h x (by omega))
 have e2:rho c x=k:=by unfold rho;rw [e];simp
 rw [e2];exact ⟨by omega,pk,fst_min e⟩
theorem rho_eq {c:Cat} (hc:c.Is) {x y:Nat} (h:Io c x y):rho c x=rho c y:=by
 have l:=h.lt hc;have a:=Q2C hc l.1;have b:=Q2C hc l.2;rcases Nat.lt_trichotomy (rho c x) (rho c y) with q|q|q
 ·exact absurd (a.2.1.trans hc h) (b.2.2 _ q)
 ·exact q
 exact absurd (b.2.1.trans hc (h.symm hc)) (a.2.2 _ q)
theorem rho_rho {c:Cat} (hc:c.Is) {x:Nat} (hx:x<c.id.length):rho c (rho c x)=rho c x:=rho_eq hc (Q2C hc hx).2.1
structure UF (j:List Int) (r:Nat→Nat) (n:Nat):Prop where
 len:j.length=n
 b:∀ x:Nat,x<n→0≤ix j x∧ix j x≤x
 le:∀ x,x<n→r x≤x
 fix:∀ x,x<n→ix j (r x:Nat)=(r x:Int)
 st:∀ x:Nat,x<n→r (ix j x).toNat=r x
 tip:∀ x:Nat,x<n→ix j x=x→r x=x
theorem Q1L {p:List Int} {f:Int} {i:Nat} (h:i<p.length):ix (p.set i f) i=f:=by simp [ix,List.getD_eq_getElem?_getD,h]
theorem Q1M {p:List Int} {f:Int} {i j:Nat} (h:i ≠ j):ix (p.set i f) j=ix p j:=by simp [ix,List.getD_eq_getElem?_getD,List.getElem?_set,h]
theorem UF.half {j:List Int} {r:Nat→Nat} {n x:Nat} (h:UF j r n) (hx:x<n):UF (j.set x (ix j (ix j x))) r n:=by
 have b1:=h.b x hx;obtain ⟨y,hy⟩:=Int.eq_ofNat_of_zero_le b1.1;rw [hy] at b1 ⊢;have b2:=h.b y (by omega);have s1:=h.st x hx;rw [hy] at s1;have s2:=h.st y (by omega);simp only [Int.toNat_natCast] at s1;refine ⟨by simp [h.len],fun z hz=>?_,h.le,fun z hz=>?_,fun z hz=>?_,fun z hz e=>?_⟩
 ·by_cases q:x=z
  ·subst q;rw [Q1L (by rw [h.len];exact hx)];omega
  rw [Q1M q];exact h.b z hz
 ·by_cases q:x=r z
  ·rw [← q,Q1L (by rw [h.len];exact hx)];have f:=h.fix z hz;rw [← q,hy] at f;have:y=x:=(by omega);subst this;exact hy
  rw [Q1M q];exact h.fix z hz
 ·by_cases q:x=z
  ·subst q;rw [Q1L (by rw [h.len];exact hx),s2,s1]
  rw [Q1M q];exact h.st z hz
 by_cases q:x=z
 ·subst q;rw [Q1L (by rw [h.len];exact hx)] at e;exact h.tip x hx (by omega)
 rw [Q1M q] at e;exact h.tip z hz e
theorem Q7y {r:Nat→Nat} {n:Nat}:∀ (x:Nat) (j:List Int) (F:Nat),UF j r n→x<n→x<F→∃ j',Qv (σ:=List Int × Int) (ε:=List Int × Int) (fun s64 =>
        ass (0≤s64.2∧s64.2<(s64.1.length:Int)) <|
        if ¬ ((ix s64.1 s64.2)=s64.2) then
         ass (0≤s64.2∧s64.2<(s64.1.length:Int)) <|
         ass (0≤ix s64.1 s64.2∧ix s64.1 s64.2<(s64.1.length:Int)) <|
         ass (0≤s64.2∧s64.2<(s64.1.length:Int)) <|
         ass (0≤s64.2∧s64.2<((s64.1.set s64.2.toNat (ix s64.1 (ix s64.1 s64.2))).length:Int)) <|
         some (Ctl.next (s64.1.set s64.2.toNat (ix s64.1 (ix s64.1 s64.2)),ix (s64.1.set s64.2.toNat (ix s64.1 (ix s64.1 s64.2))) s64.2))
        else
         some (Ctl.ret (s64.1,s64.2))) F (j,(x:Int))=some (j',(r x:Int))∧UF j' r n:=by
 intro x
 induction x using Nat.strongRecOn with
 | _ x ih =>
  intro j F h hx hF;obtain ⟨F,rfl⟩:∃ F',F=F' + 1:=⟨F - 1,by omega⟩;have b1:=h.b x hx;have hl:=h.len;simp only [Qv];rw [Q9 (by omega)]
  by_cases q:ix j x=x
  ·rw [if_neg (by simp [q])];exact ⟨j,by rw [h.tip x hx q],h⟩
  rw [if_pos q,Q9 (by omega),Q9 (by omega),Q9 (by omega),Q9 (by simp;omega)];obtain ⟨y,hy⟩:=Int.eq_ofNat_of_zero_le b1.1;have b2:=h.b y (by omega);obtain ⟨z,hz⟩:=Int.eq_ofNat_of_zero_le b2.1;have s1:=h.st x hx;rw [hy] at s1;simp only [Int.toNat_natCast] at s1;have s2:=h.st y (by omega);rw [hz] at s2;simp only [Int.toNat_natCast] at s2;have hh:=h.half hx;simp only [Int.toNat_natCast];rw [Q1L (by omega),hy,hz];rw [hy,hz] at hh;rw [show r x=r z by rw [s2,s1]];exact ih z (by omega) _ F hh (by omega) (by omega)
theorem UF.join {j:List Int} {r:Nat→Nat} {n a b:Nat} (h:UF j r n) (ha:a<n) (hb:b<n) (ra:r a=a) (rb:r b=b) (hab:a≤b):UF (j.set b a) (fun z=>if r z=b then a else r z) n:=by
 have fa:=h.fix a ha;have fb:=h.fix b hb;rw [ra] at fa;rw [rb] at fb;refine ⟨by simp [h.len],fun z hz=>?_,fun z hz=>?_,fun z hz=>?_,fun z hz=>?_,fun z hz e=>?_⟩
 ·by_cases q:b=z
  ·subst q;rw [Q1L (by rw [h.len];exact hb)];omega
  rw [Q1M q];exact h.b z hz
 ·have:=h.le z hz;split<;>omega
 ·split
  ·by_cases q:b=a
   ·subst q;rw [Q1L (by rw [h.len];exact hb)]
   rw [Q1M q];exact fa
  rename_i q;rw [Q1M (fun e=>q e.symm)];exact h.fix z hz
 ·by_cases q:b=z
  ·subst q;rw [Q1L (by rw [h.len];exact hb),Int.toNat_natCast,ra,rb,if_pos rfl];split<;>rfl
  rw [Q1M q,h.st z hz]
 by_cases q:b=z
 ·subst q;rw [Q1L (by rw [h.len];exact hb)] at e;rw [rb,if_pos rfl];omega
 rw [Q1M q] at e;rw [h.tip z hz e,if_neg (fun x=>q x.symm)]
attribute [local simp] eL eI Qn
noncomputable def QK (p0_:List Int) (p1_:Int):Option Int :=
 (Qv (σ:=Int) (ε:=Unit ⊕ Int) (fun s6 =>
  if s6<(p0_.length:Int) then
   ass (0≤s6∧s6<(p0_.length:Int)) <|
   if p1_=(ix p0_ s6) then
    some (Ctl.ret (Sum.inr s6))
   else
    ass (B64 (s6+1)) <|
    some (Ctl.next (s6+1))
  else
   some (Ctl.ret (Sum.inl ()))) fuel 0).bind fun e1 =>
 match e1 with
 | .inl b1 =>
  some (-1)
 | .inr p1 =>
  some p1
theorem Q2L (p0_:List Int) (p1_:Int) (r:Int) (h:QK p0_ p1_=some r):Contract Try.prog 204 [lI p0_,iV p1_] (iV r):=by
 refine Qe (rvs:=[.tmp 4]) (rs:=[iV r]) Try.func204 rfl rfl rfl rfl (by simp [Try.f204]) fun F hN hP=>?_;unfold QK at h;refine Q4 ?_;refine runQ hN fun K hK=>?_;simp [-Q0,-Q6,-Q1,-Q7,-Q2];repeat refine sdQ ?_
 refine hK _ ?_;clear hK K;refine tn ?_;refine Q8 (st':=⟨[(0,lI p0_),(1,iV p1_)],[],0⟩) (wkQ8 []) ?_;refine Q4 ?_;refine Q4 ?_;refine runQ hN fun K hK=>?_;simp [-Q0,-Q6,-Q1,-Q7,-Q2];repeat refine sdQ ?_
 refine hK _ ?_;clear hK K;refine tn ?_;refine Q8 (st':=⟨[(0,lI p0_),(1,iV p1_),(7,iV (p0_.length:Int)),(8,iV 0)],[],0⟩) (wkQ8 []) ?_;replace h:=bind_some h;obtain ⟨e1,h,h1⟩:=h;refine Qh (fun b1:Unit=>⟨[],[],0⟩) (fun b1=>Sum.inl b1=e1) ?_ ?_
 ·refine Qa ?_;refine Qs h (fun s6:Int=>⟨[(0,lI p0_),(1,iV p1_),(7,iV (p0_.length:Int)),(8,iV s6)],[],0⟩) (wkQ8 []) ?_;clear h;intro k6 s6 c6 h hk6;refine Q4 ?_;refine runQ hN fun K hK=>?_;simp [-Q0,-Q6,-Q1,-Q7,-Q2];repeat refine sdQ ?_
  refine hK _ ?_;clear hK K;refine tn ?_;refine Q8 (st':=⟨[(0,lI p0_),(1,iV p1_),(7,iV (p0_.length:Int)),(8,iV s6),(9,.val (.bool (decide (s6<(p0_.length:Int)))))],[],0⟩) (wkQ8 []) ?_;refine Q4 ?_;refine Qc rfl (fun g=>?_) fun g=>?_
  ·have g7:s6<(p0_.length:Int):=gQ;clear g;replace h:=if_l g7 h;refine Qd ?_;refine tn ?_;refine Q4 ?_;refine Qa ?_;refine Q4 ?_;refine runQ hN fun K hK=>?_;simp [-Q0,-Q6,-Q1,-Q7,-Q2];(repeat refine sdQ ?_);refine hK _ ?_;clear hK K;refine tn ?_;refine Q8 (st':=⟨[(0,lI p0_),(1,iV p1_),(5,iV s6),(7,iV (p0_.length:Int)),(8,iV s6)],[],0⟩) (wkQ8 []) ?_;refine Q4 ?_;refine runQ hN fun K hK=>?_;replace h:=Q5 h;obtain ⟨a8,h⟩:=h;simp [-Q0,-Q6,-Q1,-Q7,-Q2,at_I a8];(repeat refine sdQ ?_);refine hK _ ?_;clear hK K;refine tn ?_;refine Q8 (st':=⟨[(0,lI p0_),(1,iV p1_),(5,iV s6),(7,iV (p0_.length:Int)),(8,iV s6),(16,.val (.bool (p1_ == (ix p0_ s6))))],[],0⟩) (wkQ8 []) ?_;refine Qc rfl (fun g=>?_) fun g=>?_
   ·have g9:p1_=(ix p0_ s6):=gQ;clear g;replace h:=if_l g9 h;refine Q4 ?_;refine runQ hN fun K hK=>?_;simp [-Q0,-Q6,-Q1,-Q7,-Q2];(repeat refine sdQ ?_);refine hK _ ?_;clear hK K;refine tn ?_;refine Q8 (st':=⟨[(4,iV s6)],[],0⟩) (wkQ8 []) ?_;refine Qi ?_;refine br ?_;refine tr ?_;refine lr ?_;refine br ?_;refine tr ?_;cases h;have q:_=e1:=hk6;have h:=h1;rw [← q] at h;clear q;(try dsimp only at h);have hr:=Option.some.inj h;rw [← hr];refine ⟨_,(.tmp .nil),?_⟩;refine ⟨(.one rfl rfl .nil),[iV s6],[],by simp [UA,U1,IA,I1,LA,L1,BA,B1,EA,E1,E2,eB,eI,eL],by simp,(UpL.refl _)⟩
   have g9:¬ (p1_=(ix p0_ s6)):=gQ;clear g;replace h:=if_r g9 h;refine Qd ?_;refine bn ?_;refine tn ?_;refine runQ hN fun K hK=>?_;replace h:=Q5 h;obtain ⟨a10,h⟩:=h;simp [-Q0,-Q6,-Q1,-Q7,-Q2,Qp a10];(repeat refine sdQ ?_);refine hK _ ?_;clear hK K;cases h;exact rn (s':=s6+1) hk6 (wkQ8 [])
  have g7:¬ (s6<(p0_.length:Int)):=gQ;clear g;replace h:=if_r g7 h;refine Qj ?_;refine tx ?_;refine lx ?_;refine bh ?_;cases h;exact jn (b:=()) hk6 (wkQ8 [])
 intro b1 hb1;have h:=h1;try rw [← hb1] at h
 clear h1;try dsimp only at h
 refine Q4 ?_;refine runQ hN fun K hK=>?_;simp [-Q0,-Q6,-Q1,-Q7,-Q2];repeat refine sdQ ?_
 refine hK _ ?_;clear hK K;refine tn ?_;refine Q8 (st':=⟨[(4,iV (-1))],[],0⟩) (wkQ8 []) ?_;refine Qi ?_;have hr:=Option.some.inj h;rw [← hr];refine ⟨_,(.tmp .nil),?_⟩;refine ⟨(.one rfl rfl .nil),[iV (-1)],[],by simp [UA,U1,IA,I1,LA,L1,BA,B1,EA,E1,E2,eB,eI,eL],by simp,(UpL.refl _)⟩
end Go.Vc.T
