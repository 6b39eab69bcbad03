/- A part of the proof: a verified generator of conditions, and what each function of the program does. -/
import Derived.Test.YtkafionfghoggaaS8
set_option maxRecDepth 100000
set_option maxHeartbeats 4000000
set_option linter.unusedSimpArgs false
set_option linter.unusedVariables false

namespace Go.Vc.T
open Go Go.Vc Go.Proofs
def Es {α:Type} (c:α→List AV) (xs:List α):List (List AV):=xs.map c
def eB (b:Bool):List AV:=[.val (.bool b)]
def eI (b:Int):List AV:=[.val (.int .i64 b)]
def eL (x:List (List Int)):List AV:=[.lst true 1 (Ls x)]
section
variable {α:Type} {c:α→List AV}
@[simp] theorem Es_nil:Es c []=[]:=rfl
theorem Es_append (xs ys:List α):Es c (xs++ys)=Es c xs++Es c ys:=by simp [Es]
theorem Es_set' (xs:List α) (i:Nat) (x:α):Es c (xs.set i x)=(Es c xs).set i (c x):=by simp [Es,List.map_set]
end
@[simp] theorem Ls_nil':Ls []=[]:=rfl
theorem Ls_append (xs ys:List (List Int)):Ls (xs++ys)=Ls xs++Ls ys:=by simp [Ls]
theorem at_I {xs:List Int} {j:Int} (h:0≤j∧j<(xs.length:Int)):(Is xs)[j.toNat]? = some [.val (.int .i64 (ix xs j))]:=by
 have h2:j.toNat<xs.length:=by omega
 simp [Is,ix,List.getD_eq_getElem?_getD,h2]
theorem at_L {xs:List (List Int)} {j:Int} (h:0≤j∧j<(xs.length:Int)):(Ls xs)[j.toNat]? = some [.lst true 1 (Is (rx xs j))]:=by
 have h2:j.toNat<xs.length:=by omega
 simp [Ls,rx,List.getD_eq_getElem?_getD,h2]
@[simp] theorem Is_takeA (xs:List Int):List.take xs.length (Is xs)=Is xs:=List.take_of_length_le (by simp)
@[simp] theorem Ls_takeA (xs:List (List Int)):List.take xs.length (Ls xs)=Ls xs:=List.take_of_length_le (by simp)
theorem Q5p (xs:List Int):(∀ e∈Is xs,∀ c∈e,isVal c=true)↔True:=by
 refine ⟨fun _=>trivial,fun _ e he c hc=>?_⟩
 simp only [Is,List.mem_map] at he
 obtain ⟨x,_,rfl⟩:=he
 simp only [List.mem_singleton] at hc
 subst hc
 rfl
@[simp] theorem u8_min:IntKind.u8.min=0:=rfl
@[simp] theorem u8_max:IntKind.u8.max=255:=rfl
@[simp] theorem Bs_nil':Bs []=[]:=rfl
theorem Bs_append (xs ys:List Bool):Bs (xs++ys)=Bs xs++Bs ys:=by simp [Bs]
theorem IA (xs ys:List Int):Is (xs++ys)=Is xs++Is ys:=Is_append xs ys
theorem I1 (x:Int) (xs:List Int):Is (x :: xs)=[.val (.int .i64 x)] :: Is xs:=rfl
theorem LA (xs ys:List (List Int)):Ls (xs++ys)=Ls xs++Ls ys:=Ls_append xs ys
theorem L1 (x:List Int) (xs:List (List Int)):Ls (x :: xs)=[.lst true 1 (Is x)] :: Ls xs:=rfl
theorem BA (xs ys:List Bool):Bs (xs++ys)=Bs xs++Bs ys:=Bs_append xs ys
theorem B1 (x:Bool) (xs:List Bool):Bs (x :: xs)=[.val (.bool x)] :: Bs xs:=rfl
theorem EA {α:Type} {c:α→List AV} (xs ys:List α):Es c (xs++ys)=Es c xs++Es c ys:=Es_append xs ys
theorem E1 {α:Type} {c:α→List AV} (x:α) (xs:List α):Es c (x :: xs)=c x :: Es c xs:=rfl
theorem E2 {α:Type} {c:α→List AV} (xs:List α) (i:Nat) (x:α):Es c (xs.set i x)=(Es c xs).set i (c x):=Es_set' xs i x
end Go.Vc.T
namespace Go.Vc.T
open Go Go.Vc Go.Proofs
def Qr (x:Cat):List AV:=[.rptr (x.cells true)]
def Qj (x:SF):List AV:=[.rptr (x.cells true)]
def Qt (x:SM):List AV:=[.rptr (x.cells true)]
instance:Inhabited Cat:=⟨⟨0,[],[],[],[]⟩⟩
instance:Inhabited SF:=⟨⟨default,[],[]⟩⟩
instance:Inhabited SM:=⟨⟨default,default,[]⟩⟩
structure Adj where
 l:Fn
 r:Fn
 u:List Int
 k:List Int
def Adj.cells (u:Bool) (f:Adj):List AV:=[.val (.int .i64 f.l.s.n),.lst u 1 (Is f.l.s.fr),.lst u 1 (Is f.l.s.to),.lst u 1 (Is f.l.s.id),.lst u 1 (Ls f.l.s.cs),.val (.int .i64 f.l.t.n),.lst u 1 (Is f.l.t.fr),.lst u 1 (Is f.l.t.to),.lst u 1 (Is f.l.t.id),.lst u 1 (Ls f.l.t.cs),.lst u 1 (Is f.l.ob),.lst u 1 (Is f.l.ar),.val (.int .i64 f.r.s.n),.lst u 1 (Is f.r.s.fr),.lst u 1 (Is f.r.s.to),.lst u 1 (Is f.r.s.id),.lst u 1 (Ls f.r.s.cs),.val (.int .i64 f.r.t.n),.lst u 1 (Is f.r.t.fr),.lst u 1 (Is f.r.t.to),.lst u 1 (Is f.r.t.id),.lst u 1 (Ls f.r.t.cs),.lst u 1 (Is f.r.ob),.lst u 1 (Is f.r.ar),.lst u 1 (Is f.u),.lst u 1 (Is f.k)]
structure Ends where
 a:Int
 b:Int
def Ends.cells (u:Bool) (f:Ends):List AV:=[.val (.int .i64 f.a),.val (.int .i64 f.b)]
structure Mnd where
 f:Fn
 u:List Int
 j:List Int
def Mnd.cells (u:Bool) (f:Mnd):List AV:=[.val (.int .i64 f.f.s.n),.lst u 1 (Is f.f.s.fr),.lst u 1 (Is f.f.s.to),.lst u 1 (Is f.f.s.id),.lst u 1 (Ls f.f.s.cs),.val (.int .i64 f.f.t.n),.lst u 1 (Is f.f.t.fr),.lst u 1 (Is f.f.t.to),.lst u 1 (Is f.f.t.id),.lst u 1 (Ls f.f.t.cs),.lst u 1 (Is f.f.ob),.lst u 1 (Is f.f.ar),.lst u 1 (Is f.u),.lst u 1 (Is f.j)]
structure Prf where
 s:Cat
 t:Cat
 sz:List (List Int)
 bf:List (List (List Int))
 bh:List (List (List Int))
def Prf.cells (u:Bool) (f:Prf):List AV:=[.val (.int .i64 f.s.n),.lst u 1 (Is f.s.fr),.lst u 1 (Is f.s.to),.lst u 1 (Is f.s.id),.lst u 1 (Ls f.s.cs),.val (.int .i64 f.t.n),.lst u 1 (Is f.t.fr),.lst u 1 (Is f.t.to),.lst u 1 (Is f.t.id),.lst u 1 (Ls f.t.cs),.lst u 1 (Ls f.sz),.lst u 1 (Es eL f.bf),.lst u 1 (Es eL f.bh)]
structure Tra where
 s:Fn
 t:Fn
 p:List Int
def Tra.cells (u:Bool) (f:Tra):List AV:=[.val (.int .i64 f.s.s.n),.lst u 1 (Is f.s.s.fr),.lst u 1 (Is f.s.s.to),.lst u 1 (Is f.s.s.id),.lst u 1 (Ls f.s.s.cs),.val (.int .i64 f.s.t.n),.lst u 1 (Is f.s.t.fr),.lst u 1 (Is f.s.t.to),.lst u 1 (Is f.s.t.id),.lst u 1 (Ls f.s.t.cs),.lst u 1 (Is f.s.ob),.lst u 1 (Is f.s.ar),.val (.int .i64 f.t.s.n),.lst u 1 (Is f.t.s.fr),.lst u 1 (Is f.t.s.to),.lst u 1 (Is f.t.s.id),.lst u 1 (Ls f.t.s.cs),.val (.int .i64 f.t.t.n),.lst u 1 (Is f.t.t.fr),.lst u 1 (Is f.t.t.to),.lst u 1 (Is f.t.t.id),.lst u 1 (Ls f.t.t.cs),.lst u 1 (Is f.t.ob),.lst u 1 (Is f.t.ar),.lst u 1 (Is f.p)]
structure XAlgebra where
 x_:Int
 h_:Int
def XAlgebra.cells (u:Bool) (f:XAlgebra):List AV:=[.val (.int .i64 f.x_),.val (.int .i64 f.h_)]
end Go.Vc.T
namespace Go.Vc.T
open Go Go.Vc Go.Proofs
@[simp] theorem tf_94:tyi Try.prog 94=some ⟨true,7,152,[.int .i64 0,.slice none 0 0,.slice none 0 0,.slice none 0 0,.slice none 0 0,.slice none 0 0,.slice none 0 0]⟩:=by kernel_rfl
@[simp] theorem Q4C:tyi Try.prog 96=some ⟨true,15,328,[.int .i64 0,.slice none 0 0,.slice none 0 0,.slice none 0 0,.slice none 0 0,.slice none 0 0,.slice none 0 0,.int .i64 0,.slice none 0 0,.slice none 0 0,.slice none 0 0,.slice none 0 0,.slice none 0 0,.slice none 0 0,.slice none 0 0]⟩:=by kernel_rfl
end Go.Vc.T
namespace Go.Vc.T
open Go Go.Vc Go.Proofs
noncomputable def Q2k (xs:List Int) (n:Int):Option (Bool) :=
 ass (B64 (n - 1)) <| some ((xs.all (inR n)))
theorem Q6Z (xs:List Int) (n:Int) (r:Bool) (h:Q2k xs n=some r):Contract Try.prog 190 [.lst true 1 (Is xs),.val (.int .i64 n)] (.val (.bool r)):=by
 unfold Q2k at h
 replace h:=Qc h
 obtain ⟨hn,h⟩:=h
 cases h
 exact c22 true xs n hn
noncomputable def Q1n (xs:List Int):Option (List Int) :=
 ass (xs.length≤1048576) <| some (xs)
theorem Q4j (xs:List Int) (r:List Int) (h:Q1n xs=some r):Contract Try.prog 133 [.lst true 1 (Is xs)] (.lst true 1 (Is r)):=by
 unfold Q1n at h
 replace h:=Qc h
 obtain ⟨hx,h⟩:=h
 cases h
 exact c58 true xs hx
noncomputable def Q1O (xs:List Int):Option (List Int) :=
 ass (xs.length≤1048576) <| some (xs)
theorem Q5l (xs:List Int) (r:List Int) (h:Q1O xs=some r):Contract Try.prog 111 [.lst true 1 (Is xs)] (.lst true 1 (Is r)):=by
 unfold Q1O at h
 replace h:=Qc h
 obtain ⟨hx,h⟩:=h
 cases h
 exact c47 true xs hx
noncomputable def Q1Z (xs:List (List Int)):Option (List (List Int)) :=
 ass (xs.length≤1048576) <| ass (∀ x∈xs,x.length≤1048576) <| some (xs)
theorem Q5Y (xs:List (List Int)) (r:List (List Int)) (h:Q1Z xs=some r):Contract Try.prog 212 [.lst true 1 (Ls xs)] (.lst true 1 (Ls r)):=by
 unfold Q1Z at h
 replace h:=Qc h
 obtain ⟨hx,h⟩:=h
 replace h:=Qc h
 obtain ⟨hx',h⟩:=h
 cases h
 exact c59 true xs hx hx'
noncomputable def Q2i (xs:List (List Int)):Option (List (List Int)) :=
 ass (xs.length≤1048576) <| ass (∀ x∈xs,x.length≤1048576) <| some (xs)
theorem Q6X (xs:List (List Int)) (r:List (List Int)) (h:Q2i xs=some r):Contract Try.prog 216 [.lst true 1 (Ls xs)] (.lst true 1 (Ls r)):=by
 unfold Q2i at h
 replace h:=Qc h
 obtain ⟨hx,h⟩:=h
 replace h:=Qc h
 obtain ⟨hx',h⟩:=h
 cases h
 exact c48 true xs hx hx'
noncomputable def Q2l (c:Cat):Option (Cat) :=
 ass (c.ok) <| some (c)
theorem Q70 (c:Cat) (r:Cat) (h:Q2l c=some r):Contract Try.prog 210 [.agg (c.cells true)] (.agg (r.cells true)):=by
 unfold Q2l at h
 replace h:=Qc h
 obtain ⟨hc,h⟩:=h
 cases h
 exact c41 true c hc
noncomputable def QQ (c:Cat):Option (Cat) :=
 ass (c.ok) <| some (c)
theorem Q33 (c:Cat) (r:Cat) (h:QQ c=some r):Contract Try.prog 205 [.rptr (c.cells true)] (.agg (r.cells true)):=by
 unfold QQ at h
 replace h:=Qc h
 obtain ⟨hc,h⟩:=h
 cases h
 have q:=c23 true c [] hc
 simp only [List.append_nil] at q
 exact q
noncomputable def Q18 (c:SF) (d:SF):Option (Bool) :=
 some ((bo (c=d)))
theorem Q2F (c:SF) (d:SF) (r:Bool) (h:Q18 c d=some r):Contract Try.prog 209 [.agg (c.cells true),.agg (d.cells true)] (.val (.bool r)):=by
 unfold Q18 at h
 cases h
 exact n20 true true c d
noncomputable def Q1g (m:SM):Option (Bool) :=
 some ((bo m.Is))
theorem Q3h (m:SM) (r:Bool) (h:Q1g m=some r):Contract Try.prog 155 [.agg (m.cells true)] (.val (.bool r)):=by
 unfold Q1g at h
 cases h
 exact n19 true m
noncomputable def Q1P (f:SF):Option (SF) :=
 ass (f.ok) <| some (f)
theorem Q4k (f:SF) (r:SF) (h:Q1P f=some r):Contract Try.prog 211 [.agg (f.cells true)] (.agg (r.cells true)):=by
 unfold Q1P at h
 replace h:=Qc h
 obtain ⟨hf,h⟩:=h
 cases h
 exact n56 true f hf
noncomputable def QD (f:SF):Option (SF) :=
 ass (f.ok) <| some (f)
theorem Q1w (f:SF) (r:SF) (h:QD f=some r):Contract Try.prog 215 [.rptr (f.cells true)] (.agg (r.cells true)):=by
 unfold QD at h
 replace h:=Qc h
 obtain ⟨hf,h⟩:=h
 cases h
 have q:=n63 true f [] hf
 simp only [List.append_nil] at q
 exact q
noncomputable def Q1F (f:SF) (g:SF):Option (Bool) :=
 ass (f.s.cs.length≤1048576) <| ass (f.ac.length≤1048576) <| some ((bo (f=g)))
theorem Q5m (f:SF) (g:SF) (r:Bool) (h:Q1F f g=some r):Contract Try.prog 137 [.rptr (f.cells true),.rptr (g.cells true)] (.val (.bool r)):=by
 unfold Q1F at h
 replace h:=Qc h
 obtain ⟨hl,h⟩:=h
 replace h:=Qc h
 obtain ⟨hl2,h⟩:=h
 cases h
 have q:=n26 true true f g [] [] hl hl2
 simp only [List.append_nil] at q
 exact q
noncomputable def Q1c (fs:List SM):Option (Bool) :=
 ass (fs.length≤1048576) <| some ((bo (∀ f∈fs,f.Is)))
theorem Q41 (fs:List SM) (r:Bool) (h:Q1c fs=some r):Contract Try.prog 136 [.lst true 1 (Es Qt fs)] (.val (.bool r)):=by
 unfold Q1c at h
 replace h:=Qc h
 obtain ⟨hl,h⟩:=h
 cases h
 exact n25 true true fs hl
end Go.Vc.T
namespace Go.Vc.T
open Go Go.Vc Go.Proofs
theorem Q37 {p:Prop} (h:p):bo p=true:=by simp [bo,h]
theorem Q4E {p:Prop} (h:¬ p):bo p=false:=by simp [bo,h]
theorem loop_go {σ ε:Type} {body:σ→Option (Ctl σ ε)} (g:Nat→σ) (m:Nat):∀ (k:Nat),m≤k→(∀ i,i<m→body (g i)=some (.next (g (i+1))))→QX body k (g 0)=QX body (k - m) (g m):=by
 induction m with
 | zero=>intro k _ _;rfl
 | succ m ih =>
  intro k hk h
  rw [ih k (by omega) fun i hi=>h i (by omega)]
  obtain ⟨j,hj⟩:∃ j,k - m=j+1:=⟨k - m - 1,by omega⟩
  rw [hj,show k - (m+1)=j by omega]
  simp only [QX,h m (by omega)]
theorem Q3o {σ ε:Type} {body:σ→Option (Ctl σ ε)} (g:Nat→σ) (n:Nat) {e:ε} {s0:σ} (h0:s0=g 0) (hn:n<4611686018427387904) (h:∀ i,i<n→body (g i)=some (.next (g (i+1)))) (he:body (g n)=some (.ret e)):QX body fuel s0=some e:=by
 subst h0
 rw [loop_go g n fuel (by unfold fuel;omega) h]
 obtain ⟨j,hj⟩:∃ j,fuel - n=j+1:=⟨fuel - n - 1,by unfold fuel;omega⟩
 rw [hj]
 simp only [QX,he]
theorem loop_fst {ε:Type} {body:Int→Option (Ctl Int ε)} (n:Nat) (p:Nat→Prop) {eb:Nat→ε} {eg:ε} (hn:n<4611686018427387904) (h1:∀ i:Nat,i<n→p i→body (i:Int)=some (.next ((i:Int)+1))) (h2:∀ i:Nat,i<n→¬ p i→body (i:Int)=some (.ret (eb i))) (h3:body (n:Int)=some (.ret eg)) :
  ((∀ i:Nat,i<n→p i)∧QX body fuel 0=some eg)∨∃ m,m<n∧¬ p m∧(∀ k,k<m→p k)∧QX body fuel 0=some (eb m):=by
 by_cases hall:∀ i:Nat,i<n→p i
 ·exact .inl ⟨hall,Q3o (fun i:Nat=>(i:Int)) n rfl hn (fun i hi=>h1 i hi (hall i hi)) h3⟩
 right
 have hex:∃ i,i<n∧¬ p i:=Classical.byContradiction fun hx=>hall fun i hi=>Classical.byContradiction fun hp=>hx ⟨i,hi,hp⟩
 obtain ⟨m,⟨hm,hp⟩,hmin⟩:∃ m,(m<n∧¬ p m)∧∀ k,k<m→¬ (k<n∧¬ p k):=by
  obtain ⟨i,hi⟩:=hex
  induction i using Nat.strongRecOn with
  | _ i ih =>
   by_cases h:∃ k,k<i∧k<n∧¬ p k
   ·obtain ⟨k,h1,h2⟩:=h;exact ih k h1 h2
   exact ⟨i,hi,fun k hk hh=>h ⟨k,hk,hh⟩⟩
 have hlt:∀ k,k<m→p k:=fun k hk=>Classical.byContradiction fun hh=>hmin k hk ⟨by omega,hh⟩
 exact ⟨m,hm,hp,hlt,Q3o (fun i:Nat=>(i:Int)) m rfl (by omega) (fun i hi=>h1 i (by omega) (hlt i hi)) (h2 m hm hp)⟩
theorem loop_acc {α ε:Type} {body:α × Int→Option (Ctl (α × Int) ε)} (g:Nat→α) (n:Nat) {e:ε} {a0:α} (h0:a0=g 0) (hn:n<4611686018427387904) (h:∀ i:Nat,i<n→body (g i,(i:Int))=some (.next (g (i+1),(i:Int)+1))) (he:body (g n,(n:Int))=some (.ret e)):QX body fuel (a0,0)=some e:=by
 subst h0
 exact Q3o (fun i:Nat=>(g i,(i:Int))) n rfl hn h he
theorem Q1x {α ε β:Type} {body:α × Int→Option (Ctl (α × Int) ε)} {K:ε→Option β} {r:Option β} {a0:α} (n:Nat) (g:Nat→α) {e:ε} (h0:a0=g 0) (hn:n<4611686018427387904) (h:∀ i:Nat,i<n→body (g i,(i:Int))=some (.next (g (i+1),(i:Int)+1))) (he:body (g n,(n:Int))=some (.ret e)) (hk:K e=r):(QX body fuel (a0,0)).bind K=r:=by
 rw [loop_acc g n h0 hn h he];exact hk
end Go.Vc.T
namespace Go.Vc.T
open Go Go.Vc Go.Proofs
structure Fn.Is (f:Fn):Prop where
 s:f.s.Is
 t:f.t.Is
 lo:(f.ob.length:Int)=f.s.n
 la:f.ar.length=f.s.fr.length
 ob:∀ j:Nat,j<f.ob.length→0≤ix f.ob j∧ix f.ob j<f.t.n
 ar:∀ j:Nat,j<f.ar.length→0≤ix f.ar j∧ix f.ar j<f.t.fr.length
 ends:∀ a:Nat,a<f.s.fr.length→ix f.t.fr (ix f.ar a)=ix f.ob (ix f.s.fr a)∧ix f.t.to (ix f.ar a)=ix f.ob (ix f.s.to a)
 ids:∀ x:Nat,x<f.s.id.length→ix f.ar (ix f.s.id x)=ix f.t.id (ix f.ob x)
 comp:∀ a:Nat,a<f.s.fr.length→∀ b:Nat,b<f.s.fr.length→ix f.s.to a=ix f.s.fr b→ix f.ar (ix (rx f.s.cs a) b)=ix (rx f.t.cs (ix f.ar a)) (ix f.ar b)
end Go.Vc.T
namespace Go.Vc.T
open Go Go.Vc Go.Proofs
noncomputable def Q16 (n_:Int):Option (List Int) :=
 ass (0≤n_∧n_≤1073741824) <|
 (QX (σ:=List Int × Int) (ε:=List Int) (fun s6 =>
  if s6.2<((List.replicate n_.toNat 0).length:Int) then
   ass (0≤s6.2∧s6.2<(s6.1.length:Int)) <|
   ass (B64 (s6.2+1)) <|
   some (Ctl.next (s6.1.set s6.2.toNat s6.2,s6.2+1))
  else
   some (Ctl.ret s6.1)) fuel (List.replicate n_.toNat 0,0)).bind fun b2 =>
 some b2
theorem wkQ9 {F : Fx} {st st' : St} (m : List (Nat × Nat)) (h : (m.map Prod.fst).Nodup ∧ (m.map Prod.snd).Nodup ∧ (∀ id, id < F.pins → look id m = some id) ∧ (∀ p ∈ m, p.2 < st'.n) ∧ (∀ p ∈ st'.h, p.1 < st'.n) ∧ (∀ p ∈ st'.s, p.2 = rl m (st.get p.1) ∨ p.2 = .bot) ∧ ∀ p ∈ st'.h, hhOk m st.h p.1 p.2 := by simp [hP, hhOk, back, UA, U1, IA, I1, LA, L1, BA, B1, EA, E1, E2, eB, eI, eL, SF.cells, SM.cells, Cat.cells]) : Wk F st st' := Wk.r1 m h
theorem Q3R (n_:Int) (r:List Int) (h:Q16 n_=some r):Contract Try.prog 213 [.val (.int .i64 n_)] (.lst true 1 (Is r)):=by
 refine Qs (rvs:=[.tmp 2]) (rs:=[.lst true 1 (Is r)]) Try.func213 rfl rfl rfl rfl (by simp [Try.f213]) fun F hN hP=>?_
 unfold Q16 at h
 refine Q2 ?_
 refine runQ hN fun K hK=>?_
 simp [-Q1,-Qh,-Q9,-Qi,-Qa,eL,eI,Q4]
 repeat with_reducible refine sdQ ?_
 refine hK _ ?_;clear hK K
 refine tn ?_
 refine Qf (st':=⟨[(0,.val (.int .i64 n_))],[],0⟩) (wkQ9 []) ?_
 refine Q2 ?_
 refine runQ hN fun K hK=>?_
 replace h:=Qc h
 obtain ⟨a1,h⟩:=h
 simp [-Q1,-Qh,-Q9,-Qi,-Qa,eL,eI,Q4]
 repeat with_reducible refine sdQ ?_
 refine hK _ ?_;clear hK K
 refine tn ?_
 refine Qf (st':=⟨[(3,.own 0 0 ((List.replicate n_.toNat 0).length))],[(0,.row 1 (Is (List.replicate n_.toNat 0)))],1⟩) (wkQ9 [(0,0)]) ?_
 refine Q2 ?_
 refine Q2 ?_
 refine runQ hN fun K hK=>?_
 simp [-Q1,-Qh,-Q9,-Qi,-Qa,eL,eI,Q4]
 repeat with_reducible refine sdQ ?_
 refine hK _ ?_;clear hK K
 refine tn ?_
 refine Qf (st':=⟨[(3,.own 0 0 ((List.replicate n_.toNat 0).length)),(8,.val (.int .i64 ((List.replicate n_.toNat 0).length:Int))),(9,.val (.int .i64 0))],[(0,.row 1 (Is (List.replicate n_.toNat 0)))],1⟩) (wkQ9 [(0,0)]) ?_
 replace h:=bind_some h
 obtain ⟨e2,h,h2⟩:=h
 refine Q13 (fun b2:List Int=>⟨[(3,.own 0 0 b2.length)],[(0,.row 1 (Is b2))],1⟩) (fun b2=>b2=e2) ?_ ?_
 ·refine Q7 ?_
  refine Q1k h (fun s6:List Int × Int=>⟨[(3,.own 0 0 s6.1.length),(8,.val (.int .i64 ((List.replicate n_.toNat 0).length:Int))),(9,.val (.int .i64 s6.2))],[(0,.row 1 (Is s6.1))],1⟩) (wkQ9 [(0,0)]) ?_
  clear h
  intro k6 s6 c6 h hk6
  refine Q2 ?_
  refine runQ hN fun K hK=>?_
  simp [-Q1,-Qh,-Q9,-Qi,-Qa,eL,eI,Q4]
  repeat with_reducible refine sdQ ?_
  refine hK _ ?_;clear hK K
  refine tn ?_
  refine Qf (st':=⟨[(3,.own 0 0 s6.1.length),(8,.val (.int .i64 ((List.replicate n_.toNat 0).length:Int))),(9,.val (.int .i64 s6.2)),(10,.val (.bool (decide (s6.2<((List.replicate n_.toNat 0).length:Int)))))],[(0,.row 1 (Is s6.1))],1⟩) (wkQ9 [(0,0)]) ?_
  refine Q2 ?_
  refine Q5 rfl (fun g=>?_) fun g=>?_
  ·have g7:s6.2<((List.replicate n_.toNat 0).length:Int):=gQ
   clear g
   replace h:=if_l g7 h
   refine Q6 ?_
   refine tn ?_
   refine Q2 ?_
   refine Q7 ?_
   refine Q2 ?_
   refine runQ hN fun K hK=>?_
   simp [-Q1,-Qh,-Q9,-Qi,-Qa,eL,eI,Q4]
   repeat with_reducible refine sdQ ?_
   refine hK _ ?_;clear hK K
   refine tn ?_
   refine Qf (st':=⟨[(3,.own 0 0 s6.1.length),(4,.val (.int .i64 s6.2)),(8,.val (.int .i64 ((List.replicate n_.toNat 0).length:Int))),(9,.val (.int .i64 s6.2))],[(0,.row 1 (Is s6.1))],1⟩) (wkQ9 [(0,0)]) ?_
   refine runQ hN fun K hK=>?_
   replace h:=Qc h
   obtain ⟨a8,h⟩:=h
   simp [-Q1,-Qh,-Q9,-Qi,-Qa,eL,eI,Q4,at_I a8]
   repeat with_reducible refine sdQ ?_
   refine hK _ ?_;clear hK K
   refine bn ?_
   refine tn ?_
   refine Qf (st':=⟨[(3,.own 0 0 ((s6.1.set s6.2.toNat s6.2).length)),(8,.val (.int .i64 ((List.replicate n_.toNat 0).length:Int))),(9,.val (.int .i64 s6.2))],[(0,.row 1 (Is (s6.1.set s6.2.toNat s6.2)))],1⟩) (wkQ9 [(0,0)]) ?_
   refine runQ hN fun K hK=>?_
   replace h:=Qc h
   obtain ⟨a9,h⟩:=h
   simp [-Q1,-Qh,-Q9,-Qi,-Qa,eL,eI,Q4,QA a9]
   repeat with_reducible refine sdQ ?_
   refine hK _ ?_;clear hK K
   cases h
   exact rn (s':=(s6.1.set s6.2.toNat s6.2,s6.2+1)) hk6 (wkQ9 [(0,0)])
  have g7:¬ (s6.2<((List.replicate n_.toNat 0).length:Int)):=gQ
  clear g
  replace h:=if_r g7 h
  refine Qm ?_
  refine tx ?_
  refine lx ?_
  refine bh ?_
  cases h
  exact jn (b:=s6.1) hk6 (wkQ9 [(0,0)])
 intro b2 hb2
 have h:=h2
 rw [← hb2] at h
 clear h2
 try dsimp only at h
 refine Q2 ?_
 refine runQ hN fun K hK=>?_
 simp [-Q1,-Qh,-Q9,-Qi,-Qa,eL,eI,Q4]
 repeat with_reducible refine sdQ ?_
 refine hK _ ?_;clear hK K
 refine tn ?_
 refine Qf (st':=⟨[(2,.own 0 0 b2.length)],[(0,.row 1 (Is b2))],1⟩) (wkQ9 [(0,0)]) ?_
 refine Qe ?_
 have hr:=Option.some.inj h
 rw [← hr]
 refine ⟨_,(.tmp .nil),?_⟩
 refine ⟨(.one rfl rfl .nil),[.lst true 1 (Is b2)],[0],by simp [UA,U1,IA,I1,LA,L1,BA,B1,EA,E1,E2,eB,eI,eL],by simp,(UpL.refl _)⟩
end Go.Vc.T
namespace Go.Vc.T
open Go Go.Vc Go.Proofs
theorem ix_iota (n:Nat) {j:Int} (h0:0≤j) (h1:j<n):ix (iota n) j=j:=by
 obtain ⟨i,rfl⟩:∃ i:Nat,j=i:=⟨j.toNat,by omega⟩
 rw [← Qy _ _ (show i<(iota n).length by simp [iota];omega)]
 simp [iota]
theorem set_fill {α:Type} (xs:List α) (k:Nat) (v z:α) {i:Nat} (h:i=xs.length):(xs++List.replicate (k+1) z).set i v=(xs++[v])++List.replicate k z:=by
 subst h
 simp [List.replicate_succ]
def selfF (c:Cat):Fn:=⟨c,c,iota c.n.toNat,iota c.fr.length⟩
def thenF (f g:Fn):Fn:=⟨f.s,g.t,thenL f.ob g.ob,thenL f.ar g.ar⟩
theorem Q4M {n:Int} (h0:0≤n) (h1:n≤1048576):Q16 n=some (iota n.toNat):=by
 unfold Q16
 rw [Qg (by omega)]
 simp only [List.length_replicate]
 refine Q1x n.toNat (fun i:Nat=>iota i++List.replicate (n.toNat - i) 0) (e:=iota n.toNat) (by simp [iota]) (by omega) (fun i hi=>?_) (by simp) (by simp)
 obtain ⟨k,hk⟩:∃ k,n.toNat - i=k+1:=⟨n.toNat - i - 1,by omega⟩
 have hl:(iota i).length=i:=by simp [iota]
 have hs:=set_fill (iota i) k (i:Int) 0 (i:=i) (by rw [hl])
 rw [Q3z,hk,show n.toNat - (i+1)=k by omega,← hs]
 simp (disch:=omega) [Qg,B64,hl]
 omega
end Go.Vc.T
namespace Go.Vc.T
open Go Go.Vc Go.Proofs
structure NatT (f g:Fn) (p:List Int):Prop where
 lp:p.length=f.ob.length
 bd:∀ j:Nat,j<p.length→0≤ix p j∧ix p j<f.t.fr.length
 ends:∀ x:Nat,x<p.length→ix f.t.fr (ix p x)=ix f.ob x∧ix f.t.to (ix p x)=ix g.ob x
 sq:∀ a:Nat,a<f.s.fr.length→ix (rx f.t.cs (ix f.ar a)) (ix p (ix f.s.to a))=ix (rx f.t.cs (ix p (ix f.s.fr a))) (ix g.ar a)
structure Para (f g:Fn):Prop where
 hf:f.Is
 hg:g.Is
 s:f.s=g.s
 t:f.t=g.t
structure Tra.Is (t:Tra):Prop where
 p:Para t.s t.t
 n:NatT t.s t.t t.p
end Go.Vc.T
namespace Go.Vc.T
open Go Go.Vc Go.Proofs
structure Adj.Pre (a:Adj):Prop where
 hl:a.l.Is
 hr:a.r.Is
 e1:a.l.t=a.r.s
 e2:a.r.t=a.l.s
 n1:NatT (selfF a.l.s) (thenF a.l a.r) a.u
 n2:NatT (thenF a.r a.l) (selfF a.l.t) a.k
structure Adj.Is (a:Adj):Prop where
 pre:a.Pre
 t1:∀ x:Nat,x<a.l.ob.length→ix (rx a.l.t.cs (ix a.l.ar (ix a.u x))) (ix a.k (ix a.l.ob x))=ix a.l.t.id (ix a.l.ob x)
 t2:∀ y:Nat,y<a.r.ob.length→ix (rx a.l.s.cs (ix a.u (ix a.r.ob y))) (ix a.r.ar (ix a.k y))=ix a.l.s.id (ix a.r.ob y)
end Go.Vc.T
namespace Go.Vc.T
open Go Go.Vc Go.Proofs
structure Adj.Two (a b:Adj):Prop where
 ha:a.Is
 hb:b.Is
 e:a.l.t=b.l.s
end Go.Vc.T
namespace Go.Vc.T
open Go Go.Vc Go.Proofs
theorem run_bind {σ ε β:Type} {body:σ→Option (Ctl σ ε)} {K:ε→Option β} {r:Option β} {s0:σ} (n:Nat) (g:Nat→σ) {e:ε} (h0:s0=g 0) (hn:n<4611686018427387904) (h:∀ i:Nat,i<n→body (g i)=some (.next (g (i+1)))) (he:body (g n)=some (.ret e)) (hk:K e=r):(QX body fuel s0).bind K=r:=by
 rw [Q3o g n h0 hn h he];exact hk
end Go.Vc.T
namespace Go.Vc.T
open Go Go.Vc Go.Proofs
noncomputable def Q1Y (sizes_:List Int):Option Bool :=
 (Q2k sizes_ 17).bind fun v1 =>
 some v1
theorem Q5W (sizes_:List Int) (r:Bool) (h:Q1Y sizes_=some r):Contract Try.prog 139 [.lst true 1 (Is sizes_)] (.val (.bool r)):=by
 refine Qs (rvs:=[.tmp 2]) (rs:=[.val (.bool r)]) Try.func139 rfl rfl rfl rfl (by simp [Try.f139]) fun F hN hP=>?_
 unfold Q1Y at h
 refine Q2 ?_
 refine runQ hN fun K hK=>?_
 simp [-Q1,-Qh,-Q9,-Qi,-Qa,eL,eI,Q4]
 repeat with_reducible refine sdQ ?_
 refine hK _ ?_;clear hK K
 refine tn ?_
 refine Qf (st':=⟨[(0,.lst true 1 (Is sizes_))],[],0⟩) (wkQ9 []) ?_
 refine Q2 ?_
 refine runQ hN fun K hK=>?_
 simp [-Q1,-Qh,-Q9,-Qi,-Qa,eL,eI,Q4]
 repeat with_reducible refine sdQ ?_
 replace h:=bind_some h
 obtain ⟨v1,hv1,h⟩:=h
 refine Q0 (Q6Z _ _ v1 hv1) (.cons .lst (.cons .val .nil)) ?_
 simp [-Q1,-Qh,-Q9,-Qi,-Qa,unk,unA,unE,unT,unC,flat,eL,eI,Q4]
 repeat with_reducible refine sdQ ?_
 refine hK _ ?_;clear hK K
 refine tn ?_
 refine Qf (st':=⟨[(2,.val (.bool v1))],[],0⟩) (wkQ9 []) ?_
 refine Qe ?_
 have hr:=Option.some.inj h
 rw [← hr]
 refine ⟨_,(.tmp .nil),?_⟩
 refine ⟨(.one rfl rfl .nil),[.val (.bool v1)],[],by simp [UA,U1,IA,I1,LA,L1,BA,B1,EA,E1,E2,eB,eI,eL],by simp,(UpL.refl _)⟩
end Go.Vc.T
namespace Go.Vc.T
open Go Go.Vc Go.Proofs
noncomputable def Q2j (f_:SF) (g_:SF) (parts_:List (List Int)):Option SM :=
 (QD f_).bind fun v1 =>
 (QD g_).bind fun v2 =>
 (Q2i parts_).bind fun v3 =>
 some (⟨v1,v2,v3⟩:SM)
theorem Q6Y (f_:SF) (g_:SF) (parts_:List (List Int)) (r:SM) (h:Q2j f_ g_ parts_=some r):Contract Try.prog 140 [.rptr (f_.cells true),.rptr (g_.cells true),.lst true 1 (Ls parts_)] (.agg (r.cells true)):=by
 refine Qs (rvs:=[.cell 6 96]) (rs:=[.agg (r.cells true)]) Try.func140 rfl rfl rfl rfl (by simp [Try.f140]) fun F hN hP=>?_
 unfold Q2j at h
 refine Q2 ?_
 refine runQ hN fun K hK=>?_
 simp [-Q1,-Qh,-Q9,-Qi,-Qa,eL,eI,Q4,Qj,Qt,SF.cells,SM.cells]
 repeat with_reducible refine sdQ ?_
 refine hK _ ?_;clear hK K
 refine tn ?_
 refine Qf (st':=⟨[(0,.rptr (SF.cells true f_)),(1,.rptr (SF.cells true g_)),(2,.lst true 1 (Ls parts_)),(6,.adr 0 0 0)],[(0,.mix 15 [[.val (.int .i64 0),.val (.slice none 0 0),.val (.slice none 0 0),.val (.slice none 0 0),.val (.slice none 0 0),.val (.slice none 0 0),.val (.slice none 0 0),.val (.int .i64 0),.val (.slice none 0 0),.val (.slice none 0 0),.val (.slice none 0 0),.val (.slice none 0 0),.val (.slice none 0 0),.val (.slice none 0 0),.val (.slice none 0 0)]])],1⟩) (wkQ9 [(0,0)]) ?_
 refine Q2 ?_
 refine runQ hN fun K hK=>?_
 simp [-Q1,-Qh,-Q9,-Qi,-Qa,eL,eI,Q4,Qj,Qt,SF.cells,SM.cells]
 repeat with_reducible refine sdQ ?_
 replace h:=bind_some h
 obtain ⟨v1,hv1,h⟩:=h
 refine Q0 (Q1w _ v1 hv1) (.cons (.preT (by simp [SF.cells])) .nil) ?_
 simp [-Q1,-Qh,-Q9,-Qi,-Qa,unk,unA,unE,unT,unC,flat,eL,eI,Q4,Qj,Qt,SF.cells,SM.cells]
 repeat with_reducible refine sdQ ?_
 replace h:=bind_some h
 obtain ⟨v2,hv2,h⟩:=h
 refine Q0 (Q1w _ v2 hv2) (.cons (.preT (by simp [SF.cells])) .nil) ?_
 simp [-Q1,-Qh,-Q9,-Qi,-Qa,unk,unA,unE,unT,unC,flat,eL,eI,Q4,Qj,Qt,SF.cells,SM.cells]
 repeat with_reducible refine sdQ ?_
 replace h:=bind_some h
 obtain ⟨v3,hv3,h⟩:=h
 refine Q0 (Q6X _ v3 hv3) (.cons .lst .nil) ?_
 simp [-Q1,-Qh,-Q9,-Qi,-Qa,unk,unA,unE,unT,unC,flat,eL,eI,Q4,Qj,Qt,SF.cells,SM.cells]
 repeat with_reducible refine sdQ ?_
 refine hK _ ?_;clear hK K
 refine tn ?_
 refine Qf (st':=⟨[(6,.adr 0 0 0)],[(0,.mix 15 [[.val (.int .i64 v1.s.n),.own 1 0 v1.s.fr.length,.own 2 0 v1.s.to.length,.own 3 0 v1.s.id.length,.own 4 0 v1.s.cs.length,.own 5 0 v1.sz.length,.own 6 0 v1.ac.length,.val (.int .i64 v2.s.n),.own 7 0 v2.s.fr.length,.own 8 0 v2.s.to.length,.own 9 0 v2.s.id.length,.own 10 0 v2.s.cs.length,.own 11 0 v2.sz.length,.own 12 0 v2.ac.length,.own 13 0 v3.length]]),(1,.row 1 (Is v1.s.fr)),(2,.row 1 (Is v1.s.to)),(3,.row 1 (Is v1.s.id)),(4,.row 1 (Ls v1.s.cs)),(5,.row 1 (Is v1.sz)),(6,.row 1 (Ls v1.ac)),(7,.row 1 (Is v2.s.fr)),(8,.row 1 (Is v2.s.to)),(9,.row 1 (Is v2.s.id)),(10,.row 1 (Ls v2.s.cs)),(11,.row 1 (Is v2.sz)),(12,.row 1 (Ls v2.ac)),(13,.row 1 (Ls v3))],14⟩) (wkQ9 [(0,0),(2,1),(3,2),(4,3),(5,4),(6,5),(7,6),(9,7),(10,8),(11,9),(12,10),(13,11),(14,12),(15,13)]) ?_
 refine Qe ?_
 have hr:=Option.some.inj h
 rw [← hr]
 refine ⟨_,(.cell Q4C rfl rfl rfl (by simp) (by simp) .nil),?_⟩
 refine ⟨(.agg rfl .nil),[.val (.int .i64 v1.s.n),.lst true 1 (Is v1.s.fr),.lst true 1 (Is v1.s.to),.lst true 1 (Is v1.s.id),.lst true 1 (Ls v1.s.cs),.lst true 1 (Is v1.sz),.lst true 1 (Ls v1.ac),.val (.int .i64 v2.s.n),.lst true 1 (Is v2.s.fr),.lst true 1 (Is v2.s.to),.lst true 1 (Is v2.s.id),.lst true 1 (Ls v2.s.cs),.lst true 1 (Is v2.sz),.lst true 1 (Ls v2.ac),.lst true 1 (Ls v3)],[1,2,3,4,5,6,7,8,9,10,11,12,13],by simp [SF.cells,SM.cells,UA,U1,IA,I1,LA,L1,BA,B1,EA,E1,E2,eB,eI,eL],by simp,(UpL.refl _)⟩
end Go.Vc.T
namespace Go.Vc.T
open Go Go.Vc Go.Proofs
noncomputable def Q17 (list_:List Int) (by_:Int):Option (List Int) :=
 (QX (σ:=List Int × Int) (ε:=List Int) (fun s7 =>
  if s7.2<(list_.length:Int) then
   ass (0≤s7.2∧s7.2<(list_.length:Int)) <|
   ass (B64 ((ix list_ s7.2)+by_)) <|
   ass ((s7.1++[(ix list_ s7.2)+by_]).length≤1073741824) <|
   ass (B64 (s7.2+1)) <|
   some (Ctl.next (s7.1++[(ix list_ s7.2)+by_],s7.2+1))
  else
   some (Ctl.ret s7.1)) fuel ([],0)).bind fun b1 =>
 some b1
theorem Q3S (list_:List Int) (by_:Int) (r:List Int) (h:Q17 list_ by_=some r):Contract Try.prog 214 [.lst true 1 (Is list_),.val (.int .i64 by_)] (.lst true 1 (Is r)):=by
 refine Qs (rvs:=[.tmp 4]) (rs:=[.lst true 1 (Is r)]) Try.func214 rfl rfl rfl rfl (by simp [Try.f214]) fun F hN hP=>?_
 unfold Q17 at h
 refine Q2 ?_
 refine runQ hN fun K hK=>?_
 simp [-Q1,-Qh,-Q9,-Qi,-Qa,eL,eI,Q4]
 repeat with_reducible refine sdQ ?_
 refine hK _ ?_;clear hK K
 refine tn ?_
 refine Qf (st':=⟨[(0,.lst true 1 (Is list_)),(1,.val (.int .i64 by_))],[],0⟩) (wkQ9 []) ?_
 refine Q2 ?_
 refine runQ hN fun K hK=>?_
 simp [-Q1,-Qh,-Q9,-Qi,-Qa,eL,eI,Q4]
 repeat with_reducible refine sdQ ?_
 refine hK _ ?_;clear hK K
 refine tn ?_
 refine Qf (st':=⟨[(0,.lst true 1 (Is list_)),(1,.val (.int .i64 by_)),(5,.own 0 0 0)],[(0,.mix 1 [])],1⟩) (wkQ9 [(0,0)]) ?_
 refine Q2 ?_
 refine Q2 ?_
 refine runQ hN fun K hK=>?_
 simp [-Q1,-Qh,-Q9,-Qi,-Qa,eL,eI,Q4]
 repeat with_reducible refine sdQ ?_
 refine hK _ ?_;clear hK K
 refine tn ?_
 refine Qf (st':=⟨[(1,.val (.int .i64 by_)),(5,.own 0 0 0),(9,.lst true 1 (Is list_)),(10,.val (.int .i64 (list_.length:Int))),(11,.val (.int .i64 0))],[(0,.mix 1 [])],1⟩) (wkQ9 [(0,0)]) ?_
 replace h:=bind_some h
 obtain ⟨e1,h,h1⟩:=h
 refine Q13 (fun b1:List Int=>⟨[(5,.own 0 0 b1.length)],[(0,.row 1 (Is b1))],1⟩) (fun b1=>b1=e1) ?_ ?_
 ·refine Q7 ?_
  refine Q1k h (fun s7:List Int × Int=>⟨[(1,.val (.int .i64 by_)),(5,.own 0 0 s7.1.length),(9,.lst true 1 (Is list_)),(10,.val (.int .i64 (list_.length:Int))),(11,.val (.int .i64 s7.2))],[(0,.row 1 (Is s7.1))],1⟩) (Q4D ⟨[(1,.val (.int .i64 by_)),(5,.own 0 0 0),(9,.lst true 1 (Is list_)),(10,.val (.int .i64 (list_.length:Int))),(11,.val (.int .i64 0))],[(0,.row 1 (Is []))],1⟩ (Wk.nils [] (by simp) (by simp) (by simp [nlA]) (by simp [entN,nlL,nlA,UA,U1,IA,I1,LA,L1,BA,B1,EA,E1,E2,eB,eI,eL]) (by simp)) (wkQ9 [(0,0)])) ?_
  clear h
  intro k7 s7 c7 h hk7
  refine Q2 ?_
  refine runQ hN fun K hK=>?_
  simp [-Q1,-Qh,-Q9,-Qi,-Qa,eL,eI,Q4]
  repeat with_reducible refine sdQ ?_
  refine hK _ ?_;clear hK K
  refine tn ?_
  refine Qf (st':=⟨[(1,.val (.int .i64 by_)),(5,.own 0 0 s7.1.length),(9,.lst true 1 (Is list_)),(10,.val (.int .i64 (list_.length:Int))),(11,.val (.int .i64 s7.2)),(12,.val (.bool (decide (s7.2<(list_.length:Int)))))],[(0,.row 1 (Is s7.1))],1⟩) (wkQ9 [(0,0)]) ?_
  refine Q2 ?_
  refine Q5 rfl (fun g=>?_) fun g=>?_
  ·have g8:s7.2<(list_.length:Int):=gQ
   clear g
   replace h:=if_l g8 h
   refine Q6 ?_
   refine tn ?_
   refine Q2 ?_
   refine Q7 ?_
   refine Q2 ?_
   refine runQ hN fun K hK=>?_
   replace h:=Qc h
   obtain ⟨a9,h⟩:=h
   simp [-Q1,-Qh,-Q9,-Qi,-Qa,eL,eI,Q4,at_I a9]
   repeat with_reducible refine sdQ ?_
   refine hK _ ?_;clear hK K
   refine tn ?_
   refine Qf (st':=⟨[(1,.val (.int .i64 by_)),(5,.own 0 0 s7.1.length),(7,.val (.int .i64 (ix list_ s7.2))),(9,.lst true 1 (Is list_)),(10,.val (.int .i64 (list_.length:Int))),(11,.val (.int .i64 s7.2))],[(0,.row 1 (Is s7.1))],1⟩) (wkQ9 [(0,0)]) ?_
   refine runQ hN fun K hK=>?_
   replace h:=Qc h
   obtain ⟨a10,h⟩:=h
   replace h:=Qc h
   obtain ⟨a11,h⟩:=h
   try simp only [List.length_append,List.length_cons,List.length_nil] at a11
   simp [-Q1,-Qh,-Q9,-Qi,-Qa,eL,eI,Q4,QA a10,a11]
   repeat with_reducible refine sdQ ?_
   refine hK _ ?_;clear hK K
   refine bn ?_
   refine tn ?_
   refine Qf (st':=⟨[(1,.val (.int .i64 by_)),(5,.own 0 0 ((s7.1++[(ix list_ s7.2)+by_]).length)),(9,.lst true 1 (Is list_)),(10,.val (.int .i64 (list_.length:Int))),(11,.val (.int .i64 s7.2))],[(0,.row 1 (Is (s7.1++[(ix list_ s7.2)+by_])))],1⟩) (wkQ9 [(2,0)]) ?_
   refine runQ hN fun K hK=>?_
   replace h:=Qc h
   obtain ⟨a12,h⟩:=h
   simp [-Q1,-Qh,-Q9,-Qi,-Qa,eL,eI,Q4,QA a12]
   repeat with_reducible refine sdQ ?_
   refine hK _ ?_;clear hK K
   cases h
   exact rn (s':=(s7.1++[(ix list_ s7.2)+by_],s7.2+1)) hk7 (wkQ9 [(0,0)])
  have g8:¬ (s7.2<(list_.length:Int)):=gQ
  clear g
  replace h:=if_r g8 h
  refine Qm ?_
  refine tx ?_
  refine lx ?_
  refine bh ?_
  cases h
  exact jn (b:=s7.1) hk7 (wkQ9 [(0,0)])
 intro b1 hb1
 have h:=h1
 rw [← hb1] at h
 clear h1
 try dsimp only at h
 refine Q2 ?_
 refine runQ hN fun K hK=>?_
 simp [-Q1,-Qh,-Q9,-Qi,-Qa,eL,eI,Q4]
 repeat with_reducible refine sdQ ?_
 refine hK _ ?_;clear hK K
 refine tn ?_
 refine Qf (st':=⟨[(4,.own 0 0 b1.length)],[(0,.row 1 (Is b1))],1⟩) (wkQ9 [(0,0)]) ?_
 refine Qe ?_
 have hr:=Option.some.inj h
 rw [← hr]
 refine ⟨_,(.tmp .nil),?_⟩
 refine ⟨(.one rfl rfl .nil),[.lst true 1 (Is b1)],[0],by simp [UA,U1,IA,I1,LA,L1,BA,B1,EA,E1,E2,eB,eI,eL],by simp,(UpL.refl _)⟩
end Go.Vc.T
namespace Go.Vc.T
open Go Go.Vc Go.Proofs
noncomputable def Q1v (f_:SF) (g_:SF):Option (SF × List (List Int) × List (List Int)) :=
 (QQ f_.s).bind fun v1 =>
 (QX (σ:=List Int × List (List Int) × List (List Int) × Int) (ε:=List Int × List (List Int) × List (List Int)) (fun s15 =>
  if s15.2.2.2<(f_.sz.length:Int) then
   ass (0≤s15.2.2.2∧s15.2.2.2<(f_.sz.length:Int)) <|
   ass (0≤s15.2.2.2∧s15.2.2.2<(g_.sz.length:Int)) <|
   ass (B64 ((ix f_.sz s15.2.2.2)+(ix g_.sz s15.2.2.2))) <|
   ass ((s15.1++[(ix f_.sz s15.2.2.2)+(ix g_.sz s15.2.2.2)]).length≤1073741824) <|
   (Q16 (ix f_.sz s15.2.2.2)).bind fun v21 =>
   ass ((s15.2.1++[v21]).length≤1073741824) <|
   ass (0≤s15.2.2.2∧s15.2.2.2<(g_.sz.length:Int)) <|
   (Q16 (ix g_.sz s15.2.2.2)).bind fun v24 =>
   (Q17 v24 (ix f_.sz s15.2.2.2)).bind fun v25 =>
   ass ((s15.2.2.1++[v25]).length≤1073741824) <|
   ass (B64 (s15.2.2.2+1)) <|
   some (Ctl.next (s15.1++[(ix f_.sz s15.2.2.2)+(ix g_.sz s15.2.2.2)],s15.2.1++[v21],s15.2.2.1++[v25],s15.2.2.2+1))
  else
   some (Ctl.ret (s15.1,s15.2.1,s15.2.2.1))) fuel ([],[],[],0)).bind fun b2 =>
 (QX (σ:=List (List Int) × Int) (ε:=List (List Int)) (fun s39 =>
  if s39.2<(f_.ac.length:Int) then
   ass (0≤s39.2∧s39.2<(f_.ac.length:Int)) <|
   (Q1O (rx f_.ac s39.2)).bind fun v42 =>
   ass (0≤s39.2∧s39.2<(g_.ac.length:Int)) <|
   ass (0≤s39.2∧s39.2<(f_.s.to.length:Int)) <|
   ass (0≤ix f_.s.to s39.2∧ix f_.s.to s39.2<(f_.sz.length:Int)) <|
   (Q17 (rx g_.ac s39.2) (ix f_.sz (ix f_.s.to s39.2))).bind fun v46 =>
   ass ((v42++v46).length≤1073741824) <|
   ass ((s39.1++[v42++v46]).length≤1073741824) <|
   ass (B64 (s39.2+1)) <|
   some (Ctl.next (s39.1++[v42++v46],s39.2+1))
  else
   some (Ctl.ret s39.1)) fuel ([],0)).bind fun b28 =>
 some ((⟨v1,b2.1,b28⟩:SF),b2.2.1,b2.2.2)
theorem Q5X (f_:SF) (g_:SF) (r:SF × List (List Int) × List (List Int)) (h:Q1v f_ g_=some r):Contract Try.prog 138 [.rptr (f_.cells true),.rptr (g_.cells true)] (.tup [.agg (r.1.cells true),.lst true 1 (Ls r.2.1),.lst true 1 (Ls r.2.2)]):=by
 refine Qs (rvs:=[.cell 4 94,.tmp 5,.tmp 6]) (rs:=[.agg (r.1.cells true),.lst true 1 (Ls r.2.1),.lst true 1 (Ls r.2.2)]) Try.func138 rfl rfl rfl rfl (by simp [Try.f138]) fun F hN hP=>?_
 unfold Q1v at h
 refine Q2 ?_
 refine runQ hN fun K hK=>?_
 simp [-Q1,-Qh,-Q9,-Qi,-Qa,eL,eI,Q4,Qr,Qj,Cat.cells,SF.cells]
 repeat with_reducible refine sdQ ?_
 refine hK _ ?_;clear hK K
 refine tn ?_
 refine Qf (st':=⟨[(0,.rptr (SF.cells true f_)),(1,.rptr (SF.cells true g_)),(4,.adr 0 0 0)],[(0,.mix 7 [[.val (.int .i64 0),.val (.slice none 0 0),.val (.slice none 0 0),.val (.slice none 0 0),.val (.slice none 0 0),.val (.slice none 0 0),.val (.slice none 0 0)]])],1⟩) (wkQ9 [(0,0)]) ?_
 refine Q2 ?_
 refine runQ hN fun K hK=>?_
 simp [-Q1,-Qh,-Q9,-Qi,-Qa,eL,eI,Q4,Qr,Qj,Cat.cells,SF.cells]
 repeat with_reducible refine sdQ ?_
 replace h:=bind_some h
 obtain ⟨v1,hv1,h⟩:=h
 refine Q0 (Q33 _ v1 hv1) (.cons (.preT (by simp [Cat.cells,SF.cells])) .nil) ?_
 simp [-Q1,-Qh,-Q9,-Qi,-Qa,unk,unA,unE,unT,unC,flat,eL,eI,Q4,Qr,Qj,Cat.cells,SF.cells]
 repeat with_reducible refine sdQ ?_
 refine hK _ ?_;clear hK K
 refine tn ?_
 refine Qf (st':=⟨[(0,.rptr (SF.cells true f_)),(1,.rptr (SF.cells true g_)),(4,.adr 0 0 0),(7,.adr 1 0 0)],[(0,.mix 7 [[.val (.int .i64 0),.val (.slice none 0 0),.val (.slice none 0 0),.val (.slice none 0 0),.val (.slice none 0 0),.val (.slice none 0 0),.val (.slice none 0 0)]]),(1,.mix 7 [[.val (.int .i64 v1.n),.own 2 0 v1.fr.length,.own 3 0 v1.to.length,.own 4 0 v1.id.length,.own 5 0 v1.cs.length,.val (.slice none 0 0),.val (.slice none 0 0)]]),(2,.row 1 (Is v1.fr)),(3,.row 1 (Is v1.to)),(4,.row 1 (Is v1.id)),(5,.row 1 (Ls v1.cs))],6⟩) (wkQ9 [(0,0),(6,1),(2,2),(3,3),(4,4),(5,5)]) ?_
 refine Q2 ?_
 refine runQ hN fun K hK=>?_
 simp [-Q1,-Qh,-Q9,-Qi,-Qa,eL,eI,Q4,Qr,Qj,Cat.cells,SF.cells]
 repeat with_reducible refine sdQ ?_
 refine hK _ ?_;clear hK K
 refine tn ?_
 refine Qf (st':=⟨[(0,.rptr (SF.cells true f_)),(1,.rptr (SF.cells true g_)),(4,.adr 0 0 0),(7,.adr 1 0 0),(8,.own 6 0 0),(9,.own 7 0 0)],[(0,.mix 7 [[.val (.int .i64 0),.val (.slice none 0 0),.val (.slice none 0 0),.val (.slice none 0 0),.val (.slice none 0 0),.val (.slice none 0 0),.val (.slice none 0 0)]]),(1,.mix 7 [[.val (.int .i64 v1.n),.own 2 0 v1.fr.length,.own 3 0 v1.to.length,.own 4 0 v1.id.length,.own 5 0 v1.cs.length,.val (.slice none 0 0),.val (.slice none 0 0)]]),(2,.row 1 (Is v1.fr)),(3,.row 1 (Is v1.to)),(4,.row 1 (Is v1.id)),(5,.row 1 (Ls v1.cs)),(6,.mix 1 []),(7,.mix 1 [])],8⟩) (wkQ9 [(0,0),(1,1),(2,2),(3,3),(4,4),(5,5),(6,6),(7,7)]) ?_
 refine Q2 ?_
 refine Q2 ?_
 refine runQ hN fun K hK=>?_
 simp [-Q1,-Qh,-Q9,-Qi,-Qa,eL,eI,Q4,Qr,Qj,Cat.cells,SF.cells]
 repeat with_reducible refine sdQ ?_
 refine hK _ ?_;clear hK K
 refine tn ?_
 refine Qf (st':=⟨[(0,.rptr (SF.cells true f_)),(1,.rptr (SF.cells true g_)),(4,.adr 0 0 0),(7,.adr 1 0 0),(8,.own 6 0 0),(9,.own 7 0 0),(23,.lst true 1 (Is f_.sz)),(24,.val (.int .i64 (f_.sz.length:Int))),(25,.val (.int .i64 0))],[(0,.mix 7 [[.val (.int .i64 0),.val (.slice none 0 0),.val (.slice none 0 0),.val (.slice none 0 0),.val (.slice none 0 0),.val (.slice none 0 0),.val (.slice none 0 0)]]),(1,.mix 7 [[.val (.int .i64 v1.n),.own 2 0 v1.fr.length,.own 3 0 v1.to.length,.own 4 0 v1.id.length,.own 5 0 v1.cs.length,.val (.slice none 0 0),.val (.slice none 0 0)]]),(2,.row 1 (Is v1.fr)),(3,.row 1 (Is v1.to)),(4,.row 1 (Is v1.id)),(5,.row 1 (Ls v1.cs)),(6,.mix 1 []),(7,.mix 1 [])],8⟩) (wkQ9 [(0,0),(1,1),(2,2),(3,3),(4,4),(5,5),(6,6),(7,7)]) ?_
 replace h:=bind_some h
 obtain ⟨e2,h,h2⟩:=h
 refine Q13 (fun b2:List Int × List (List Int) × List (List Int)=>⟨[(0,.rptr (SF.cells true f_)),(1,.rptr (SF.cells true g_)),(4,.adr 0 0 0),(7,.adr 1 0 0),(8,.own 7 0 b2.2.1.length),(9,.own 8 0 b2.2.2.length)],[(0,.mix 7 [[.val (.int .i64 0),.val (.slice none 0 0),.val (.slice none 0 0),.val (.slice none 0 0),.val (.slice none 0 0),.val (.slice none 0 0),.val (.slice none 0 0)]]),(1,.mix 7 [[.val (.int .i64 v1.n),.own 2 0 v1.fr.length,.own 3 0 v1.to.length,.own 4 0 v1.id.length,.own 5 0 v1.cs.length,.own 6 0 b2.1.length,.val (.slice none 0 0)]]),(2,.row 1 (Is v1.fr)),(3,.row 1 (Is v1.to)),(4,.row 1 (Is v1.id)),(5,.row 1 (Ls v1.cs)),(6,.row 1 (Is b2.1)),(7,.row 1 (Ls b2.2.1)),(8,.row 1 (Ls b2.2.2))],9⟩) (fun b2=>b2=e2) ?_ ?_
 ·refine Q7 ?_
  refine Q1k h (fun s15:List Int × List (List Int) × List (List Int) × Int=>⟨[(0,.rptr (SF.cells true f_)),(1,.rptr (SF.cells true g_)),(4,.adr 0 0 0),(7,.adr 1 0 0),(8,.own 7 0 s15.2.1.length),(9,.own 8 0 s15.2.2.1.length),(23,.lst true 1 (Is f_.sz)),(24,.val (.int .i64 (f_.sz.length:Int))),(25,.val (.int .i64 s15.2.2.2))],[(0,.mix 7 [[.val (.int .i64 0),.val (.slice none 0 0),.val (.slice none 0 0),.val (.slice none 0 0),.val (.slice none 0 0),.val (.slice none 0 0),.val (.slice none 0 0)]]),(1,.mix 7 [[.val (.int .i64 v1.n),.own 2 0 v1.fr.length,.own 3 0 v1.to.length,.own 4 0 v1.id.length,.own 5 0 v1.cs.length,.own 6 0 s15.1.length,.val (.slice none 0 0)]]),(2,.row 1 (Is v1.fr)),(3,.row 1 (Is v1.to)),(4,.row 1 (Is v1.id)),(5,.row 1 (Ls v1.cs)),(6,.row 1 (Is s15.1)),(7,.row 1 (Ls s15.2.1)),(8,.row 1 (Ls s15.2.2.1))],9⟩) (Q4D ⟨[(0,.rptr (SF.cells true f_)),(1,.rptr (SF.cells true g_)),(4,.adr 0 0 0),(7,.adr 1 0 0),(8,.own 6 0 0),(9,.own 7 0 0),(23,.lst true 1 (Is f_.sz)),(24,.val (.int .i64 (f_.sz.length:Int))),(25,.val (.int .i64 0))],[(0,.mix 7 [[.val (.int .i64 0),.val (.slice none 0 0),.val (.slice none 0 0),.val (.slice none 0 0),.val (.slice none 0 0),.val (.slice none 0 0),.val (.slice none 0 0)]]),(1,.mix 7 [[.val (.int .i64 v1.n),.own 2 0 v1.fr.length,.own 3 0 v1.to.length,.own 4 0 v1.id.length,.own 5 0 v1.cs.length,.own 8 0 0,.val (.slice none 0 0)]]),(2,.row 1 (Is v1.fr)),(3,.row 1 (Is v1.to)),(4,.row 1 (Is v1.id)),(5,.row 1 (Ls v1.cs)),(6,.row 1 (Ls [])),(7,.row 1 (Ls [])),(8,.row 1 (Is []))],9⟩ (Wk.nils [(8,1)] (by simp) (by simp) (by simp [nlA]) (by simp [entN,nlL,nlA,Cat.cells,SF.cells,UA,U1,IA,I1,LA,L1,BA,B1,EA,E1,E2,eB,eI,eL]) (by simp)) (wkQ9 [(0,0),(1,1),(2,2),(3,3),(4,4),(5,5),(8,6),(6,7),(7,8)])) ?_
  clear h
  intro k15 s15 c15 h hk15
  refine Q2 ?_
  refine runQ hN fun K hK=>?_
  simp [-Q1,-Qh,-Q9,-Qi,-Qa,eL,eI,Q4,Qr,Qj,Cat.cells,SF.cells]
  repeat with_reducible refine sdQ ?_
  refine hK _ ?_;clear hK K
  refine tn ?_
  refine Qf (st':=⟨[(0,.rptr (SF.cells true f_)),(1,.rptr (SF.cells true g_)),(4,.adr 0 0 0),(7,.adr 1 0 0),(8,.own 7 0 s15.2.1.length),(9,.own 8 0 s15.2.2.1.length),(23,.lst true 1 (Is f_.sz)),(24,.val (.int .i64 (f_.sz.length:Int))),(25,.val (.int .i64 s15.2.2.2)),(26,.val (.bool (decide (s15.2.2.2<(f_.sz.length:Int)))))],[(0,.mix 7 [[.val (.int .i64 0),.val (.slice none 0 0),.val (.slice none 0 0),.val (.slice none 0 0),.val (.slice none 0 0),.val (.slice none 0 0),.val (.slice none 0 0)]]),(1,.mix 7 [[.val (.int .i64 v1.n),.own 2 0 v1.fr.length,.own 3 0 v1.to.length,.own 4 0 v1.id.length,.own 5 0 v1.cs.length,.own 6 0 s15.1.length,.val (.slice none 0 0)]]),(2,.row 1 (Is v1.fr)),(3,.row 1 (Is v1.to)),(4,.row 1 (Is v1.id)),(5,.row 1 (Ls v1.cs)),(6,.row 1 (Is s15.1)),(7,.row 1 (Ls s15.2.1)),(8,.row 1 (Ls s15.2.2.1))],9⟩) (wkQ9 [(0,0),(1,1),(2,2),(3,3),(4,4),(5,5),(6,6),(7,7),(8,8)]) ?_
  refine Q2 ?_
  refine Q5 rfl (fun g=>?_) fun g=>?_
  ·have g16:s15.2.2.2<(f_.sz.length:Int):=gQ
   clear g
   replace h:=if_l g16 h
   refine Q6 ?_
   refine tn ?_
   refine Q2 ?_
   refine Q7 ?_
   refine Q2 ?_
   refine runQ hN fun K hK=>?_
   replace h:=Qc h
   obtain ⟨a17,h⟩:=h
   simp [-Q1,-Qh,-Q9,-Qi,-Qa,eL,eI,Q4,Qr,Qj,Cat.cells,SF.cells,at_I a17]
   repeat with_reducible refine sdQ ?_
   refine hK _ ?_;clear hK K
   refine tn ?_
   refine Qf (st':=⟨[(0,.rptr (SF.cells true f_)),(1,.rptr (SF.cells true g_)),(4,.adr 0 0 0),(7,.adr 1 0 0),(8,.own 7 0 s15.2.1.length),(9,.own 8 0 s15.2.2.1.length),(10,.val (.int .i64 s15.2.2.2)),(11,.val (.int .i64 (ix f_.sz s15.2.2.2))),(23,.lst true 1 (Is f_.sz)),(24,.val (.int .i64 (f_.sz.length:Int))),(25,.val (.int .i64 s15.2.2.2))],[(0,.mix 7 [[.val (.int .i64 0),.val (.slice none 0 0),.val (.slice none 0 0),.val (.slice none 0 0),.val (.slice none 0 0),.val (.slice none 0 0),.val (.slice none 0 0)]]),(1,.mix 7 [[.val (.int .i64 v1.n),.own 2 0 v1.fr.length,.own 3 0 v1.to.length,.own 4 0 v1.id.length,.own 5 0 v1.cs.length,.own 6 0 s15.1.length,.val (.slice none 0 0)]]),(2,.row 1 (Is v1.fr)),(3,.row 1 (Is v1.to)),(4,.row 1 (Is v1.id)),(5,.row 1 (Ls v1.cs)),(6,.row 1 (Is s15.1)),(7,.row 1 (Ls s15.2.1)),(8,.row 1 (Ls s15.2.2.1))],9⟩) (wkQ9 [(0,0),(1,1),(2,2),(3,3),(4,4),(5,5),(6,6),(7,7),(8,8)]) ?_
   refine Q2 ?_
   refine runQ hN fun K hK=>?_
   replace h:=Qc h
   obtain ⟨a18,h⟩:=h
   replace h:=Qc h
   obtain ⟨a19,h⟩:=h
   replace h:=Qc h
   obtain ⟨a20,h⟩:=h
   try simp only [List.length_append,List.length_cons,List.length_nil] at a20
   simp [-Q1,-Qh,-Q9,-Qi,-Qa,eL,eI,Q4,Qr,Qj,Cat.cells,SF.cells,at_I a18,QA a19,a20]
   repeat with_reducible refine sdQ ?_
   refine hK _ ?_;clear hK K
   refine tn ?_
   refine Qf (st':=⟨[(0,.rptr (SF.cells true f_)),(1,.rptr (SF.cells true g_)),(4,.adr 0 0 0),(7,.adr 1 0 0),(8,.own 7 0 s15.2.1.length),(9,.own 8 0 s15.2.2.1.length),(10,.val (.int .i64 s15.2.2.2)),(11,.val (.int .i64 (ix f_.sz s15.2.2.2))),(23,.lst true 1 (Is f_.sz)),(24,.val (.int .i64 (f_.sz.length:Int))),(25,.val (.int .i64 s15.2.2.2))],[(0,.mix 7 [[.val (.int .i64 0),.val (.slice none 0 0),.val (.slice none 0 0),.val (.slice none 0 0),.val (.slice none 0 0),.val (.slice none 0 0),.val (.slice none 0 0)]]),(1,.mix 7 [[.val (.int .i64 v1.n),.own 2 0 v1.fr.length,.own 3 0 v1.to.length,.own 4 0 v1.id.length,.own 5 0 v1.cs.length,.own 6 0 ((s15.1++[(ix f_.sz s15.2.2.2)+(ix g_.sz s15.2.2.2)]).length),.val (.slice none 0 0)]]),(2,.row 1 (Is v1.fr)),(3,.row 1 (Is v1.to)),(4,.row 1 (Is v1.id)),(5,.row 1 (Ls v1.cs)),(6,.row 1 (Is (s15.1++[(ix f_.sz s15.2.2.2)+(ix g_.sz s15.2.2.2)]))),(7,.row 1 (Ls s15.2.1)),(8,.row 1 (Ls s15.2.2.1))],9⟩) (wkQ9 [(0,0),(1,1),(2,2),(3,3),(4,4),(5,5),(10,6),(7,7),(8,8)]) ?_
   refine Q2 ?_
   refine runQ hN fun K hK=>?_
   simp [-Q1,-Qh,-Q9,-Qi,-Qa,eL,eI,Q4,Qr,Qj,Cat.cells,SF.cells]
   repeat with_reducible refine sdQ ?_
   replace h:=bind_some h
   obtain ⟨v21,hv21,h⟩:=h
   refine Q0 (Q3R _ v21 hv21) (.cons .val .nil) ?_
   replace h:=Qc h
   obtain ⟨a22,h⟩:=h
   try simp only [List.length_append,List.length_cons,List.length_nil] at a22
   simp [-Q1,-Qh,-Q9,-Qi,-Qa,unk,unA,unE,unT,unC,flat,eL,eI,Q4,Qr,Qj,Cat.cells,SF.cells,a22]
   repeat with_reducible refine sdQ ?_
   refine hK _ ?_;clear hK K
   refine tn ?_
   refine Qf (st':=⟨[(0,.rptr (SF.cells true f_)),(1,.rptr (SF.cells true g_)),(4,.adr 0 0 0),(7,.adr 1 0 0),(8,.own 7 0 ((s15.2.1++[v21]).length)),(9,.own 8 0 s15.2.2.1.length),(10,.val (.int .i64 s15.2.2.2)),(11,.val (.int .i64 (ix f_.sz s15.2.2.2))),(23,.lst true 1 (Is f_.sz)),(24,.val (.int .i64 (f_.sz.length:Int))),(25,.val (.int .i64 s15.2.2.2))],[(0,.mix 7 [[.val (.int .i64 0),.val (.slice none 0 0),.val (.slice none 0 0),.val (.slice none 0 0),.val (.slice none 0 0),.val (.slice none 0 0),.val (.slice none 0 0)]]),(1,.mix 7 [[.val (.int .i64 v1.n),.own 2 0 v1.fr.length,.own 3 0 v1.to.length,.own 4 0 v1.id.length,.own 5 0 v1.cs.length,.own 6 0 ((s15.1++[(ix f_.sz s15.2.2.2)+(ix g_.sz s15.2.2.2)]).length),.val (.slice none 0 0)]]),(2,.row 1 (Is v1.fr)),(3,.row 1 (Is v1.to)),(4,.row 1 (Is v1.id)),(5,.row 1 (Ls v1.cs)),(6,.row 1 (Is (s15.1++[(ix f_.sz s15.2.2.2)+(ix g_.sz s15.2.2.2)]))),(7,.row 1 (Ls (s15.2.1++[v21]))),(8,.row 1 (Ls s15.2.2.1))],9⟩) (wkQ9 [(0,0),(1,1),(2,2),(3,3),(4,4),(5,5),(6,6),(11,7),(8,8)]) ?_
   refine runQ hN fun K hK=>?_
   replace h:=Qc h
   obtain ⟨a23,h⟩:=h
   simp [-Q1,-Qh,-Q9,-Qi,-Qa,eL,eI,Q4,Qr,Qj,Cat.cells,SF.cells,at_I a23]
   repeat with_reducible refine sdQ ?_
   replace h:=bind_some h
   obtain ⟨v24,hv24,h⟩:=h
   refine Q0 (Q3R _ v24 hv24) (.cons .val .nil) ?_
   simp [-Q1,-Qh,-Q9,-Qi,-Qa,unk,unA,unE,unT,unC,flat,eL,eI,Q4,Qr,Qj,Cat.cells,SF.cells,at_I a23]
   repeat with_reducible refine sdQ ?_
   replace h:=bind_some h
   obtain ⟨v25,hv25,h⟩:=h
   refine Q0 (Q3S _ _ v25 hv25) (.cons (.whole (by simp) (by simp) (by simp)) (.cons .val .nil)) ?_
   replace h:=Qc h
   obtain ⟨a26,h⟩:=h
   try simp only [List.length_append,List.length_cons,List.length_nil] at a26
   simp [-Q1,-Qh,-Q9,-Qi,-Qa,unk,unA,unE,unT,unC,flat,eL,eI,Q4,Qr,Qj,Cat.cells,SF.cells,at_I a23,a26]
   repeat with_reducible refine sdQ ?_
   refine hK _ ?_;clear hK K
   refine bn ?_
   refine tn ?_
   refine Qf (st':=⟨[(0,.rptr (SF.cells true f_)),(1,.rptr (SF.cells true g_)),(4,.adr 0 0 0),(7,.adr 1 0 0),(8,.own 7 0 ((s15.2.1++[v21]).length)),(9,.own 8 0 ((s15.2.2.1++[v25]).length)),(23,.lst true 1 (Is f_.sz)),(24,.val (.int .i64 (f_.sz.length:Int))),(25,.val (.int .i64 s15.2.2.2))],[(0,.mix 7 [[.val (.int .i64 0),.val (.slice none 0 0),.val (.slice none 0 0),.val (.slice none 0 0),.val (.slice none 0 0),.val (.slice none 0 0),.val (.slice none 0 0)]]),(1,.mix 7 [[.val (.int .i64 v1.n),.own 2 0 v1.fr.length,.own 3 0 v1.to.length,.own 4 0 v1.id.length,.own 5 0 v1.cs.length,.own 6 0 ((s15.1++[(ix f_.sz s15.2.2.2)+(ix g_.sz s15.2.2.2)]).length),.val (.slice none 0 0)]]),(2,.row 1 (Is v1.fr)),(3,.row 1 (Is v1.to)),(4,.row 1 (Is v1.id)),(5,.row 1 (Ls v1.cs)),(6,.row 1 (Is (s15.1++[(ix f_.sz s15.2.2.2)+(ix g_.sz s15.2.2.2)]))),(7,.row 1 (Ls (s15.2.1++[v21]))),(8,.row 1 (Ls (s15.2.2.1++[v25])))],9⟩) (wkQ9 [(0,0),(1,1),(2,2),(3,3),(4,4),(5,5),(6,6),(7,7),(12,8)]) ?_
   refine runQ hN fun K hK=>?_
   replace h:=Qc h
   obtain ⟨a27,h⟩:=h
   simp [-Q1,-Qh,-Q9,-Qi,-Qa,eL,eI,Q4,Qr,Qj,Cat.cells,SF.cells,QA a27]
   repeat with_reducible refine sdQ ?_
   refine hK _ ?_;clear hK K
   cases h
   exact rn (s':=(s15.1++[(ix f_.sz s15.2.2.2)+(ix g_.sz s15.2.2.2)],s15.2.1++[v21],s15.2.2.1++[v25],s15.2.2.2+1)) hk15 (wkQ9 [(0,0),(1,1),(2,2),(3,3),(4,4),(5,5),(6,6),(7,7),(8,8)])
  have g16:¬ (s15.2.2.2<(f_.sz.length:Int)):=gQ
  clear g
  replace h:=if_r g16 h
  refine Qm ?_
  refine tx ?_
  refine lx ?_
  refine bh ?_
  cases h
  exact jn (b:=(s15.1,s15.2.1,s15.2.2.1)) hk15 (wkQ9 [(0,0),(1,1),(2,2),(3,3),(4,4),(5,5),(6,6),(7,7),(8,8)])
 intro b2 hb2
 have h:=h2
 rw [← hb2] at h
 clear h2
 try dsimp only at h
 refine Q2 ?_
 refine Q2 ?_
 refine runQ hN fun K hK=>?_
 simp [-Q1,-Qh,-Q9,-Qi,-Qa,eL,eI,Q4,Qr,Qj,Cat.cells,SF.cells]
 repeat with_reducible refine sdQ ?_
 refine hK _ ?_;clear hK K
 refine tn ?_
 refine Qf (st':=⟨[(0,.rptr (SF.cells true f_)),(1,.rptr (SF.cells true g_)),(4,.adr 0 0 0),(7,.adr 1 0 0),(8,.own 7 0 b2.2.1.length),(9,.own 8 0 b2.2.2.length),(67,.val (.int .i64 (f_.ac.length:Int))),(68,.val (.int .i64 0))],[(0,.mix 7 [[.val (.int .i64 0),.val (.slice none 0 0),.val (.slice none 0 0),.val (.slice none 0 0),.val (.slice none 0 0),.val (.slice none 0 0),.val (.slice none 0 0)]]),(1,.mix 7 [[.val (.int .i64 v1.n),.own 2 0 v1.fr.length,.own 3 0 v1.to.length,.own 4 0 v1.id.length,.own 5 0 v1.cs.length,.own 6 0 b2.1.length,.val (.slice none 0 0)]]),(2,.row 1 (Is v1.fr)),(3,.row 1 (Is v1.to)),(4,.row 1 (Is v1.id)),(5,.row 1 (Ls v1.cs)),(6,.row 1 (Is b2.1)),(7,.row 1 (Ls b2.2.1)),(8,.row 1 (Ls b2.2.2))],9⟩) (wkQ9 [(0,0),(1,1),(2,2),(3,3),(4,4),(5,5),(6,6),(7,7),(8,8)]) ?_
 replace h:=bind_some h
 obtain ⟨e28,h,h28⟩:=h
 refine Q13 (fun b28:List (List Int)=>⟨[(4,.adr 0 0 0),(7,.adr 1 0 0),(8,.own 8 0 b2.2.1.length),(9,.own 9 0 b2.2.2.length)],[(0,.mix 7 [[.val (.int .i64 0),.val (.slice none 0 0),.val (.slice none 0 0),.val (.slice none 0 0),.val (.slice none 0 0),.val (.slice none 0 0),.val (.slice none 0 0)]]),(1,.mix 7 [[.val (.int .i64 v1.n),.own 2 0 v1.fr.length,.own 3 0 v1.to.length,.own 4 0 v1.id.length,.own 5 0 v1.cs.length,.own 6 0 b2.1.length,.own 7 0 b28.length]]),(2,.row 1 (Is v1.fr)),(3,.row 1 (Is v1.to)),(4,.row 1 (Is v1.id)),(5,.row 1 (Ls v1.cs)),(6,.row 1 (Is b2.1)),(7,.row 1 (Ls b28)),(8,.row 1 (Ls b2.2.1)),(9,.row 1 (Ls b2.2.2))],10⟩) (fun b28=>b28=e28) ?_ ?_
 ·refine Q7 ?_
  refine Q1k h (fun s39:List (List Int) × Int=>⟨[(0,.rptr (SF.cells true f_)),(1,.rptr (SF.cells true g_)),(4,.adr 0 0 0),(7,.adr 1 0 0),(8,.own 8 0 b2.2.1.length),(9,.own 9 0 b2.2.2.length),(67,.val (.int .i64 (f_.ac.length:Int))),(68,.val (.int .i64 s39.2))],[(0,.mix 7 [[.val (.int .i64 0),.val (.slice none 0 0),.val (.slice none 0 0),.val (.slice none 0 0),.val (.slice none 0 0),.val (.slice none 0 0),.val (.slice none 0 0)]]),(1,.mix 7 [[.val (.int .i64 v1.n),.own 2 0 v1.fr.length,.own 3 0 v1.to.length,.own 4 0 v1.id.length,.own 5 0 v1.cs.length,.own 6 0 b2.1.length,.own 7 0 s39.1.length]]),(2,.row 1 (Is v1.fr)),(3,.row 1 (Is v1.to)),(4,.row 1 (Is v1.id)),(5,.row 1 (Ls v1.cs)),(6,.row 1 (Is b2.1)),(7,.row 1 (Ls s39.1)),(8,.row 1 (Ls b2.2.1)),(9,.row 1 (Ls b2.2.2))],10⟩) (Q4D ⟨[(0,.rptr (SF.cells true f_)),(1,.rptr (SF.cells true g_)),(4,.adr 0 0 0),(7,.adr 1 0 0),(8,.own 7 0 b2.2.1.length),(9,.own 8 0 b2.2.2.length),(67,.val (.int .i64 (f_.ac.length:Int))),(68,.val (.int .i64 0))],[(0,.mix 7 [[.val (.int .i64 0),.val (.slice none 0 0),.val (.slice none 0 0),.val (.slice none 0 0),.val (.slice none 0 0),.val (.slice none 0 0),.val (.slice none 0 0)]]),(1,.mix 7 [[.val (.int .i64 v1.n),.own 2 0 v1.fr.length,.own 3 0 v1.to.length,.own 4 0 v1.id.length,.own 5 0 v1.cs.length,.own 6 0 b2.1.length,.own 9 0 0]]),(2,.row 1 (Is v1.fr)),(3,.row 1 (Is v1.to)),(4,.row 1 (Is v1.id)),(5,.row 1 (Ls v1.cs)),(6,.row 1 (Is b2.1)),(7,.row 1 (Ls b2.2.1)),(8,.row 1 (Ls b2.2.2)),(9,.row 1 (Ls []))],10⟩ (Wk.nils [(9,1)] (by simp) (by simp) (by simp [nlA]) (by simp [entN,nlL,nlA,Cat.cells,SF.cells,UA,U1,IA,I1,LA,L1,BA,B1,EA,E1,E2,eB,eI,eL]) (by simp)) (wkQ9 [(0,0),(1,1),(2,2),(3,3),(4,4),(5,5),(6,6),(9,7),(7,8),(8,9)])) ?_
  clear h
  intro k39 s39 c39 h hk39
  refine Q2 ?_
  refine runQ hN fun K hK=>?_
  simp [-Q1,-Qh,-Q9,-Qi,-Qa,eL,eI,Q4,Qr,Qj,Cat.cells,SF.cells]
  repeat with_reducible refine sdQ ?_
  refine hK _ ?_;clear hK K
  refine tn ?_
  refine Qf (st':=⟨[(0,.rptr (SF.cells true f_)),(1,.rptr (SF.cells true g_)),(4,.adr 0 0 0),(7,.adr 1 0 0),(8,.own 8 0 b2.2.1.length),(9,.own 9 0 b2.2.2.length),(67,.val (.int .i64 (f_.ac.length:Int))),(68,.val (.int .i64 s39.2)),(69,.val (.bool (decide (s39.2<(f_.ac.length:Int)))))],[(0,.mix 7 [[.val (.int .i64 0),.val (.slice none 0 0),.val (.slice none 0 0),.val (.slice none 0 0),.val (.slice none 0 0),.val (.slice none 0 0),.val (.slice none 0 0)]]),(1,.mix 7 [[.val (.int .i64 v1.n),.own 2 0 v1.fr.length,.own 3 0 v1.to.length,.own 4 0 v1.id.length,.own 5 0 v1.cs.length,.own 6 0 b2.1.length,.own 7 0 s39.1.length]]),(2,.row 1 (Is v1.fr)),(3,.row 1 (Is v1.to)),(4,.row 1 (Is v1.id)),(5,.row 1 (Ls v1.cs)),(6,.row 1 (Is b2.1)),(7,.row 1 (Ls s39.1)),(8,.row 1 (Ls b2.2.1)),(9,.row 1 (Ls b2.2.2))],10⟩) (wkQ9 [(0,0),(1,1),(2,2),(3,3),(4,4),(5,5),(6,6),(7,7),(8,8),(9,9)]) ?_
  refine Q2 ?_
  refine Q5 rfl (fun g=>?_) fun g=>?_
  ·have g40:s39.2<(f_.ac.length:Int):=gQ
   clear g
   replace h:=if_l g40 h
   refine Q6 ?_
   refine tn ?_
   refine Q2 ?_
   refine Q7 ?_
   refine Q2 ?_
   refine runQ hN fun K hK=>?_
   simp [-Q1,-Qh,-Q9,-Qi,-Qa,eL,eI,Q4,Qr,Qj,Cat.cells,SF.cells]
   repeat with_reducible refine sdQ ?_
   refine hK _ ?_;clear hK K
   refine tn ?_
   refine Qf (st':=⟨[(0,.rptr (SF.cells true f_)),(1,.rptr (SF.cells true g_)),(4,.adr 0 0 0),(7,.adr 1 0 0),(8,.own 8 0 b2.2.1.length),(9,.own 9 0 b2.2.2.length),(12,.val (.int .i64 s39.2)),(67,.val (.int .i64 (f_.ac.length:Int))),(68,.val (.int .i64 s39.2))],[(0,.mix 7 [[.val (.int .i64 0),.val (.slice none 0 0),.val (.slice none 0 0),.val (.slice none 0 0),.val (.slice none 0 0),.val (.slice none 0 0),.val (.slice none 0 0)]]),(1,.mix 7 [[.val (.int .i64 v1.n),.own 2 0 v1.fr.length,.own 3 0 v1.to.length,.own 4 0 v1.id.length,.own 5 0 v1.cs.length,.own 6 0 b2.1.length,.own 7 0 s39.1.length]]),(2,.row 1 (Is v1.fr)),(3,.row 1 (Is v1.to)),(4,.row 1 (Is v1.id)),(5,.row 1 (Ls v1.cs)),(6,.row 1 (Is b2.1)),(7,.row 1 (Ls s39.1)),(8,.row 1 (Ls b2.2.1)),(9,.row 1 (Ls b2.2.2))],10⟩) (wkQ9 [(0,0),(1,1),(2,2),(3,3),(4,4),(5,5),(6,6),(7,7),(8,8),(9,9)]) ?_
   refine w_runXK [] [7] 32 mo (by rw [hN];decide) fun K hK=>?_
   replace h:=Qc h
   obtain ⟨a41,h⟩:=h
   simp [-Q1,-Qh,-Q9,-Qi,-Qa,eL,eI,Q4,Qr,Qj,Cat.cells,SF.cells,at_L a41]
   repeat with_reducible refine sdQ ?_
   replace h:=bind_some h
   obtain ⟨v42,hv42,h⟩:=h
   refine Q3w (fz:=[]) (Q5l _ v42 hv42) (.cons .lst .nil) ?_
   replace h:=Qc h
   obtain ⟨a43,h⟩:=h
   replace h:=Qc h
   obtain ⟨a44,h⟩:=h
   replace h:=Qc h
   obtain ⟨a45,h⟩:=h
   simp [-Q1,-Qh,-Q9,-Qi,-Qa,unk,unA,unE,unT,unC,flat,eL,eI,Q4,Qr,Qj,Cat.cells,SF.cells,at_L a41,at_L a43,at_I a44,at_I a45]
   repeat with_reducible refine sdQ ?_
   replace h:=bind_some h
   obtain ⟨v46,hv46,h⟩:=h
   refine Q3w (fz:=[]) (Q3S _ _ v46 hv46) (.cons .lst (.cons .val .nil)) ?_
   replace h:=Qc h
   obtain ⟨a47,h⟩:=h
   try simp only [List.length_append,List.length_cons,List.length_nil] at a47
   replace h:=Qc h
   obtain ⟨a48,h⟩:=h
   try simp only [List.length_append,List.length_cons,List.length_nil] at a48
   simp [-Q1,-Qh,-Q9,-Qi,-Qa,unk,unA,unE,unT,unC,flat,eL,eI,Q4,Qr,Qj,Cat.cells,SF.cells,at_L a41,at_L a43,at_I a44,at_I a45,↓Q5p,a47,a48]
   repeat with_reducible refine sdQ ?_
   refine hK _ ?_ (by rfl)
   clear hK K
   refine bn ?_
   refine tn ?_
   refine Qf (st':=⟨[(0,.rptr (SF.cells true f_)),(1,.rptr (SF.cells true g_)),(4,.adr 0 0 0),(7,.adr 1 0 0),(8,.own 8 0 b2.2.1.length),(9,.own 9 0 b2.2.2.length),(67,.val (.int .i64 (f_.ac.length:Int))),(68,.val (.int .i64 s39.2))],[(0,.mix 7 [[.val (.int .i64 0),.val (.slice none 0 0),.val (.slice none 0 0),.val (.slice none 0 0),.val (.slice none 0 0),.val (.slice none 0 0),.val (.slice none 0 0)]]),(1,.mix 7 [[.val (.int .i64 v1.n),.own 2 0 v1.fr.length,.own 3 0 v1.to.length,.own 4 0 v1.id.length,.own 5 0 v1.cs.length,.own 6 0 b2.1.length,.own 7 0 ((s39.1++[v42++v46]).length)]]),(2,.row 1 (Is v1.fr)),(3,.row 1 (Is v1.to)),(4,.row 1 (Is v1.id)),(5,.row 1 (Ls v1.cs)),(6,.row 1 (Is b2.1)),(7,.row 1 (Ls (s39.1++[v42++v46]))),(8,.row 1 (Ls b2.2.1)),(9,.row 1 (Ls b2.2.2))],10⟩) (wkQ9 [(0,0),(1,1),(2,2),(3,3),(4,4),(5,5),(6,6),(14,7),(8,8),(9,9)]) ?_
   refine runQ hN fun K hK=>?_
   replace h:=Qc h
   obtain ⟨a49,h⟩:=h
   simp [-Q1,-Qh,-Q9,-Qi,-Qa,eL,eI,Q4,Qr,Qj,Cat.cells,SF.cells,QA a49]
   repeat with_reducible refine sdQ ?_
   refine hK _ ?_;clear hK K
   cases h
   exact rn (s':=(s39.1++[v42++v46],s39.2+1)) hk39 (wkQ9 [(0,0),(1,1),(2,2),(3,3),(4,4),(5,5),(6,6),(7,7),(8,8),(9,9)])
  have g40:¬ (s39.2<(f_.ac.length:Int)):=gQ
  clear g
  replace h:=if_r g40 h
  refine Qm ?_
  refine tx ?_
  refine lx ?_
  refine bh ?_
  cases h
  exact jn (b:=s39.1) hk39 (wkQ9 [(0,0),(1,1),(2,2),(3,3),(4,4),(5,5),(6,6),(7,7),(8,8),(9,9)])
 intro b28 hb28
 have h:=h28
 rw [← hb28] at h
 clear h28
 try dsimp only at h
 refine Q2 ?_
 refine runQ hN fun K hK=>?_
 simp [-Q1,-Qh,-Q9,-Qi,-Qa,eL,eI,Q4,Qr,Qj,Cat.cells,SF.cells]
 repeat with_reducible refine sdQ ?_
 refine hK _ ?_;clear hK K
 refine tn ?_
 refine Qf (st':=⟨[(4,.adr 0 0 0),(5,.own 7 0 b2.2.1.length),(6,.own 8 0 b2.2.2.length)],[(0,.mix 7 [[.val (.int .i64 v1.n),.own 1 0 v1.fr.length,.own 2 0 v1.to.length,.own 3 0 v1.id.length,.own 4 0 v1.cs.length,.own 5 0 b2.1.length,.own 6 0 b28.length]]),(1,.row 1 (Is v1.fr)),(2,.row 1 (Is v1.to)),(3,.row 1 (Is v1.id)),(4,.row 1 (Ls v1.cs)),(5,.row 1 (Is b2.1)),(6,.row 1 (Ls b28)),(7,.row 1 (Ls b2.2.1)),(8,.row 1 (Ls b2.2.2))],9⟩) (wkQ9 [(0,0),(2,1),(3,2),(4,3),(5,4),(6,5),(7,6),(8,7),(9,8)]) ?_
 refine Qe ?_
 have hr:=Option.some.inj h
 rw [← hr]
 refine ⟨_,(.cell tf_94 rfl rfl rfl (by simp) (by simp) (.tmp (.tmp .nil))),?_⟩
 refine ⟨(.agg rfl (.one rfl rfl (.one rfl rfl .nil))),[.val (.int .i64 v1.n),.lst true 1 (Is v1.fr),.lst true 1 (Is v1.to),.lst true 1 (Is v1.id),.lst true 1 (Ls v1.cs),.lst true 1 (Is b2.1),.lst true 1 (Ls b28),.lst true 1 (Ls b2.2.1),.lst true 1 (Ls b2.2.2)],[1,2,3,4,5,6,7,8],by simp [Cat.cells,SF.cells,UA,U1,IA,I1,LA,L1,BA,B1,EA,E1,E2,eB,eI,eL],by simp,(UpL.refl _)⟩
end Go.Vc.T
namespace Go.Vc.T
open Go Go.Vc Go.Proofs
noncomputable def QR (s_:SM) (t_:SM):Option (SM × Int) :=
 (Q1c [s_,t_]).bind fun v1 =>
 if ¬ (v1=true) then
  some ((⟨(⟨(⟨0,[],[],[],[]⟩:Cat),[],[]⟩:SF),(⟨(⟨0,[],[],[],[]⟩:Cat),[],[]⟩:SF),[]⟩:SM),1)
 else
  (Q1F s_.t t_.t).bind fun v3 =>
  if ¬ (v3=true) then
   some ((⟨(⟨(⟨0,[],[],[],[]⟩:Cat),[],[]⟩:SF),(⟨(⟨0,[],[],[],[]⟩:Cat),[],[]⟩:SF),[]⟩:SM),5)
  else
   (Q1v s_.s t_.s).bind fun v5 =>
   (Q1Y v5.1.sz).bind fun v6 =>
   if ¬ (v6=true) then
    some ((⟨(⟨(⟨0,[],[],[],[]⟩:Cat),[],[]⟩:SF),(⟨(⟨0,[],[],[],[]⟩:Cat),[],[]⟩:SF),[]⟩:SM),3)
   else
    (QX (σ:=List (List Int) × Int) (ε:=List (List Int)) (fun s16 =>
     if s16.2<(s_.p.length:Int) then
      ass (0≤s16.2∧s16.2<(s_.p.length:Int)) <|
      (Q1O (rx s_.p s16.2)).bind fun v19 =>
      ass (0≤s16.2∧s16.2<(t_.p.length:Int)) <|
      ass ((v19++(rx t_.p s16.2)).length≤1073741824) <|
      ass ((s16.1++[v19++(rx t_.p s16.2)]).length≤1073741824) <|
      ass (B64 (s16.2+1)) <|
      some (Ctl.next (s16.1++[v19++(rx t_.p s16.2)],s16.2+1))
     else
      some (Ctl.ret s16.1)) fuel ([],0)).bind fun b8 =>
    (Q2j v5.1 s_.t b8).bind fun v24 =>
    some (v24,0)
theorem Q34 (s_:SM) (t_:SM) (r:SM × Int) (h:QR s_ t_=some r):Contract Try.prog 58 [.agg (s_.cells true),.agg (t_.cells true)] (.tup [.agg (r.1.cells true),.val (.int .i64 r.2)]):=by
 refine Qs (rvs:=[.cell 4 96,.tmp 5]) (rs:=[.agg (r.1.cells true),.val (.int .i64 r.2)]) Try.func58 rfl rfl rfl rfl (by simp [Try.f58]) fun F hN hP=>?_
 unfold QR at h
 refine Q2 ?_
 refine runQ hN fun K hK=>?_
 simp [-Q1,-Qh,-Q9,-Qi,-Qa,eL,eI,Q4,Qj,Qt,SF.cells,SM.cells]
 repeat with_reducible refine sdQ ?_
 refine hK _ ?_;clear hK K
 refine tn ?_
 refine Qf (st':=⟨[(2,.adr 0 0 0),(3,.adr 1 0 0),(4,.adr 2 0 0)],[(0,.mix 15 [(SM.cells true s_)]),(1,.mix 15 [(SM.cells true t_)]),(2,.mix 15 [[.val (.int .i64 0),.val (.slice none 0 0),.val (.slice none 0 0),.val (.slice none 0 0),.val (.slice none 0 0),.val (.slice none 0 0),.val (.slice none 0 0),.val (.int .i64 0),.val (.slice none 0 0),.val (.slice none 0 0),.val (.slice none 0 0),.val (.slice none 0 0),.val (.slice none 0 0),.val (.slice none 0 0),.val (.slice none 0 0)]])],3⟩) (wkQ9 [(0,0),(1,1),(2,2)]) ?_
 refine Q2 ?_
 refine Q2 ?_
 refine runQ hN fun K hK=>?_
 simp [-Q1,-Qh,-Q9,-Qi,-Qa,eL,eI,Q4,Qj,Qt,SF.cells,SM.cells]
 repeat with_reducible refine sdQ ?_
 replace h:=bind_some h
 obtain ⟨v1,hv1,h⟩:=h
 refine Q0 (Q41 _ v1 hv1) (.cons (.lits (es:=_) rfl (.cons rfl (.cons (.field rfl (by simp [SM.cells]) (.cons .val (.cons .lst (.cons .lst (.cons .lst (.cons .lst (.cons .lst (.cons .lst (.cons .val (.cons .lst (.cons .lst (.cons .lst (.cons .lst (.cons .lst (.cons .lst (.cons .lst .nil)))))))))))))))) .nil) (.cons rfl (.cons (.field rfl (by simp [SM.cells]) (.cons .val (.cons .lst (.cons .lst (.cons .lst (.cons .lst (.cons .lst (.cons .lst (.cons .val (.cons .lst (.cons .lst (.cons .lst (.cons .lst (.cons .lst (.cons .lst (.cons .lst .nil)))))))))))))))) .nil) .nil)) rfl) .nil) ?_
 simp [-Q1,-Qh,-Q9,-Qi,-Qa,unk,unA,unE,unT,unC,flat,eL,eI,Q4,Qj,Qt,SF.cells,SM.cells]
 repeat with_reducible refine sdQ ?_
 refine hK _ ?_;clear hK K
 refine tn ?_
 refine Qf (st':=⟨[(2,.adr 0 0 0),(3,.adr 1 0 0),(4,.adr 2 0 0),(13,.val (.bool (!v1)))],[(0,.mix 15 [(SM.cells true s_)]),(1,.mix 15 [(SM.cells true t_)]),(2,.mix 15 [[.val (.int .i64 0),.val (.slice none 0 0),.val (.slice none 0 0),.val (.slice none 0 0),.val (.slice none 0 0),.val (.slice none 0 0),.val (.slice none 0 0),.val (.int .i64 0),.val (.slice none 0 0),.val (.slice none 0 0),.val (.slice none 0 0),.val (.slice none 0 0),.val (.slice none 0 0),.val (.slice none 0 0),.val (.slice none 0 0)]])],3⟩) (wkQ9 [(0,0),(1,1),(2,2)]) ?_
 refine Q5 rfl (fun g=>?_) fun g=>?_
 ·have g2:¬ (v1=true):=gQ
  clear g
  replace h:=if_l g2 h
  refine Q2 ?_
  refine runQ hN fun K hK=>?_
  simp [-Q1,-Qh,-Q9,-Qi,-Qa,eL,eI,Q4,Qj,Qt,SF.cells,SM.cells]
  repeat with_reducible refine sdQ ?_
  refine hK _ ?_;clear hK K
  refine tn ?_
  refine Qf (st':=⟨[(4,.adr 0 0 0),(5,.val (.int .i64 1))],[(0,.mix 15 [[.val (.int .i64 0),.val (.slice none 0 0),.val (.slice none 0 0),.val (.slice none 0 0),.val (.slice none 0 0),.val (.slice none 0 0),.val (.slice none 0 0),.val (.int .i64 0),.val (.slice none 0 0),.val (.slice none 0 0),.val (.slice none 0 0),.val (.slice none 0 0),.val (.slice none 0 0),.val (.slice none 0 0),.val (.slice none 0 0)]])],1⟩) (wkQ9 [(2,0)]) ?_
  refine Qe ?_
  refine tr ?_
  have hr:=Option.some.inj h
  rw [← hr]
  refine ⟨_,(.cell Q4C rfl rfl rfl (by simp) (by simp) (.tmp .nil)),?_⟩
  refine ⟨(.agg rfl (.one rfl rfl .nil)),[.val (.int .i64 0),.val (.slice none 0 0),.val (.slice none 0 0),.val (.slice none 0 0),.val (.slice none 0 0),.val (.slice none 0 0),.val (.slice none 0 0),.val (.int .i64 0),.val (.slice none 0 0),.val (.slice none 0 0),.val (.slice none 0 0),.val (.slice none 0 0),.val (.slice none 0 0),.val (.slice none 0 0),.val (.slice none 0 0),.val (.int .i64 1)],[],by simp [SF.cells,SM.cells,UA,U1,IA,I1,LA,L1,BA,B1,EA,E1,E2,eB,eI,eL],by simp,(.cons .refl (.cons .nil (.cons .nil (.cons .nil (.cons .nil (.cons .nil (.cons .nil (.cons .refl (.cons .nil (.cons .nil (.cons .nil (.cons .nil (.cons .nil (.cons .nil (.cons .nil (.cons .refl .nil))))))))))))))))⟩
 have g2:¬ (¬ (v1=true)):=gQ
 clear g
 replace h:=if_r g2 h
 refine Q6 ?_
 refine tn ?_
 refine Q2 ?_
 refine Q2 ?_
 refine runQ hN fun K hK=>?_
 simp [-Q1,-Qh,-Q9,-Qi,-Qa,eL,eI,Q4,Qj,Qt,SF.cells,SM.cells]
 repeat with_reducible refine sdQ ?_
 replace h:=bind_some h
 obtain ⟨v3,hv3,h⟩:=h
 refine Q0 (Q5m _ _ v3 hv3) (.cons (.field rfl (by simp [SF.cells,SM.cells]) (.cons .val (.cons .lst (.cons .lst (.cons .lst (.cons .lst (.cons .lst (.cons .lst .nil)))))))) (.cons (.field rfl (by simp [SF.cells,SM.cells]) (.cons .val (.cons .lst (.cons .lst (.cons .lst (.cons .lst (.cons .lst (.cons .lst .nil)))))))) .nil)) ?_
 simp [-Q1,-Qh,-Q9,-Qi,-Qa,unk,unA,unE,unT,unC,flat,eL,eI,Q4,Qj,Qt,SF.cells,SM.cells]
 repeat with_reducible refine sdQ ?_
 refine hK _ ?_;clear hK K
 refine tn ?_
 refine Qf (st':=⟨[(2,.adr 0 0 0),(3,.adr 1 0 0),(4,.adr 2 0 0),(18,.val (.bool (!v3)))],[(0,.mix 15 [(SM.cells true s_)]),(1,.mix 15 [(SM.cells true t_)]),(2,.mix 15 [[.val (.int .i64 0),.val (.slice none 0 0),.val (.slice none 0 0),.val (.slice none 0 0),.val (.slice none 0 0),.val (.slice none 0 0),.val (.slice none 0 0),.val (.int .i64 0),.val (.slice none 0 0),.val (.slice none 0 0),.val (.slice none 0 0),.val (.slice none 0 0),.val (.slice none 0 0),.val (.slice none 0 0),.val (.slice none 0 0)]])],3⟩) (wkQ9 [(0,0),(1,1),(2,2)]) ?_
 refine Q5 rfl (fun g=>?_) fun g=>?_
 ·have g4:¬ (v3=true):=gQ
  clear g
  replace h:=if_l g4 h
  refine Q2 ?_
  refine runQ hN fun K hK=>?_
  simp [-Q1,-Qh,-Q9,-Qi,-Qa,eL,eI,Q4,Qj,Qt,SF.cells,SM.cells]
  repeat with_reducible refine sdQ ?_
  refine hK _ ?_;clear hK K
  refine tn ?_
  refine Qf (st':=⟨[(4,.adr 0 0 0),(5,.val (.int .i64 5))],[(0,.mix 15 [[.val (.int .i64 0),.val (.slice none 0 0),.val (.slice none 0 0),.val (.slice none 0 0),.val (.slice none 0 0),.val (.slice none 0 0),.val (.slice none 0 0),.val (.int .i64 0),.val (.slice none 0 0),.val (.slice none 0 0),.val (.slice none 0 0),.val (.slice none 0 0),.val (.slice none 0 0),.val (.slice none 0 0),.val (.slice none 0 0)]])],1⟩) (wkQ9 [(2,0)]) ?_
  refine Qe ?_
  refine tr ?_
  have hr:=Option.some.inj h
  rw [← hr]
  refine ⟨_,(.cell Q4C rfl rfl rfl (by simp) (by simp) (.tmp .nil)),?_⟩
  refine ⟨(.agg rfl (.one rfl rfl .nil)),[.val (.int .i64 0),.val (.slice none 0 0),.val (.slice none 0 0),.val (.slice none 0 0),.val (.slice none 0 0),.val (.slice none 0 0),.val (.slice none 0 0),.val (.int .i64 0),.val (.slice none 0 0),.val (.slice none 0 0),.val (.slice none 0 0),.val (.slice none 0 0),.val (.slice none 0 0),.val (.slice none 0 0),.val (.slice none 0 0),.val (.int .i64 5)],[],by simp [SF.cells,SM.cells,UA,U1,IA,I1,LA,L1,BA,B1,EA,E1,E2,eB,eI,eL],by simp,(.cons .refl (.cons .nil (.cons .nil (.cons .nil (.cons .nil (.cons .nil (.cons .nil (.cons .refl (.cons .nil (.cons .nil (.cons .nil (.cons .nil (.cons .nil (.cons .nil (.cons .nil (.cons .refl .nil))))))))))))))))⟩
 have g4:¬ (¬ (v3=true)):=gQ
 clear g
 replace h:=if_r g4 h
 refine Q6 ?_
 refine tn ?_
 refine Q2 ?_
 refine runQ hN fun K hK=>?_
 simp [-Q1,-Qh,-Q9,-Qi,-Qa,eL,eI,Q4,Qj,Qt,SF.cells,SM.cells]
 repeat with_reducible refine sdQ ?_
 replace h:=bind_some h
 obtain ⟨v5,hv5,h⟩:=h
 refine Q0 (Q5X _ _ v5 hv5) (.cons (.field rfl (by simp [SF.cells,SM.cells]) (.cons .val (.cons .lst (.cons .lst (.cons .lst (.cons .lst (.cons .lst (.cons .lst .nil)))))))) (.cons (.field rfl (by simp [SF.cells,SM.cells]) (.cons .val (.cons .lst (.cons .lst (.cons .lst (.cons .lst (.cons .lst (.cons .lst .nil)))))))) .nil)) ?_
 simp [-Q1,-Qh,-Q9,-Qi,-Qa,unk,unA,unE,unT,unC,flat,eL,eI,Q4,Qj,Qt,SF.cells,SM.cells]
 repeat with_reducible refine sdQ ?_
 refine hK _ ?_;clear hK K
 refine tn ?_
 refine Qf (st':=⟨[(2,.adr 0 0 0),(3,.adr 1 0 0),(4,.adr 2 0 0),(6,.adr 3 0 0)],[(0,.mix 15 [(SM.cells true s_)]),(1,.mix 15 [(SM.cells true t_)]),(2,.mix 15 [[.val (.int .i64 0),.val (.slice none 0 0),.val (.slice none 0 0),.val (.slice none 0 0),.val (.slice none 0 0),.val (.slice none 0 0),.val (.slice none 0 0),.val (.int .i64 0),.val (.slice none 0 0),.val (.slice none 0 0),.val (.slice none 0 0),.val (.slice none 0 0),.val (.slice none 0 0),.val (.slice none 0 0),.val (.slice none 0 0)]]),(3,.mix 7 [[.val (.int .i64 v5.1.s.n),.own 4 0 v5.1.s.fr.length,.own 5 0 v5.1.s.to.length,.own 6 0 v5.1.s.id.length,.own 7 0 v5.1.s.cs.length,.own 8 0 v5.1.sz.length,.own 9 0 v5.1.ac.length]]),(4,.row 1 (Is v5.1.s.fr)),(5,.row 1 (Is v5.1.s.to)),(6,.row 1 (Is v5.1.s.id)),(7,.row 1 (Ls v5.1.s.cs)),(8,.row 1 (Is v5.1.sz)),(9,.row 1 (Ls v5.1.ac))],10⟩) (wkQ9 [(0,0),(1,1),(2,2),(12,3),(4,4),(5,5),(6,6),(7,7),(8,8),(9,9)]) ?_
 refine Q2 ?_
 refine Q2 ?_
 refine runQ hN fun K hK=>?_
 simp [-Q1,-Qh,-Q9,-Qi,-Qa,eL,eI,Q4,Qj,Qt,SF.cells,SM.cells]
 repeat with_reducible refine sdQ ?_
 replace h:=bind_some h
 obtain ⟨v6,hv6,h⟩:=h
 refine Q0 (Q5W _ v6 hv6) (.cons (.whole (by simp) (by simp) (by simp)) .nil) ?_
 simp [-Q1,-Qh,-Q9,-Qi,-Qa,unk,unA,unE,unT,unC,flat,eL,eI,Q4,Qj,Qt,SF.cells,SM.cells]
 repeat with_reducible refine sdQ ?_
 refine hK _ ?_;clear hK K
 refine tn ?_
 refine Qf (st':=⟨[(2,.adr 0 0 0),(3,.adr 1 0 0),(4,.adr 2 0 0),(6,.adr 3 0 0),(30,.val (.bool (!v6)))],[(0,.mix 15 [(SM.cells true s_)]),(1,.mix 15 [(SM.cells true t_)]),(2,.mix 15 [[.val (.int .i64 0),.val (.slice none 0 0),.val (.slice none 0 0),.val (.slice none 0 0),.val (.slice none 0 0),.val (.slice none 0 0),.val (.slice none 0 0),.val (.int .i64 0),.val (.slice none 0 0),.val (.slice none 0 0),.val (.slice none 0 0),.val (.slice none 0 0),.val (.slice none 0 0),.val (.slice none 0 0),.val (.slice none 0 0)]]),(3,.mix 7 [[.val (.int .i64 v5.1.s.n),.own 4 0 v5.1.s.fr.length,.own 5 0 v5.1.s.to.length,.own 6 0 v5.1.s.id.length,.own 7 0 v5.1.s.cs.length,.own 8 0 v5.1.sz.length,.own 9 0 v5.1.ac.length]]),(4,.row 1 (Is v5.1.s.fr)),(5,.row 1 (Is v5.1.s.to)),(6,.row 1 (Is v5.1.s.id)),(7,.row 1 (Ls v5.1.s.cs)),(8,.row 1 (Is v5.1.sz)),(9,.row 1 (Ls v5.1.ac))],10⟩) (wkQ9 [(0,0),(1,1),(2,2),(3,3),(4,4),(5,5),(6,6),(7,7),(8,8),(9,9)]) ?_
 refine Q5 rfl (fun g=>?_) fun g=>?_
 ·have g7:¬ (v6=true):=gQ
  clear g
  replace h:=if_l g7 h
  refine Q2 ?_
  refine runQ hN fun K hK=>?_
  simp [-Q1,-Qh,-Q9,-Qi,-Qa,eL,eI,Q4,Qj,Qt,SF.cells,SM.cells]
  repeat with_reducible refine sdQ ?_
  refine hK _ ?_;clear hK K
  refine tn ?_
  refine Qf (st':=⟨[(4,.adr 0 0 0),(5,.val (.int .i64 3))],[(0,.mix 15 [[.val (.int .i64 0),.val (.slice none 0 0),.val (.slice none 0 0),.val (.slice none 0 0),.val (.slice none 0 0),.val (.slice none 0 0),.val (.slice none 0 0),.val (.int .i64 0),.val (.slice none 0 0),.val (.slice none 0 0),.val (.slice none 0 0),.val (.slice none 0 0),.val (.slice none 0 0),.val (.slice none 0 0),.val (.slice none 0 0)]])],1⟩) (wkQ9 [(2,0)]) ?_
  refine Qe ?_
  refine tr ?_
  have hr:=Option.some.inj h
  rw [← hr]
  refine ⟨_,(.cell Q4C rfl rfl rfl (by simp) (by simp) (.tmp .nil)),?_⟩
  refine ⟨(.agg rfl (.one rfl rfl .nil)),[.val (.int .i64 0),.val (.slice none 0 0),.val (.slice none 0 0),.val (.slice none 0 0),.val (.slice none 0 0),.val (.slice none 0 0),.val (.slice none 0 0),.val (.int .i64 0),.val (.slice none 0 0),.val (.slice none 0 0),.val (.slice none 0 0),.val (.slice none 0 0),.val (.slice none 0 0),.val (.slice none 0 0),.val (.slice none 0 0),.val (.int .i64 3)],[],by simp [SF.cells,SM.cells,UA,U1,IA,I1,LA,L1,BA,B1,EA,E1,E2,eB,eI,eL],by simp,(.cons .refl (.cons .nil (.cons .nil (.cons .nil (.cons .nil (.cons .nil (.cons .nil (.cons .refl (.cons .nil (.cons .nil (.cons .nil (.cons .nil (.cons .nil (.cons .nil (.cons .nil (.cons .refl .nil))))))))))))))))⟩
 have g7:¬ (¬ (v6=true)):=gQ
 clear g
 replace h:=if_r g7 h
 refine Q6 ?_
 refine tn ?_
 refine Q2 ?_
 refine runQ hN fun K hK=>?_
 simp [-Q1,-Qh,-Q9,-Qi,-Qa,eL,eI,Q4,Qj,Qt,SF.cells,SM.cells]
 repeat with_reducible refine sdQ ?_
 refine hK _ ?_;clear hK K
 refine tn ?_
 refine Qf (st':=⟨[(2,.adr 0 0 0),(3,.adr 1 0 0),(4,.adr 2 0 0),(6,.adr 3 0 0),(9,.own 10 0 0)],[(0,.mix 15 [(SM.cells true s_)]),(1,.mix 15 [(SM.cells true t_)]),(2,.mix 15 [[.val (.int .i64 0),.val (.slice none 0 0),.val (.slice none 0 0),.val (.slice none 0 0),.val (.slice none 0 0),.val (.slice none 0 0),.val (.slice none 0 0),.val (.int .i64 0),.val (.slice none 0 0),.val (.slice none 0 0),.val (.slice none 0 0),.val (.slice none 0 0),.val (.slice none 0 0),.val (.slice none 0 0),.val (.slice none 0 0)]]),(3,.mix 7 [[.val (.int .i64 v5.1.s.n),.own 4 0 v5.1.s.fr.length,.own 5 0 v5.1.s.to.length,.own 6 0 v5.1.s.id.length,.own 7 0 v5.1.s.cs.length,.own 8 0 v5.1.sz.length,.own 9 0 v5.1.ac.length]]),(4,.row 1 (Is v5.1.s.fr)),(5,.row 1 (Is v5.1.s.to)),(6,.row 1 (Is v5.1.s.id)),(7,.row 1 (Ls v5.1.s.cs)),(8,.row 1 (Is v5.1.sz)),(9,.row 1 (Ls v5.1.ac)),(10,.mix 1 [])],11⟩) (wkQ9 [(0,0),(1,1),(2,2),(3,3),(4,4),(5,5),(6,6),(7,7),(8,8),(9,9),(10,10)]) ?_
 refine Q2 ?_
 refine Q2 ?_
 refine runQ hN fun K hK=>?_
 simp [-Q1,-Qh,-Q9,-Qi,-Qa,eL,eI,Q4,Qj,Qt,SF.cells,SM.cells]
 repeat with_reducible refine sdQ ?_
 refine hK _ ?_;clear hK K
 refine tn ?_
 refine Qf (st':=⟨[(2,.adr 0 0 0),(3,.adr 1 0 0),(4,.adr 2 0 0),(6,.adr 3 0 0),(9,.own 10 0 0),(35,.val (.int .i64 (s_.p.length:Int))),(36,.val (.int .i64 0))],[(0,.mix 15 [(SM.cells true s_)]),(1,.mix 15 [(SM.cells true t_)]),(2,.mix 15 [[.val (.int .i64 0),.val (.slice none 0 0),.val (.slice none 0 0),.val (.slice none 0 0),.val (.slice none 0 0),.val (.slice none 0 0),.val (.slice none 0 0),.val (.int .i64 0),.val (.slice none 0 0),.val (.slice none 0 0),.val (.slice none 0 0),.val (.slice none 0 0),.val (.slice none 0 0),.val (.slice none 0 0),.val (.slice none 0 0)]]),(3,.mix 7 [[.val (.int .i64 v5.1.s.n),.own 4 0 v5.1.s.fr.length,.own 5 0 v5.1.s.to.length,.own 6 0 v5.1.s.id.length,.own 7 0 v5.1.s.cs.length,.own 8 0 v5.1.sz.length,.own 9 0 v5.1.ac.length]]),(4,.row 1 (Is v5.1.s.fr)),(5,.row 1 (Is v5.1.s.to)),(6,.row 1 (Is v5.1.s.id)),(7,.row 1 (Ls v5.1.s.cs)),(8,.row 1 (Is v5.1.sz)),(9,.row 1 (Ls v5.1.ac)),(10,.mix 1 [])],11⟩) (wkQ9 [(0,0),(1,1),(2,2),(3,3),(4,4),(5,5),(6,6),(7,7),(8,8),(9,9),(10,10)]) ?_
 replace h:=bind_some h
 obtain ⟨e8,h,h8⟩:=h
 refine Q13 (fun b8:List (List Int)=>⟨[(2,.adr 0 0 0),(4,.adr 1 0 0),(6,.adr 2 0 0),(9,.own 9 0 b8.length)],[(0,.mix 15 [(SM.cells true s_)]),(1,.mix 15 [[.val (.int .i64 0),.val (.slice none 0 0),.val (.slice none 0 0),.val (.slice none 0 0),.val (.slice none 0 0),.val (.slice none 0 0),.val (.slice none 0 0),.val (.int .i64 0),.val (.slice none 0 0),.val (.slice none 0 0),.val (.slice none 0 0),.val (.slice none 0 0),.val (.slice none 0 0),.val (.slice none 0 0),.val (.slice none 0 0)]]),(2,.mix 7 [[.val (.int .i64 v5.1.s.n),.own 3 0 v5.1.s.fr.length,.own 4 0 v5.1.s.to.length,.own 5 0 v5.1.s.id.length,.own 6 0 v5.1.s.cs.length,.own 7 0 v5.1.sz.length,.own 8 0 v5.1.ac.length]]),(3,.row 1 (Is v5.1.s.fr)),(4,.row 1 (Is v5.1.s.to)),(5,.row 1 (Is v5.1.s.id)),(6,.row 1 (Ls v5.1.s.cs)),(7,.row 1 (Is v5.1.sz)),(8,.row 1 (Ls v5.1.ac)),(9,.row 1 (Ls b8))],10⟩) (fun b8=>b8=e8) ?_ ?_
 ·refine Q7 ?_
  refine Q1k h (fun s16:List (List Int) × Int=>⟨[(2,.adr 0 0 0),(3,.adr 1 0 0),(4,.adr 2 0 0),(6,.adr 3 0 0),(9,.own 10 0 s16.1.length),(35,.val (.int .i64 (s_.p.length:Int))),(36,.val (.int .i64 s16.2))],[(0,.mix 15 [(SM.cells true s_)]),(1,.mix 15 [(SM.cells true t_)]),(2,.mix 15 [[.val (.int .i64 0),.val (.slice none 0 0),.val (.slice none 0 0),.val (.slice none 0 0),.val (.slice none 0 0),.val (.slice none 0 0),.val (.slice none 0 0),.val (.int .i64 0),.val (.slice none 0 0),.val (.slice none 0 0),.val (.slice none 0 0),.val (.slice none 0 0),.val (.slice none 0 0),.val (.slice none 0 0),.val (.slice none 0 0)]]),(3,.mix 7 [[.val (.int .i64 v5.1.s.n),.own 4 0 v5.1.s.fr.length,.own 5 0 v5.1.s.to.length,.own 6 0 v5.1.s.id.length,.own 7 0 v5.1.s.cs.length,.own 8 0 v5.1.sz.length,.own 9 0 v5.1.ac.length]]),(4,.row 1 (Is v5.1.s.fr)),(5,.row 1 (Is v5.1.s.to)),(6,.row 1 (Is v5.1.s.id)),(7,.row 1 (Ls v5.1.s.cs)),(8,.row 1 (Is v5.1.sz)),(9,.row 1 (Ls v5.1.ac)),(10,.row 1 (Ls s16.1))],11⟩) (Q4D ⟨[(2,.adr 0 0 0),(3,.adr 1 0 0),(4,.adr 2 0 0),(6,.adr 3 0 0),(9,.own 10 0 0),(35,.val (.int .i64 (s_.p.length:Int))),(36,.val (.int .i64 0))],[(0,.mix 15 [(SM.cells true s_)]),(1,.mix 15 [(SM.cells true t_)]),(2,.mix 15 [[.val (.int .i64 0),.val (.slice none 0 0),.val (.slice none 0 0),.val (.slice none 0 0),.val (.slice none 0 0),.val (.slice none 0 0),.val (.slice none 0 0),.val (.int .i64 0),.val (.slice none 0 0),.val (.slice none 0 0),.val (.slice none 0 0),.val (.slice none 0 0),.val (.slice none 0 0),.val (.slice none 0 0),.val (.slice none 0 0)]]),(3,.mix 7 [[.val (.int .i64 v5.1.s.n),.own 4 0 v5.1.s.fr.length,.own 5 0 v5.1.s.to.length,.own 6 0 v5.1.s.id.length,.own 7 0 v5.1.s.cs.length,.own 8 0 v5.1.sz.length,.own 9 0 v5.1.ac.length]]),(4,.row 1 (Is v5.1.s.fr)),(5,.row 1 (Is v5.1.s.to)),(6,.row 1 (Is v5.1.s.id)),(7,.row 1 (Ls v5.1.s.cs)),(8,.row 1 (Is v5.1.sz)),(9,.row 1 (Ls v5.1.ac)),(10,.row 1 (Ls []))],11⟩ (Wk.nils [] (by simp) (by simp) (by simp [nlA]) (by simp [entN,nlL,nlA,SF.cells,SM.cells,UA,U1,IA,I1,LA,L1,BA,B1,EA,E1,E2,eB,eI,eL]) (by simp)) (wkQ9 [(0,0),(1,1),(2,2),(3,3),(4,4),(5,5),(6,6),(7,7),(8,8),(9,9),(10,10)])) ?_
  clear h
  intro k16 s16 c16 h hk16
  refine Q2 ?_
  refine runQ hN fun K hK=>?_
  simp [-Q1,-Qh,-Q9,-Qi,-Qa,eL,eI,Q4,Qj,Qt,SF.cells,SM.cells]
  repeat with_reducible refine sdQ ?_
  refine hK _ ?_;clear hK K
  refine tn ?_
  refine Qf (st':=⟨[(2,.adr 0 0 0),(3,.adr 1 0 0),(4,.adr 2 0 0),(6,.adr 3 0 0),(9,.own 10 0 s16.1.length),(35,.val (.int .i64 (s_.p.length:Int))),(36,.val (.int .i64 s16.2)),(37,.val (.bool (decide (s16.2<(s_.p.length:Int)))))],[(0,.mix 15 [(SM.cells true s_)]),(1,.mix 15 [(SM.cells true t_)]),(2,.mix 15 [[.val (.int .i64 0),.val (.slice none 0 0),.val (.slice none 0 0),.val (.slice none 0 0),.val (.slice none 0 0),.val (.slice none 0 0),.val (.slice none 0 0),.val (.int .i64 0),.val (.slice none 0 0),.val (.slice none 0 0),.val (.slice none 0 0),.val (.slice none 0 0),.val (.slice none 0 0),.val (.slice none 0 0),.val (.slice none 0 0)]]),(3,.mix 7 [[.val (.int .i64 v5.1.s.n),.own 4 0 v5.1.s.fr.length,.own 5 0 v5.1.s.to.length,.own 6 0 v5.1.s.id.length,.own 7 0 v5.1.s.cs.length,.own 8 0 v5.1.sz.length,.own 9 0 v5.1.ac.length]]),(4,.row 1 (Is v5.1.s.fr)),(5,.row 1 (Is v5.1.s.to)),(6,.row 1 (Is v5.1.s.id)),(7,.row 1 (Ls v5.1.s.cs)),(8,.row 1 (Is v5.1.sz)),(9,.row 1 (Ls v5.1.ac)),(10,.row 1 (Ls s16.1))],11⟩) (wkQ9 [(0,0),(1,1),(2,2),(3,3),(4,4),(5,5),(6,6),(7,7),(8,8),(9,9),(10,10)]) ?_
  refine Q2 ?_
  refine Q5 rfl (fun g=>?_) fun g=>?_
  ·have g17:s16.2<(s_.p.length:Int):=gQ
   clear g
   replace h:=if_l g17 h
   refine Q6 ?_
   refine tn ?_
   refine Q2 ?_
   refine Q7 ?_
   refine Q2 ?_
   refine runQ hN fun K hK=>?_
   simp [-Q1,-Qh,-Q9,-Qi,-Qa,eL,eI,Q4,Qj,Qt,SF.cells,SM.cells]
   repeat with_reducible refine sdQ ?_
   refine hK _ ?_;clear hK K
   refine tn ?_
   refine Qf (st':=⟨[(2,.adr 0 0 0),(3,.adr 1 0 0),(4,.adr 2 0 0),(6,.adr 3 0 0),(9,.own 10 0 s16.1.length),(10,.val (.int .i64 s16.2)),(35,.val (.int .i64 (s_.p.length:Int))),(36,.val (.int .i64 s16.2))],[(0,.mix 15 [(SM.cells true s_)]),(1,.mix 15 [(SM.cells true t_)]),(2,.mix 15 [[.val (.int .i64 0),.val (.slice none 0 0),.val (.slice none 0 0),.val (.slice none 0 0),.val (.slice none 0 0),.val (.slice none 0 0),.val (.slice none 0 0),.val (.int .i64 0),.val (.slice none 0 0),.val (.slice none 0 0),.val (.slice none 0 0),.val (.slice none 0 0),.val (.slice none 0 0),.val (.slice none 0 0),.val (.slice none 0 0)]]),(3,.mix 7 [[.val (.int .i64 v5.1.s.n),.own 4 0 v5.1.s.fr.length,.own 5 0 v5.1.s.to.length,.own 6 0 v5.1.s.id.length,.own 7 0 v5.1.s.cs.length,.own 8 0 v5.1.sz.length,.own 9 0 v5.1.ac.length]]),(4,.row 1 (Is v5.1.s.fr)),(5,.row 1 (Is v5.1.s.to)),(6,.row 1 (Is v5.1.s.id)),(7,.row 1 (Ls v5.1.s.cs)),(8,.row 1 (Is v5.1.sz)),(9,.row 1 (Ls v5.1.ac)),(10,.row 1 (Ls s16.1))],11⟩) (wkQ9 [(0,0),(1,1),(2,2),(3,3),(4,4),(5,5),(6,6),(7,7),(8,8),(9,9),(10,10)]) ?_
   refine runQ hN fun K hK=>?_
   replace h:=Qc h
   obtain ⟨a18,h⟩:=h
   simp [-Q1,-Qh,-Q9,-Qi,-Qa,eL,eI,Q4,Qj,Qt,SF.cells,SM.cells,at_L a18]
   repeat with_reducible refine sdQ ?_
   replace h:=bind_some h
   obtain ⟨v19,hv19,h⟩:=h
   refine Q0 (Q5l _ v19 hv19) (.cons .lst .nil) ?_
   replace h:=Qc h
   obtain ⟨a20,h⟩:=h
   replace h:=Qc h
   obtain ⟨a21,h⟩:=h
   try simp only [List.length_append,List.length_cons,List.length_nil] at a21
   replace h:=Qc h
   obtain ⟨a22,h⟩:=h
   try simp only [List.length_append,List.length_cons,List.length_nil] at a22
   simp [-Q1,-Qh,-Q9,-Qi,-Qa,unk,unA,unE,unT,unC,flat,eL,eI,Q4,Qj,Qt,SF.cells,SM.cells,at_L a18,at_L a20,↓Q5p,a21,a22]
   repeat with_reducible refine sdQ ?_
   refine hK _ ?_;clear hK K
   refine bn ?_
   refine tn ?_
   refine Qf (st':=⟨[(2,.adr 0 0 0),(3,.adr 1 0 0),(4,.adr 2 0 0),(6,.adr 3 0 0),(9,.own 10 0 ((s16.1++[v19++(rx t_.p s16.2)]).length)),(35,.val (.int .i64 (s_.p.length:Int))),(36,.val (.int .i64 s16.2))],[(0,.mix 15 [(SM.cells true s_)]),(1,.mix 15 [(SM.cells true t_)]),(2,.mix 15 [[.val (.int .i64 0),.val (.slice none 0 0),.val (.slice none 0 0),.val (.slice none 0 0),.val (.slice none 0 0),.val (.slice none 0 0),.val (.slice none 0 0),.val (.int .i64 0),.val (.slice none 0 0),.val (.slice none 0 0),.val (.slice none 0 0),.val (.slice none 0 0),.val (.slice none 0 0),.val (.slice none 0 0),.val (.slice none 0 0)]]),(3,.mix 7 [[.val (.int .i64 v5.1.s.n),.own 4 0 v5.1.s.fr.length,.own 5 0 v5.1.s.to.length,.own 6 0 v5.1.s.id.length,.own 7 0 v5.1.s.cs.length,.own 8 0 v5.1.sz.length,.own 9 0 v5.1.ac.length]]),(4,.row 1 (Is v5.1.s.fr)),(5,.row 1 (Is v5.1.s.to)),(6,.row 1 (Is v5.1.s.id)),(7,.row 1 (Ls v5.1.s.cs)),(8,.row 1 (Is v5.1.sz)),(9,.row 1 (Ls v5.1.ac)),(10,.row 1 (Ls (s16.1++[v19++(rx t_.p s16.2)])))],11⟩) (wkQ9 [(0,0),(1,1),(2,2),(3,3),(4,4),(5,5),(6,6),(7,7),(8,8),(9,9),(14,10)]) ?_
   refine runQ hN fun K hK=>?_
   replace h:=Qc h
   obtain ⟨a23,h⟩:=h
   simp [-Q1,-Qh,-Q9,-Qi,-Qa,eL,eI,Q4,Qj,Qt,SF.cells,SM.cells,QA a23]
   repeat with_reducible refine sdQ ?_
   refine hK _ ?_;clear hK K
   cases h
   exact rn (s':=(s16.1++[v19++(rx t_.p s16.2)],s16.2+1)) hk16 (wkQ9 [(0,0),(1,1),(2,2),(3,3),(4,4),(5,5),(6,6),(7,7),(8,8),(9,9),(10,10)])
  have g17:¬ (s16.2<(s_.p.length:Int)):=gQ
  clear g
  replace h:=if_r g17 h
  refine Qm ?_
  refine tx ?_
  refine lx ?_
  refine bh ?_
  cases h
  exact jn (b:=s16.1) hk16 (wkQ9 [(0,0),(2,1),(3,2),(4,3),(5,4),(6,5),(7,6),(8,7),(9,8),(10,9)])
 intro b8 hb8
 have h:=h8
 rw [← hb8] at h
 clear h8
 try dsimp only at h
 refine Q2 ?_
 refine runQ hN fun K hK=>?_
 simp [-Q1,-Qh,-Q9,-Qi,-Qa,eL,eI,Q4,Qj,Qt,SF.cells,SM.cells]
 repeat with_reducible refine sdQ ?_
 replace h:=bind_some h
 obtain ⟨v24,hv24,h⟩:=h
 refine Q0 (Q6Y _ _ _ v24 hv24) (.cons (.field rfl (by simp [SF.cells,SM.cells]) (.cons .val (.cons (.whole (by simp) (by simp) (by simp)) (.cons (.whole (by simp) (by simp) (by simp)) (.cons (.whole (by simp) (by simp) (by simp)) (.cons (.whole (by simp) (by simp) (by simp)) (.cons (.whole (by simp) (by simp) (by simp)) (.cons (.whole (by simp) (by simp) (by simp)) .nil)))))))) (.cons (.field rfl (by simp [SF.cells,SM.cells]) (.cons .val (.cons .lst (.cons .lst (.cons .lst (.cons .lst (.cons .lst (.cons .lst .nil)))))))) (.cons (.whole (by simp) (by simp) (by simp)) .nil))) ?_
 simp [-Q1,-Qh,-Q9,-Qi,-Qa,unk,unA,unE,unT,unC,flat,eL,eI,Q4,Qj,Qt,SF.cells,SM.cells]
 repeat with_reducible refine sdQ ?_
 refine hK _ ?_;clear hK K
 refine tn ?_
 refine Qf (st':=⟨[(4,.adr 0 0 0),(5,.val (.int .i64 0))],[(0,.mix 15 [[.val (.int .i64 v24.s.s.n),.own 1 0 v24.s.s.fr.length,.own 2 0 v24.s.s.to.length,.own 3 0 v24.s.s.id.length,.own 4 0 v24.s.s.cs.length,.own 5 0 v24.s.sz.length,.own 6 0 v24.s.ac.length,.val (.int .i64 v24.t.s.n),.own 7 0 v24.t.s.fr.length,.own 8 0 v24.t.s.to.length,.own 9 0 v24.t.s.id.length,.own 10 0 v24.t.s.cs.length,.own 11 0 v24.t.sz.length,.own 12 0 v24.t.ac.length,.own 13 0 v24.p.length]]),(1,.row 1 (Is v24.s.s.fr)),(2,.row 1 (Is v24.s.s.to)),(3,.row 1 (Is v24.s.s.id)),(4,.row 1 (Ls v24.s.s.cs)),(5,.row 1 (Is v24.s.sz)),(6,.row 1 (Ls v24.s.ac)),(7,.row 1 (Is v24.t.s.fr)),(8,.row 1 (Is v24.t.s.to)),(9,.row 1 (Is v24.t.s.id)),(10,.row 1 (Ls v24.t.s.cs)),(11,.row 1 (Is v24.t.sz)),(12,.row 1 (Ls v24.t.ac)),(13,.row 1 (Ls v24.p))],14⟩) (wkQ9 [(1,0),(11,1),(12,2),(13,3),(14,4),(15,5),(16,6),(18,7),(19,8),(20,9),(21,10),(22,11),(23,12),(24,13)]) ?_
 refine Qe ?_
 have hr:=Option.some.inj h
 rw [← hr]
 refine ⟨_,(.cell Q4C rfl rfl rfl (by simp) (by simp) (.tmp .nil)),?_⟩
 refine ⟨(.agg rfl (.one rfl rfl .nil)),[.val (.int .i64 v24.s.s.n),.lst true 1 (Is v24.s.s.fr),.lst true 1 (Is v24.s.s.to),.lst true 1 (Is v24.s.s.id),.lst true 1 (Ls v24.s.s.cs),.lst true 1 (Is v24.s.sz),.lst true 1 (Ls v24.s.ac),.val (.int .i64 v24.t.s.n),.lst true 1 (Is v24.t.s.fr),.lst true 1 (Is v24.t.s.to),.lst true 1 (Is v24.t.s.id),.lst true 1 (Ls v24.t.s.cs),.lst true 1 (Is v24.t.sz),.lst true 1 (Ls v24.t.ac),.lst true 1 (Ls v24.p),.val (.int .i64 0)],[1,2,3,4,5,6,7,8,9,10,11,12,13],by simp [SF.cells,SM.cells,UA,U1,IA,I1,LA,L1,BA,B1,EA,E1,E2,eB,eI,eL],by simp,(UpL.refl _)⟩
end Go.Vc.T
namespace Go.Vc.T
open Go Go.Vc Go.Proofs
noncomputable def Q20 (f_:SF) (g_:SF) (parts_:List (List Int)):Option SM :=
 (Q1P f_).bind fun v1 =>
 (Q1P g_).bind fun v2 =>
 (Q1Z parts_).bind fun v3 =>
 some (⟨v1,v2,v3⟩:SM)
theorem Q5Z (f_:SF) (g_:SF) (parts_:List (List Int)) (r:SM) (h:Q20 f_ g_ parts_=some r):Contract Try.prog 134 [.agg (f_.cells true),.agg (g_.cells true),.lst true 1 (Ls parts_)] (.agg (r.cells true)):=by
 refine Qs (rvs:=[.cell 6 96]) (rs:=[.agg (r.cells true)]) Try.func134 rfl rfl rfl rfl (by simp [Try.f134]) fun F hN hP=>?_
 unfold Q20 at h
 refine Q2 ?_
 refine runQ hN fun K hK=>?_
 simp [-Q1,-Qh,-Q9,-Qi,-Qa,eL,eI,Q4,Qj,Qt,SF.cells,SM.cells]
 repeat with_reducible refine sdQ ?_
 refine hK _ ?_;clear hK K
 refine tn ?_
 refine Qf (st':=⟨[(2,.lst true 1 (Ls parts_)),(3,.adr 0 0 0),(4,.adr 1 0 0),(6,.adr 2 0 0)],[(0,.mix 7 [(SF.cells true f_)]),(1,.mix 7 [(SF.cells true g_)]),(2,.mix 15 [[.val (.int .i64 0),.val (.slice none 0 0),.val (.slice none 0 0),.val (.slice none 0 0),.val (.slice none 0 0),.val (.slice none 0 0),.val (.slice none 0 0),.val (.int .i64 0),.val (.slice none 0 0),.val (.slice none 0 0),.val (.slice none 0 0),.val (.slice none 0 0),.val (.slice none 0 0),.val (.slice none 0 0),.val (.slice none 0 0)]])],3⟩) (wkQ9 [(0,0),(1,1),(2,2)]) ?_
 refine Q2 ?_
 refine runQ hN fun K hK=>?_
 simp [-Q1,-Qh,-Q9,-Qi,-Qa,eL,eI,Q4,Qj,Qt,SF.cells,SM.cells]
 repeat with_reducible refine sdQ ?_
 replace h:=bind_some h
 obtain ⟨v1,hv1,h⟩:=h
 refine Q0 (Q4k _ v1 hv1) (.cons (.aggL (.cons .val (.cons .lst (.cons .lst (.cons .lst (.cons .lst (.cons .lst (.cons .lst .nil)))))))) .nil) ?_
 simp [-Q1,-Qh,-Q9,-Qi,-Qa,unk,unA,unE,unT,unC,flat,eL,eI,Q4,Qj,Qt,SF.cells,SM.cells]
 repeat with_reducible refine sdQ ?_
 replace h:=bind_some h
 obtain ⟨v2,hv2,h⟩:=h
 refine Q0 (Q4k _ v2 hv2) (.cons (.aggL (.cons .val (.cons .lst (.cons .lst (.cons .lst (.cons .lst (.cons .lst (.cons .lst .nil)))))))) .nil) ?_
 simp [-Q1,-Qh,-Q9,-Qi,-Qa,unk,unA,unE,unT,unC,flat,eL,eI,Q4,Qj,Qt,SF.cells,SM.cells]
 repeat with_reducible refine sdQ ?_
 replace h:=bind_some h
 obtain ⟨v3,hv3,h⟩:=h
 refine Q0 (Q5Y _ v3 hv3) (.cons .lst .nil) ?_
 simp [-Q1,-Qh,-Q9,-Qi,-Qa,unk,unA,unE,unT,unC,flat,eL,eI,Q4,Qj,Qt,SF.cells,SM.cells]
 repeat with_reducible refine sdQ ?_
 refine hK _ ?_;clear hK K
 refine tn ?_
 refine Qf (st':=⟨[(6,.adr 0 0 0)],[(0,.mix 15 [[.val (.int .i64 v1.s.n),.own 1 0 v1.s.fr.length,.own 2 0 v1.s.to.length,.own 3 0 v1.s.id.length,.own 4 0 v1.s.cs.length,.own 5 0 v1.sz.length,.own 6 0 v1.ac.length,.val (.int .i64 v2.s.n),.own 7 0 v2.s.fr.length,.own 8 0 v2.s.to.length,.own 9 0 v2.s.id.length,.own 10 0 v2.s.cs.length,.own 11 0 v2.sz.length,.own 12 0 v2.ac.length,.own 13 0 v3.length]]),(1,.row 1 (Is v1.s.fr)),(2,.row 1 (Is v1.s.to)),(3,.row 1 (Is v1.s.id)),(4,.row 1 (Ls v1.s.cs)),(5,.row 1 (Is v1.sz)),(6,.row 1 (Ls v1.ac)),(7,.row 1 (Is v2.s.fr)),(8,.row 1 (Is v2.s.to)),(9,.row 1 (Is v2.s.id)),(10,.row 1 (Ls v2.s.cs)),(11,.row 1 (Is v2.sz)),(12,.row 1 (Ls v2.ac)),(13,.row 1 (Ls v3))],14⟩) (wkQ9 [(2,0),(4,1),(5,2),(6,3),(7,4),(8,5),(9,6),(11,7),(12,8),(13,9),(14,10),(15,11),(16,12),(17,13)]) ?_
 refine Qe ?_
 have hr:=Option.some.inj h
 rw [← hr]
 refine ⟨_,(.cell Q4C rfl rfl rfl (by simp) (by simp) .nil),?_⟩
 refine ⟨(.agg rfl .nil),[.val (.int .i64 v1.s.n),.lst true 1 (Is v1.s.fr),.lst true 1 (Is v1.s.to),.lst true 1 (Is v1.s.id),.lst true 1 (Ls v1.s.cs),.lst true 1 (Is v1.sz),.lst true 1 (Ls v1.ac),.val (.int .i64 v2.s.n),.lst true 1 (Is v2.s.fr),.lst true 1 (Is v2.s.to),.lst true 1 (Is v2.s.id),.lst true 1 (Ls v2.s.cs),.lst true 1 (Is v2.sz),.lst true 1 (Ls v2.ac),.lst true 1 (Ls v3)],[1,2,3,4,5,6,7,8,9,10,11,12,13],by simp [SF.cells,SM.cells,UA,U1,IA,I1,LA,L1,BA,B1,EA,E1,E2,eB,eI,eL],by simp,(UpL.refl _)⟩
end Go.Vc.T
namespace Go.Vc.T
open Go Go.Vc Go.Proofs
noncomputable def Q19 (f_:SF):Option Int :=
 (QX (σ:=Int) (ε:=Unit ⊕ Int) (fun s6 =>
  if s6<(f_.sz.length:Int) then
   ass (0≤s6∧s6<(f_.sz.length:Int)) <|
   if (ix f_.sz s6) > 16 then
    some (Ctl.ret (Sum.inr 3))
   else
    ass (B64 (s6+1)) <|
    some (Ctl.next (s6+1))
  else
   some (Ctl.ret (Sum.inl ()))) fuel 0).bind fun e1 =>
 match e1 with
 | .inl b1 =>
  some 0
 | .inr p1 =>
  some p1
theorem Q60 (f_:SF) (r:Int) (h:Q19 f_=some r):Contract Try.prog 132 [.agg (f_.cells true)] (.val (.int .i64 r)):=by
 refine Qs (rvs:=[.tmp 2]) (rs:=[.val (.int .i64 r)]) Try.func132 rfl rfl rfl rfl (by simp [Try.f132]) fun F hN hP=>?_
 unfold Q19 at h
 refine Q2 ?_
 refine runQ hN fun K hK=>?_
 simp [-Q1,-Qh,-Q9,-Qi,-Qa,eL,eI,Q4,Qj,SF.cells]
 repeat with_reducible refine sdQ ?_
 refine hK _ ?_;clear hK K
 refine tn ?_
 refine Qf (st':=⟨[(1,.adr 0 0 0)],[(0,.mix 7 [(SF.cells true f_)])],1⟩) (wkQ9 [(0,0)]) ?_
 refine Q2 ?_
 refine Q2 ?_
 refine runQ hN fun K hK=>?_
 simp [-Q1,-Qh,-Q9,-Qi,-Qa,eL,eI,Q4,Qj,SF.cells]
 repeat with_reducible refine sdQ ?_
 refine hK _ ?_;clear hK K
 refine tn ?_
 refine Qf (st':=⟨[(1,.adr 0 0 0),(3,.val (.int .i64 0))],[(0,.mix 7 [(SF.cells true f_)])],1⟩) (wkQ9 [(0,0)]) ?_
 replace h:=bind_some h
 obtain ⟨e1,h,h1⟩:=h
 refine Q13 (fun b1:Unit=>⟨[],[],0⟩) (fun b1=>Sum.inl b1=e1) ?_ ?_
 ·refine Q7 ?_
  refine Q1k h (fun s6:Int=>⟨[(1,.adr 0 0 0),(3,.val (.int .i64 s6))],[(0,.mix 7 [(SF.cells true f_)])],1⟩) (wkQ9 [(0,0)]) ?_
  clear h
  intro k6 s6 c6 h hk6
  refine Q2 ?_
  refine Q2 ?_
  refine runQ hN fun K hK=>?_
  simp [-Q1,-Qh,-Q9,-Qi,-Qa,eL,eI,Q4,Qj,SF.cells]
  repeat with_reducible refine sdQ ?_
  refine hK _ ?_;clear hK K
  refine tn ?_
  refine Qf (st':=⟨[(1,.adr 0 0 0),(3,.val (.int .i64 s6)),(8,.val (.bool (decide (s6<(f_.sz.length:Int)))))],[(0,.mix 7 [(SF.cells true f_)])],1⟩) (wkQ9 [(0,0)]) ?_
  refine Q5 rfl (fun g=>?_) fun g=>?_
  ·have g7:s6<(f_.sz.length:Int):=gQ
   clear g
   replace h:=if_l g7 h
   refine Q6 ?_
   refine tn ?_
   refine Q2 ?_
   refine Q7 ?_
   refine Q2 ?_
   refine runQ hN fun K hK=>?_
   replace h:=Qc h
   obtain ⟨a8,h⟩:=h
   simp [-Q1,-Qh,-Q9,-Qi,-Qa,eL,eI,Q4,Qj,SF.cells,at_I a8]
   repeat with_reducible refine sdQ ?_
   refine hK _ ?_;clear hK K
   refine tn ?_
   refine Qf (st':=⟨[(1,.adr 0 0 0),(3,.val (.int .i64 s6)),(16,.val (.bool (decide ((ix f_.sz s6) > 16))))],[(0,.mix 7 [(SF.cells true f_)])],1⟩) (wkQ9 [(0,0)]) ?_
   refine Q5 rfl (fun g=>?_) fun g=>?_
   ·have g9:(ix f_.sz s6) > 16:=gQ
    clear g
    replace h:=if_l g9 h
    refine Q2 ?_
    refine runQ hN fun K hK=>?_
    simp [-Q1,-Qh,-Q9,-Qi,-Qa,eL,eI,Q4,Qj,SF.cells]
    repeat with_reducible refine sdQ ?_
    refine hK _ ?_;clear hK K
    refine tn ?_
    refine Qf (st':=⟨[(2,.val (.int .i64 3))],[],0⟩) (wkQ9 []) ?_
    refine Qe ?_
    refine br ?_
    refine tr ?_
    refine lr ?_
    refine br ?_
    refine tr ?_
    cases h
    have q:_=e1:=hk6
    have h:=h1
    rw [← q] at h
    clear q
    try dsimp only at h
    have hr:=Option.some.inj h
    rw [← hr]
    refine ⟨_,(.tmp .nil),?_⟩
    refine ⟨(.one rfl rfl .nil),[.val (.int .i64 3)],[],by simp [SF.cells,UA,U1,IA,I1,LA,L1,BA,B1,EA,E1,E2,eB,eI,eL],by simp,(UpL.refl _)⟩
   have g9:¬ ((ix f_.sz s6) > 16):=gQ
   clear g
   replace h:=if_r g9 h
   refine Q6 ?_
   refine bn ?_
   refine tn ?_
   refine runQ hN fun K hK=>?_
   replace h:=Qc h
   obtain ⟨a10,h⟩:=h
   simp [-Q1,-Qh,-Q9,-Qi,-Qa,eL,eI,Q4,Qj,SF.cells,QA a10]
   repeat with_reducible refine sdQ ?_
   refine hK _ ?_;clear hK K
   cases h
   exact rn (s':=s6+1) hk6 (wkQ9 [(0,0)])
  have g7:¬ (s6<(f_.sz.length:Int)):=gQ
  clear g
  replace h:=if_r g7 h
  refine Qm ?_
  refine tx ?_
  refine lx ?_
  refine bh ?_
  cases h
  exact jn (b:=()) hk6 (wkQ9 [])
 intro b1 hb1
 have h:=h1
 rw [← hb1] at h
 clear h1
 try dsimp only at h
 refine Q2 ?_
 refine runQ hN fun K hK=>?_
 simp [-Q1,-Qh,-Q9,-Qi,-Qa,eL,eI,Q4,Qj,SF.cells]
 repeat with_reducible refine sdQ ?_
 refine hK _ ?_;clear hK K
 refine tn ?_
 refine Qf (st':=⟨[(2,.val (.int .i64 0))],[],0⟩) (wkQ9 []) ?_
 refine Qe ?_
 have hr:=Option.some.inj h
 rw [← hr]
 refine ⟨_,(.tmp .nil),?_⟩
 refine ⟨(.one rfl rfl .nil),[.val (.int .i64 0)],[],by simp [SF.cells,UA,U1,IA,I1,LA,L1,BA,B1,EA,E1,E2,eB,eI,eL],by simp,(UpL.refl _)⟩
end Go.Vc.T
namespace Go.Vc.T
open Go Go.Vc Go.Proofs
noncomputable def Q21 (s_:SM) (t_:SM) (sources_:Bool) (targets_:Bool):Option Int :=
 (
  (Q1g s_).bind fun v2 =>
  if ¬ (v2=true) then
   some true
  else
   (Q1g t_).bind fun v4 =>
   some (!v4):Option (Bool)).bind fun b1 =>
 if b1=true then
  some 1
 else
  (
   if sources_=true then
    (Q18 s_.s t_.s).bind fun v8 =>
    if ¬ (v8=true) then
     some true
    else
     if targets_=true then
      (Q18 s_.t t_.t).bind fun v11 =>
      some (!v11)
     else
      some false
   else
    if targets_=true then
     (Q18 s_.t t_.t).bind fun v13 =>
     some (!v13)
    else
     some false:Option (Bool)).bind fun b6 =>
  if b6=true then
   some 5
  else
   some 0
theorem Q61 (s_:SM) (t_:SM) (sources_:Bool) (targets_:Bool) (r:Int) (h:Q21 s_ t_ sources_ targets_=some r):Contract Try.prog 130 [.agg (s_.cells true),.agg (t_.cells true),.val (.bool sources_),.val (.bool targets_)] (.val (.int .i64 r)):=by
 refine Qs (rvs:=[.tmp 8]) (rs:=[.val (.int .i64 r)]) Try.func130 rfl rfl rfl rfl (by simp [Try.f130]) fun F hN hP=>?_
 unfold Q21 at h
 refine Q2 ?_
 refine runQ hN fun K hK=>?_
 simp [-Q1,-Qh,-Q9,-Qi,-Qa,eL,eI,Q4,Qj,Qt,SF.cells,SM.cells]
 repeat with_reducible refine sdQ ?_
 refine hK _ ?_;clear hK K
 refine tn ?_
 refine Qf (st':=⟨[(2,.val (.bool sources_)),(3,.val (.bool targets_)),(4,.adr 0 0 0),(5,.adr 1 0 0)],[(0,.mix 15 [(SM.cells true s_)]),(1,.mix 15 [(SM.cells true t_)])],2⟩) (wkQ9 [(0,0),(1,1)]) ?_
 refine Q2 ?_
 refine Q7 ?_
 refine Q2 ?_
 replace h:=bind_some h
 obtain ⟨e1,h,h1⟩:=h
 refine Q13 (fun b1:Bool=>⟨[(2,.val (.bool sources_)),(3,.val (.bool targets_)),(4,.adr 0 0 0),(5,.adr 1 0 0),(9,.val (.bool b1))],[(0,.mix 15 [(SM.cells true s_)]),(1,.mix 15 [(SM.cells true t_)])],2⟩) (fun b1=>b1=e1) ?_ ?_
 ·refine runQ hN fun K hK=>?_
  simp [-Q1,-Qh,-Q9,-Qi,-Qa,eL,eI,Q4,Qj,Qt,SF.cells,SM.cells]
  repeat with_reducible refine sdQ ?_
  replace h:=bind_some h
  obtain ⟨v2,hv2,h⟩:=h
  refine Q0 (Q3h _ v2 hv2) (.cons (.aggL (.cons .val (.cons .lst (.cons .lst (.cons .lst (.cons .lst (.cons .lst (.cons .lst (.cons .val (.cons .lst (.cons .lst (.cons .lst (.cons .lst (.cons .lst (.cons .lst (.cons .lst .nil)))))))))))))))) .nil) ?_
  simp [-Q1,-Qh,-Q9,-Qi,-Qa,unk,unA,unE,unT,unC,flat,eL,eI,Q4,Qj,Qt,SF.cells,SM.cells]
  repeat with_reducible refine sdQ ?_
  refine Q1q (fun g=>?_) (fun g=>?_)
  ·have g3:¬ (¬ (v2=true)):=gQ
   clear g
   replace h:=if_r g3 h
   simp [-Q1,-Qh,-Q9,-Qi,-Qa,eL,eI,Q4,Qj,Qt,SF.cells,SM.cells]
   repeat with_reducible refine sdQ ?_
   replace h:=bind_some h
   obtain ⟨v4,hv4,h⟩:=h
   refine Q0 (Q3h _ v4 hv4) (.cons (.aggL (.cons .val (.cons .lst (.cons .lst (.cons .lst (.cons .lst (.cons .lst (.cons .lst (.cons .val (.cons .lst (.cons .lst (.cons .lst (.cons .lst (.cons .lst (.cons .lst (.cons .lst .nil)))))))))))))))) .nil) ?_
   simp [-Q1,-Qh,-Q9,-Qi,-Qa,unk,unA,unE,unT,unC,flat,eL,eI,Q4,Qj,Qt,SF.cells,SM.cells]
   repeat with_reducible refine sdQ ?_
   refine hK _ ?_
   exact jn (b:=!v4) (Option.some.inj h) (wkQ9 [(0,0),(1,1)])
  have g3:¬ (v2=true):=gQ
  clear g
  replace h:=if_l g3 h
  simp [-Q1,-Qh,-Q9,-Qi,-Qa,eL,eI,Q4,Qj,Qt,SF.cells,SM.cells]
  repeat with_reducible refine sdQ ?_
  refine hK _ ?_
  exact jn (b:=true) (Option.some.inj h) (wkQ9 [(0,0),(1,1)])
 intro b1 hb1
 have h:=h1
 rw [← hb1] at h
 clear h1
 try dsimp only at h
 refine Q5 rfl (fun g=>?_) fun g=>?_
 ·have g5:b1=true:=gQ
  clear g
  replace h:=if_l g5 h
  refine Q2 ?_
  refine runQ hN fun K hK=>?_
  simp [-Q1,-Qh,-Q9,-Qi,-Qa,eL,eI,Q4,Qj,Qt,SF.cells,SM.cells]
  repeat with_reducible refine sdQ ?_
  refine hK _ ?_;clear hK K
  refine tn ?_
  refine Qf (st':=⟨[(8,.val (.int .i64 1))],[],0⟩) (wkQ9 []) ?_
  refine Qe ?_
  refine br ?_
  refine tr ?_
  have hr:=Option.some.inj h
  rw [← hr]
  refine ⟨_,(.tmp .nil),?_⟩
  refine ⟨(.one rfl rfl .nil),[.val (.int .i64 1)],[],by simp [SF.cells,SM.cells,UA,U1,IA,I1,LA,L1,BA,B1,EA,E1,E2,eB,eI,eL],by simp,(UpL.refl _)⟩
 have g5:¬ (b1=true):=gQ
 clear g
 replace h:=if_r g5 h
 refine Q2 ?_
 replace h:=bind_some h
 obtain ⟨e6,h,h6⟩:=h
 refine Q13 (fun b6:Bool=>⟨[(18,.val (.bool b6))],[],0⟩) (fun b6=>b6=e6) ?_ ?_
 ·refine runQ hN fun K hK=>?_
  simp [-Q1,-Qh,-Q9,-Qi,-Qa,eL,eI,Q4,Qj,Qt,SF.cells,SM.cells]
  repeat with_reducible refine sdQ ?_
  refine Q1q (fun g=>?_) (fun g=>?_)
  ·have g7:sources_=true:=gQ
   clear g
   replace h:=if_l g7 h
   simp [-Q1,-Qh,-Q9,-Qi,-Qa,eL,eI,Q4,Qj,Qt,SF.cells,SM.cells]
   repeat with_reducible refine sdQ ?_
   replace h:=bind_some h
   obtain ⟨v8,hv8,h⟩:=h
   refine Q0 (Q2F _ _ v8 hv8) (.cons (.aggL (.cons .val (.cons .lst (.cons .lst (.cons .lst (.cons .lst (.cons .lst (.cons .lst .nil)))))))) (.cons (.aggL (.cons .val (.cons .lst (.cons .lst (.cons .lst (.cons .lst (.cons .lst (.cons .lst .nil)))))))) .nil)) ?_
   simp [-Q1,-Qh,-Q9,-Qi,-Qa,unk,unA,unE,unT,unC,flat,eL,eI,Q4,Qj,Qt,SF.cells,SM.cells]
   repeat with_reducible refine sdQ ?_
   refine Q1q (fun g=>?_) (fun g=>?_)
   ·have g9:¬ (¬ (v8=true)):=gQ
    clear g
    replace h:=if_r g9 h
    simp [-Q1,-Qh,-Q9,-Qi,-Qa,eL,eI,Q4,Qj,Qt,SF.cells,SM.cells]
    repeat with_reducible refine sdQ ?_
    refine Q1q (fun g=>?_) (fun g=>?_)
    ·have g10:targets_=true:=gQ
     clear g
     replace h:=if_l g10 h
     simp [-Q1,-Qh,-Q9,-Qi,-Qa,eL,eI,Q4,Qj,Qt,SF.cells,SM.cells]
     repeat with_reducible refine sdQ ?_
     replace h:=bind_some h
     obtain ⟨v11,hv11,h⟩:=h
     refine Q0 (Q2F _ _ v11 hv11) (.cons (.aggL (.cons .val (.cons .lst (.cons .lst (.cons .lst (.cons .lst (.cons .lst (.cons .lst .nil)))))))) (.cons (.aggL (.cons .val (.cons .lst (.cons .lst (.cons .lst (.cons .lst (.cons .lst (.cons .lst .nil)))))))) .nil)) ?_
     simp [-Q1,-Qh,-Q9,-Qi,-Qa,unk,unA,unE,unT,unC,flat,eL,eI,Q4,Qj,Qt,SF.cells,SM.cells]
     repeat with_reducible refine sdQ ?_
     refine hK _ ?_
     exact jn (b:=!v11) (Option.some.inj h) (wkQ9 [])
    have g10:¬ (targets_=true):=gQ
    clear g
    replace h:=if_r g10 h
    simp [-Q1,-Qh,-Q9,-Qi,-Qa,eL,eI,Q4,Qj,Qt,SF.cells,SM.cells]
    repeat with_reducible refine sdQ ?_
    refine hK _ ?_
    exact jn (b:=false) (Option.some.inj h) (wkQ9 [])
   have g9:¬ (v8=true):=gQ
   clear g
   replace h:=if_l g9 h
   simp [-Q1,-Qh,-Q9,-Qi,-Qa,eL,eI,Q4,Qj,Qt,SF.cells,SM.cells]
   repeat with_reducible refine sdQ ?_
   refine hK _ ?_
   exact jn (b:=true) (Option.some.inj h) (wkQ9 [])
  have g7:¬ (sources_=true):=gQ
  clear g
  replace h:=if_r g7 h
  simp [-Q1,-Qh,-Q9,-Qi,-Qa,eL,eI,Q4,Qj,Qt,SF.cells,SM.cells]
  repeat with_reducible refine sdQ ?_
  refine Q1q (fun g=>?_) (fun g=>?_)
  ·have g12:targets_=true:=gQ
   clear g
   replace h:=if_l g12 h
   simp [-Q1,-Qh,-Q9,-Qi,-Qa,eL,eI,Q4,Qj,Qt,SF.cells,SM.cells]
   repeat with_reducible refine sdQ ?_
   replace h:=bind_some h
   obtain ⟨v13,hv13,h⟩:=h
   refine Q0 (Q2F _ _ v13 hv13) (.cons (.aggL (.cons .val (.cons .lst (.cons .lst (.cons .lst (.cons .lst (.cons .lst (.cons .lst .nil)))))))) (.cons (.aggL (.cons .val (.cons .lst (.cons .lst (.cons .lst (.cons .lst (.cons .lst (.cons .lst .nil)))))))) .nil)) ?_
   simp [-Q1,-Qh,-Q9,-Qi,-Qa,unk,unA,unE,unT,unC,flat,eL,eI,Q4,Qj,Qt,SF.cells,SM.cells]
   repeat with_reducible refine sdQ ?_
   refine hK _ ?_
   exact jn (b:=!v13) (Option.some.inj h) (wkQ9 [])
  have g12:¬ (targets_=true):=gQ
  clear g
  replace h:=if_r g12 h
  simp [-Q1,-Qh,-Q9,-Qi,-Qa,eL,eI,Q4,Qj,Qt,SF.cells,SM.cells]
  repeat with_reducible refine sdQ ?_
  refine hK _ ?_
  exact jn (b:=false) (Option.some.inj h) (wkQ9 [])
 intro b6 hb6
 have h:=h6
 rw [← hb6] at h
 clear h6
 try dsimp only at h
 refine Q5 rfl (fun g=>?_) fun g=>?_
 ·have g14:b6=true:=gQ
  clear g
  replace h:=if_l g14 h
  refine Q2 ?_
  refine runQ hN fun K hK=>?_
  simp [-Q1,-Qh,-Q9,-Qi,-Qa,eL,eI,Q4,Qj,Qt,SF.cells,SM.cells]
  repeat with_reducible refine sdQ ?_
  refine hK _ ?_;clear hK K
  refine tn ?_
  refine Qf (st':=⟨[(8,.val (.int .i64 5))],[],0⟩) (wkQ9 []) ?_
  refine Qe ?_
  refine br ?_
  refine tr ?_
  have hr:=Option.some.inj h
  rw [← hr]
  refine ⟨_,(.tmp .nil),?_⟩
  refine ⟨(.one rfl rfl .nil),[.val (.int .i64 5)],[],by simp [SF.cells,SM.cells,UA,U1,IA,I1,LA,L1,BA,B1,EA,E1,E2,eB,eI,eL],by simp,(UpL.refl _)⟩
 have g14:¬ (b6=true):=gQ
 clear g
 replace h:=if_r g14 h
 refine Q6 ?_
 refine bn ?_
 refine tn ?_
 refine Q2 ?_
 refine runQ hN fun K hK=>?_
 simp [-Q1,-Qh,-Q9,-Qi,-Qa,eL,eI,Q4,Qj,Qt,SF.cells,SM.cells]
 repeat with_reducible refine sdQ ?_
 refine hK _ ?_;clear hK K
 refine tn ?_
 refine Qf (st':=⟨[(8,.val (.int .i64 0))],[],0⟩) (wkQ9 []) ?_
 refine Qe ?_
 have hr:=Option.some.inj h
 rw [← hr]
 refine ⟨_,(.tmp .nil),?_⟩
 refine ⟨(.one rfl rfl .nil),[.val (.int .i64 0)],[],by simp [SF.cells,SM.cells,UA,U1,IA,I1,LA,L1,BA,B1,EA,E1,E2,eB,eI,eL],by simp,(UpL.refl _)⟩
end Go.Vc.T
namespace Go.Vc.T
open Go Go.Vc Go.Proofs
noncomputable def Q1Q (f_:SF) (g_:SF):Option (SF × List (List Int) × List (List Int)) :=
 (Q2l f_.s).bind fun v1 =>
 (QX (σ:=List Int × List (List Int) × List (List Int) × Int) (ε:=List Int × List (List Int) × List (List Int)) (fun s35 =>
  if s35.2.2.2<(f_.sz.length:Int) then
   (QX (σ:=List Int × Int) (ε:=List Int) (fun s42 =>
    ass (0≤s35.2.2.2∧s35.2.2.2<(f_.sz.length:Int)) <|
    if s42.2<(ix f_.sz s35.2.2.2) then
     ass ((s42.1++[s42.2]).length≤1073741824) <|
     ass (B64 (s42.2+1)) <|
     some (Ctl.next (s42.1++[s42.2],s42.2+1))
    else
     some (Ctl.ret s42.1)) fuel ([],0)).bind fun b37 =>
   (QX (σ:=List Int × Int) (ε:=List Int) (fun s54 =>
    ass (0≤s35.2.2.2∧s35.2.2.2<(g_.sz.length:Int)) <|
    if s54.2<(ix g_.sz s35.2.2.2) then
     ass (0≤s35.2.2.2∧s35.2.2.2<(f_.sz.length:Int)) <|
     ass (B64 ((ix f_.sz s35.2.2.2)+s54.2)) <|
     ass ((s54.1++[(ix f_.sz s35.2.2.2)+s54.2]).length≤1073741824) <|
     ass (B64 (s54.2+1)) <|
     some (Ctl.next (s54.1++[(ix f_.sz s35.2.2.2)+s54.2],s54.2+1))
    else
     some (Ctl.ret s54.1)) fuel ([],0)).bind fun b47 =>
   ass (0≤s35.2.2.2∧s35.2.2.2<(f_.sz.length:Int)) <|
   ass (0≤s35.2.2.2∧s35.2.2.2<(g_.sz.length:Int)) <|
   ass (B64 ((ix f_.sz s35.2.2.2)+(ix g_.sz s35.2.2.2))) <|
   ass ((s35.1++[(ix f_.sz s35.2.2.2)+(ix g_.sz s35.2.2.2)]).length≤1073741824) <|
   ass ((s35.2.1++[b37]).length≤1073741824) <|
   ass ((s35.2.2.1++[b47]).length≤1073741824) <|
   ass (B64 (s35.2.2.2+1)) <|
   some (Ctl.next (s35.1++[(ix f_.sz s35.2.2.2)+(ix g_.sz s35.2.2.2)],s35.2.1++[b37],s35.2.2.1++[b47],s35.2.2.2+1))
  else
   some (Ctl.ret (s35.1,s35.2.1,s35.2.2.1))) fuel ([],[],[],0)).bind fun b2 =>
 (QX (σ:=List (List Int) × Int) (ε:=List (List Int)) (fun s93 =>
  if s93.2<(f_.ac.length:Int) then
   ass (0≤s93.2∧s93.2<(f_.s.to.length:Int)) <|
   ass (0≤s93.2∧s93.2<(f_.ac.length:Int)) <|
   (Q1n (rx f_.ac s93.2)).bind fun v97 =>
   (QX (σ:=List Int × Int) (ε:=List Int) (fun s107 =>
    ass (0≤s93.2∧s93.2<(g_.ac.length:Int)) <|
    if s107.2<((rx g_.ac s93.2).length:Int) then
     ass (0≤ix f_.s.to s93.2∧ix f_.s.to s93.2<(f_.sz.length:Int)) <|
     ass (0≤s93.2∧s93.2<(g_.ac.length:Int)) <|
     ass (0≤s107.2∧s107.2<((rx g_.ac s93.2).length:Int)) <|
     ass (B64 ((ix f_.sz (ix f_.s.to s93.2))+(ix (rx g_.ac s93.2) s107.2))) <|
     ass ((s107.1++[(ix f_.sz (ix f_.s.to s93.2))+(ix (rx g_.ac s93.2) s107.2)]).length≤1073741824) <|
     ass (B64 (s107.2+1)) <|
     some (Ctl.next (s107.1++[(ix f_.sz (ix f_.s.to s93.2))+(ix (rx g_.ac s93.2) s107.2)],s107.2+1))
    else
     some (Ctl.ret s107.1)) fuel (v97,0)).bind fun b98 =>
   ass ((s93.1++[b98]).length≤1073741824) <|
   ass (B64 (s93.2+1)) <|
   some (Ctl.next (s93.1++[b98],s93.2+1))
  else
   some (Ctl.ret s93.1)) fuel ([],0)).bind fun b68 =>
 some ((⟨v1,b2.1,b68⟩:SF),b2.2.1,b2.2.2)
theorem Q71 (f_:SF) (g_:SF) (r:SF × List (List Int) × List (List Int)) (h:Q1Q f_ g_=some r):Contract Try.prog 131 [.agg (f_.cells true),.agg (g_.cells true)] (.tup [.agg (r.1.cells true),.lst true 1 (Ls r.2.1),.lst true 1 (Ls r.2.2)]):=by
 refine Qs (rvs:=[.cell 4 94,.tmp 5,.tmp 6]) (rs:=[.agg (r.1.cells true),.lst true 1 (Ls r.2.1),.lst true 1 (Ls r.2.2)]) Try.func131 rfl rfl rfl rfl (by simp [Try.f131]) fun F hN hP=>?_
 unfold Q1Q at h
 refine Q2 ?_
 refine runQ hN fun K hK=>?_
 simp [-Q1,-Qh,-Q9,-Qi,-Qa,eL,eI,Q4,Qr,Qj,Cat.cells,SF.cells]
 repeat with_reducible refine sdQ ?_
 refine hK _ ?_;clear hK K
 refine tn ?_
 refine Qf (st':=⟨[(2,.adr 0 0 0),(3,.adr 1 0 0),(4,.adr 2 0 0)],[(0,.mix 7 [(SF.cells true f_)]),(1,.mix 7 [(SF.cells true g_)]),(2,.mix 7 [[.val (.int .i64 0),.val (.slice none 0 0),.val (.slice none 0 0),.val (.slice none 0 0),.val (.slice none 0 0),.val (.slice none 0 0),.val (.slice none 0 0)]])],3⟩) (wkQ9 [(0,0),(1,1),(2,2)]) ?_
 refine Q2 ?_
 refine runQ hN fun K hK=>?_
 simp [-Q1,-Qh,-Q9,-Qi,-Qa,eL,eI,Q4,Qr,Qj,Cat.cells,SF.cells]
 repeat with_reducible refine sdQ ?_
 replace h:=bind_some h
 obtain ⟨v1,hv1,h⟩:=h
 refine Q0 (Q70 _ v1 hv1) (.cons (.aggL (.cons .val (.cons .lst (.cons .lst (.cons .lst (.cons .lst .nil)))))) .nil) ?_
 simp [-Q1,-Qh,-Q9,-Qi,-Qa,unk,unA,unE,unT,unC,flat,eL,eI,Q4,Qr,Qj,Cat.cells,SF.cells]
 repeat with_reducible refine sdQ ?_
 refine hK _ ?_;clear hK K
 refine tn ?_
 refine Qf (st':=⟨[(2,.adr 0 0 0),(3,.adr 1 0 0),(4,.adr 2 0 0),(7,.adr 3 0 0),(8,.own 8 0 0),(9,.own 9 0 0)],[(0,.mix 7 [(SF.cells true f_)]),(1,.mix 7 [(SF.cells true g_)]),(2,.mix 7 [[.val (.int .i64 0),.val (.slice none 0 0),.val (.slice none 0 0),.val (.slice none 0 0),.val (.slice none 0 0),.val (.slice none 0 0),.val (.slice none 0 0)]]),(3,.mix 7 [[.val (.int .i64 v1.n),.own 4 0 v1.fr.length,.own 5 0 v1.to.length,.own 6 0 v1.id.length,.own 7 0 v1.cs.length,.val (.slice none 0 0),.val (.slice none 0 0)]]),(4,.row 1 (Is v1.fr)),(5,.row 1 (Is v1.to)),(6,.row 1 (Is v1.id)),(7,.row 1 (Ls v1.cs)),(8,.mix 1 []),(9,.mix 1 [])],10⟩) (wkQ9 [(0,0),(1,1),(2,2),(10,3),(4,4),(5,5),(6,6),(7,7),(8,8),(9,9)]) ?_
 refine Q2 ?_
 refine Q2 ?_
 refine runQ hN fun K hK=>?_
 simp [-Q1,-Qh,-Q9,-Qi,-Qa,eL,eI,Q4,Qr,Qj,Cat.cells,SF.cells]
 repeat with_reducible refine sdQ ?_
 refine hK _ ?_;clear hK K
 refine tn ?_
 refine Qf (st':=⟨[(2,.adr 0 0 0),(3,.adr 1 0 0),(4,.adr 2 0 0),(7,.adr 3 0 0),(8,.own 8 0 0),(9,.own 9 0 0),(10,.val (.int .i64 0))],[(0,.mix 7 [(SF.cells true f_)]),(1,.mix 7 [(SF.cells true g_)]),(2,.mix 7 [[.val (.int .i64 0),.val (.slice none 0 0),.val (.slice none 0 0),.val (.slice none 0 0),.val (.slice none 0 0),.val (.slice none 0 0),.val (.slice none 0 0)]]),(3,.mix 7 [[.val (.int .i64 v1.n),.own 4 0 v1.fr.length,.own 5 0 v1.to.length,.own 6 0 v1.id.length,.own 7 0 v1.cs.length,.val (.slice none 0 0),.val (.slice none 0 0)]]),(4,.row 1 (Is v1.fr)),(5,.row 1 (Is v1.to)),(6,.row 1 (Is v1.id)),(7,.row 1 (Ls v1.cs)),(8,.mix 1 []),(9,.mix 1 [])],10⟩) (wkQ9 [(0,0),(1,1),(2,2),(3,3),(4,4),(5,5),(6,6),(7,7),(8,8),(9,9)]) ?_
 replace h:=bind_some h
 obtain ⟨e2,h,h2⟩:=h
 refine Q13 (fun b2:List Int × List (List Int) × List (List Int)=>⟨[(2,.adr 0 0 0),(3,.adr 1 0 0),(4,.adr 2 0 0),(7,.adr 3 0 0),(8,.own 9 0 b2.2.1.length),(9,.own 10 0 b2.2.2.length)],[(0,.mix 7 [(SF.cells true f_)]),(1,.mix 7 [(SF.cells true g_)]),(2,.mix 7 [[.val (.int .i64 0),.val (.slice none 0 0),.val (.slice none 0 0),.val (.slice none 0 0),.val (.slice none 0 0),.val (.slice none 0 0),.val (.slice none 0 0)]]),(3,.mix 7 [[.val (.int .i64 v1.n),.own 4 0 v1.fr.length,.own 5 0 v1.to.length,.own 6 0 v1.id.length,.own 7 0 v1.cs.length,.own 8 0 b2.1.length,.val (.slice none 0 0)]]),(4,.row 1 (Is v1.fr)),(5,.row 1 (Is v1.to)),(6,.row 1 (Is v1.id)),(7,.row 1 (Ls v1.cs)),(8,.row 1 (Is b2.1)),(9,.row 1 (Ls b2.2.1)),(10,.row 1 (Ls b2.2.2))],11⟩) (fun b2=>b2=e2) ?_ ?_
 ·refine Q7 ?_
  refine Q1k h (fun s35:List Int × List (List Int) × List (List Int) × Int=>⟨[(2,.adr 0 0 0),(3,.adr 1 0 0),(4,.adr 2 0 0),(7,.adr 3 0 0),(8,.own 9 0 s35.2.1.length),(9,.own 10 0 s35.2.2.1.length),(10,.val (.int .i64 s35.2.2.2))],[(0,.mix 7 [(SF.cells true f_)]),(1,.mix 7 [(SF.cells true g_)]),(2,.mix 7 [[.val (.int .i64 0),.val (.slice none 0 0),.val (.slice none 0 0),.val (.slice none 0 0),.val (.slice none 0 0),.val (.slice none 0 0),.val (.slice none 0 0)]]),(3,.mix 7 [[.val (.int .i64 v1.n),.own 4 0 v1.fr.length,.own 5 0 v1.to.length,.own 6 0 v1.id.length,.own 7 0 v1.cs.length,.own 8 0 s35.1.length,.val (.slice none 0 0)]]),(4,.row 1 (Is v1.fr)),(5,.row 1 (Is v1.to)),(6,.row 1 (Is v1.id)),(7,.row 1 (Ls v1.cs)),(8,.row 1 (Is s35.1)),(9,.row 1 (Ls s35.2.1)),(10,.row 1 (Ls s35.2.2.1))],11⟩) (Q4D ⟨[(2,.adr 0 0 0),(3,.adr 1 0 0),(4,.adr 2 0 0),(7,.adr 3 0 0),(8,.own 8 0 0),(9,.own 9 0 0),(10,.val (.int .i64 0))],[(0,.mix 7 [(SF.cells true f_)]),(1,.mix 7 [(SF.cells true g_)]),(2,.mix 7 [[.val (.int .i64 0),.val (.slice none 0 0),.val (.slice none 0 0),.val (.slice none 0 0),.val (.slice none 0 0),.val (.slice none 0 0),.val (.slice none 0 0)]]),(3,.mix 7 [[.val (.int .i64 v1.n),.own 4 0 v1.fr.length,.own 5 0 v1.to.length,.own 6 0 v1.id.length,.own 7 0 v1.cs.length,.own 10 0 0,.val (.slice none 0 0)]]),(4,.row 1 (Is v1.fr)),(5,.row 1 (Is v1.to)),(6,.row 1 (Is v1.id)),(7,.row 1 (Ls v1.cs)),(8,.row 1 (Ls [])),(9,.row 1 (Ls [])),(10,.row 1 (Is []))],11⟩ (Wk.nils [(10,1)] (by simp) (by simp) (by simp [nlA]) (by simp [entN,nlL,nlA,Cat.cells,SF.cells,UA,U1,IA,I1,LA,L1,BA,B1,EA,E1,E2,eB,eI,eL]) (by simp)) (wkQ9 [(0,0),(1,1),(2,2),(3,3),(4,4),(5,5),(6,6),(7,7),(10,8),(8,9),(9,10)])) ?_
  clear h
  intro k35 s35 c35 h hk35
  refine Q2 ?_
  refine Q2 ?_
  refine runQ hN fun K hK=>?_
  simp [-Q1,-Qh,-Q9,-Qi,-Qa,eL,eI,Q4,Qr,Qj,Cat.cells,SF.cells]
  repeat with_reducible refine sdQ ?_
  refine hK _ ?_;clear hK K
  refine tn ?_
  refine Qf (st':=⟨[(2,.adr 0 0 0),(3,.adr 1 0 0),(4,.adr 2 0 0),(7,.adr 3 0 0),(8,.own 9 0 s35.2.1.length),(9,.own 10 0 s35.2.2.1.length),(10,.val (.int .i64 s35.2.2.2)),(29,.val (.bool (decide (s35.2.2.2<(f_.sz.length:Int)))))],[(0,.mix 7 [(SF.cells true f_)]),(1,.mix 7 [(SF.cells true g_)]),(2,.mix 7 [[.val (.int .i64 0),.val (.slice none 0 0),.val (.slice none 0 0),.val (.slice none 0 0),.val (.slice none 0 0),.val (.slice none 0 0),.val (.slice none 0 0)]]),(3,.mix 7 [[.val (.int .i64 v1.n),.own 4 0 v1.fr.length,.own 5 0 v1.to.length,.own 6 0 v1.id.length,.own 7 0 v1.cs.length,.own 8 0 s35.1.length,.val (.slice none 0 0)]]),(4,.row 1 (Is v1.fr)),(5,.row 1 (Is v1.to)),(6,.row 1 (Is v1.id)),(7,.row 1 (Ls v1.cs)),(8,.row 1 (Is s35.1)),(9,.row 1 (Ls s35.2.1)),(10,.row 1 (Ls s35.2.2.1))],11⟩) (wkQ9 [(0,0),(1,1),(2,2),(3,3),(4,4),(5,5),(6,6),(7,7),(8,8),(9,9),(10,10)]) ?_
  refine Q5 rfl (fun g=>?_) fun g=>?_
  ·have g36:s35.2.2.2<(f_.sz.length:Int):=gQ
   clear g
   replace h:=if_l g36 h
   refine Q6 ?_
   refine tn ?_
   refine Q2 ?_
   refine Q7 ?_
   refine Q2 ?_
   refine runQ hN fun K hK=>?_
   simp [-Q1,-Qh,-Q9,-Qi,-Qa,eL,eI,Q4,Qr,Qj,Cat.cells,SF.cells]
   repeat with_reducible refine sdQ ?_
   refine hK _ ?_;clear hK K
   refine tn ?_
   refine Qf (st':=⟨[(2,.adr 0 0 0),(3,.adr 1 0 0),(4,.adr 2 0 0),(7,.adr 3 0 0),(8,.own 9 0 s35.2.1.length),(9,.own 10 0 s35.2.2.1.length),(10,.val (.int .i64 s35.2.2.2)),(11,.own 11 0 0),(12,.own 12 0 0)],[(0,.mix 7 [(SF.cells true f_)]),(1,.mix 7 [(SF.cells true g_)]),(2,.mix 7 [[.val (.int .i64 0),.val (.slice none 0 0),.val (.slice none 0 0),.val (.slice none 0 0),.val (.slice none 0 0),.val (.slice none 0 0),.val (.slice none 0 0)]]),(3,.mix 7 [[.val (.int .i64 v1.n),.own 4 0 v1.fr.length,.own 5 0 v1.to.length,.own 6 0 v1.id.length,.own 7 0 v1.cs.length,.own 8 0 s35.1.length,.val (.slice none 0 0)]]),(4,.row 1 (Is v1.fr)),(5,.row 1 (Is v1.to)),(6,.row 1 (Is v1.id)),(7,.row 1 (Ls v1.cs)),(8,.row 1 (Is s35.1)),(9,.row 1 (Ls s35.2.1)),(10,.row 1 (Ls s35.2.2.1)),(11,.mix 1 []),(12,.mix 1 [])],13⟩) (wkQ9 [(0,0),(1,1),(2,2),(3,3),(4,4),(5,5),(6,6),(7,7),(8,8),(9,9),(10,10),(11,11),(12,12)]) ?_
   refine Q2 ?_
   refine Q2 ?_
   refine runQ hN fun K hK=>?_
   simp [-Q1,-Qh,-Q9,-Qi,-Qa,eL,eI,Q4,Qr,Qj,Cat.cells,SF.cells]
   repeat with_reducible refine sdQ ?_
   refine hK _ ?_;clear hK K
   refine tn ?_
   refine Qf (st':=⟨[(2,.adr 0 0 0),(3,.adr 1 0 0),(4,.adr 2 0 0),(7,.adr 3 0 0),(8,.own 9 0 s35.2.1.length),(9,.own 10 0 s35.2.2.1.length),(10,.val (.int .i64 s35.2.2.2)),(11,.own 11 0 0),(12,.own 12 0 0),(13,.val (.int .i64 0))],[(0,.mix 7 [(SF.cells true f_)]),(1,.mix 7 [(SF.cells true g_)]),(2,.mix 7 [[.val (.int .i64 0),.val (.slice none 0 0),.val (.slice none 0 0),.val (.slice none 0 0),.val (.slice none 0 0),.val (.slice none 0 0),.val (.slice none 0 0)]]),(3,.mix 7 [[.val (.int .i64 v1.n),.own 4 0 v1.fr.length,.own 5 0 v1.to.length,.own 6 0 v1.id.length,.own 7 0 v1.cs.length,.own 8 0 s35.1.length,.val (.slice none 0 0)]]),(4,.row 1 (Is v1.fr)),(5,.row 1 (Is v1.to)),(6,.row 1 (Is v1.id)),(7,.row 1 (Ls v1.cs)),(8,.row 1 (Is s35.1)),(9,.row 1 (Ls s35.2.1)),(10,.row 1 (Ls s35.2.2.1)),(11,.mix 1 []),(12,.mix 1 [])],13⟩) (wkQ9 [(0,0),(1,1),(2,2),(3,3),(4,4),(5,5),(6,6),(7,7),(8,8),(9,9),(10,10),(11,11),(12,12)]) ?_
   replace h:=bind_some h
   obtain ⟨e37,h,h37⟩:=h
   refine Q13 (fun b37:List Int=>⟨[(2,.adr 0 0 0),(3,.adr 1 0 0),(4,.adr 2 0 0),(7,.adr 3 0 0),(8,.own 9 0 s35.2.1.length),(9,.own 10 0 s35.2.2.1.length),(10,.val (.int .i64 s35.2.2.2)),(11,.own 11 0 b37.length),(12,.own 12 0 0)],[(0,.mix 7 [(SF.cells true f_)]),(1,.mix 7 [(SF.cells true g_)]),(2,.mix 7 [[.val (.int .i64 0),.val (.slice none 0 0),.val (.slice none 0 0),.val (.slice none 0 0),.val (.slice none 0 0),.val (.slice none 0 0),.val (.slice none 0 0)]]),(3,.mix 7 [[.val (.int .i64 v1.n),.own 4 0 v1.fr.length,.own 5 0 v1.to.length,.own 6 0 v1.id.length,.own 7 0 v1.cs.length,.own 8 0 s35.1.length,.val (.slice none 0 0)]]),(4,.row 1 (Is v1.fr)),(5,.row 1 (Is v1.to)),(6,.row 1 (Is v1.id)),(7,.row 1 (Ls v1.cs)),(8,.row 1 (Is s35.1)),(9,.row 1 (Ls s35.2.1)),(10,.row 1 (Ls s35.2.2.1)),(11,.row 1 (Is b37)),(12,.mix 1 [])],13⟩) (fun b37=>b37=e37) ?_ ?_
   ·refine Q7 ?_
    refine Q1k h (fun s42:List Int × Int=>⟨[(2,.adr 0 0 0),(3,.adr 1 0 0),(4,.adr 2 0 0),(7,.adr 3 0 0),(8,.own 9 0 s35.2.1.length),(9,.own 10 0 s35.2.2.1.length),(10,.val (.int .i64 s35.2.2.2)),(11,.own 11 0 s42.1.length),(12,.own 12 0 0),(13,.val (.int .i64 s42.2))],[(0,.mix 7 [(SF.cells true f_)]),(1,.mix 7 [(SF.cells true g_)]),(2,.mix 7 [[.val (.int .i64 0),.val (.slice none 0 0),.val (.slice none 0 0),.val (.slice none 0 0),.val (.slice none 0 0),.val (.slice none 0 0),.val (.slice none 0 0)]]),(3,.mix 7 [[.val (.int .i64 v1.n),.own 4 0 v1.fr.length,.own 5 0 v1.to.length,.own 6 0 v1.id.length,.own 7 0 v1.cs.length,.own 8 0 s35.1.length,.val (.slice none 0 0)]]),(4,.row 1 (Is v1.fr)),(5,.row 1 (Is v1.to)),(6,.row 1 (Is v1.id)),(7,.row 1 (Ls v1.cs)),(8,.row 1 (Is s35.1)),(9,.row 1 (Ls s35.2.1)),(10,.row 1 (Ls s35.2.2.1)),(11,.row 1 (Is s42.1)),(12,.mix 1 [])],13⟩) (Q4D ⟨[(2,.adr 0 0 0),(3,.adr 1 0 0),(4,.adr 2 0 0),(7,.adr 3 0 0),(8,.own 9 0 s35.2.1.length),(9,.own 10 0 s35.2.2.1.length),(10,.val (.int .i64 s35.2.2.2)),(11,.own 11 0 0),(12,.own 12 0 0),(13,.val (.int .i64 0))],[(0,.mix 7 [(SF.cells true f_)]),(1,.mix 7 [(SF.cells true g_)]),(2,.mix 7 [[.val (.int .i64 0),.val (.slice none 0 0),.val (.slice none 0 0),.val (.slice none 0 0),.val (.slice none 0 0),.val (.slice none 0 0),.val (.slice none 0 0)]]),(3,.mix 7 [[.val (.int .i64 v1.n),.own 4 0 v1.fr.length,.own 5 0 v1.to.length,.own 6 0 v1.id.length,.own 7 0 v1.cs.length,.own 8 0 s35.1.length,.val (.slice none 0 0)]]),(4,.row 1 (Is v1.fr)),(5,.row 1 (Is v1.to)),(6,.row 1 (Is v1.id)),(7,.row 1 (Ls v1.cs)),(8,.row 1 (Is s35.1)),(9,.row 1 (Ls s35.2.1)),(10,.row 1 (Ls s35.2.2.1)),(11,.row 1 (Is [])),(12,.mix 1 [])],13⟩ (Wk.nils [] (by simp) (by simp) (by simp [nlA]) (by simp [entN,nlL,nlA,Cat.cells,SF.cells,UA,U1,IA,I1,LA,L1,BA,B1,EA,E1,E2,eB,eI,eL]) (by simp)) (wkQ9 [(0,0),(1,1),(2,2),(3,3),(4,4),(5,5),(6,6),(7,7),(8,8),(9,9),(10,10),(11,11),(12,12)])) ?_
    clear h
    intro k42 s42 c42 h hk42
    refine Q2 ?_
    refine Q2 ?_
    refine runQ hN fun K hK=>?_
    replace h:=Qc h
    obtain ⟨a43,h⟩:=h
    simp [-Q1,-Qh,-Q9,-Qi,-Qa,eL,eI,Q4,Qr,Qj,Cat.cells,SF.cells,at_I a43]
    repeat with_reducible refine sdQ ?_
    refine hK _ ?_;clear hK K
    refine tn ?_
    refine Qf (st':=⟨[(2,.adr 0 0 0),(3,.adr 1 0 0),(4,.adr 2 0 0),(7,.adr 3 0 0),(8,.own 9 0 s35.2.1.length),(9,.own 10 0 s35.2.2.1.length),(10,.val (.int .i64 s35.2.2.2)),(11,.own 11 0 s42.1.length),(12,.own 12 0 0),(13,.val (.int .i64 s42.2)),(40,.val (.bool (decide (s42.2<(ix f_.sz s35.2.2.2)))))],[(0,.mix 7 [(SF.cells true f_)]),(1,.mix 7 [(SF.cells true g_)]),(2,.mix 7 [[.val (.int .i64 0),.val (.slice none 0 0),.val (.slice none 0 0),.val (.slice none 0 0),.val (.slice none 0 0),.val (.slice none 0 0),.val (.slice none 0 0)]]),(3,.mix 7 [[.val (.int .i64 v1.n),.own 4 0 v1.fr.length,.own 5 0 v1.to.length,.own 6 0 v1.id.length,.own 7 0 v1.cs.length,.own 8 0 s35.1.length,.val (.slice none 0 0)]]),(4,.row 1 (Is v1.fr)),(5,.row 1 (Is v1.to)),(6,.row 1 (Is v1.id)),(7,.row 1 (Ls v1.cs)),(8,.row 1 (Is s35.1)),(9,.row 1 (Ls s35.2.1)),(10,.row 1 (Ls s35.2.2.1)),(11,.row 1 (Is s42.1)),(12,.mix 1 [])],13⟩) (wkQ9 [(0,0),(1,1),(2,2),(3,3),(4,4),(5,5),(6,6),(7,7),(8,8),(9,9),(10,10),(11,11),(12,12)]) ?_
    refine Q5 rfl (fun g=>?_) fun g=>?_
    ·have g44:s42.2<(ix f_.sz s35.2.2.2):=gQ
     clear g
     replace h:=if_l g44 h
     refine Q6 ?_
     refine tn ?_
     refine Q2 ?_
     refine Q7 ?_
     refine runQ hN fun K hK=>?_
     replace h:=Qc h
     obtain ⟨a45,h⟩:=h
     try simp only [List.length_append,List.length_cons,List.length_nil] at a45
     simp [-Q1,-Qh,-Q9,-Qi,-Qa,eL,eI,Q4,Qr,Qj,Cat.cells,SF.cells,a45]
     repeat with_reducible refine sdQ ?_
     refine hK _ ?_;clear hK K
     refine bn ?_
     refine tn ?_
     refine Qf (st':=⟨[(2,.adr 0 0 0),(3,.adr 1 0 0),(4,.adr 2 0 0),(7,.adr 3 0 0),(8,.own 9 0 s35.2.1.length),(9,.own 10 0 s35.2.2.1.length),(10,.val (.int .i64 s35.2.2.2)),(11,.own 11 0 ((s42.1++[s42.2]).length)),(12,.own 12 0 0),(13,.val (.int .i64 s42.2))],[(0,.mix 7 [(SF.cells true f_)]),(1,.mix 7 [(SF.cells true g_)]),(2,.mix 7 [[.val (.int .i64 0),.val (.slice none 0 0),.val (.slice none 0 0),.val (.slice none 0 0),.val (.slice none 0 0),.val (.slice none 0 0),.val (.slice none 0 0)]]),(3,.mix 7 [[.val (.int .i64 v1.n),.own 4 0 v1.fr.length,.own 5 0 v1.to.length,.own 6 0 v1.id.length,.own 7 0 v1.cs.length,.own 8 0 s35.1.length,.val (.slice none 0 0)]]),(4,.row 1 (Is v1.fr)),(5,.row 1 (Is v1.to)),(6,.row 1 (Is v1.id)),(7,.row 1 (Ls v1.cs)),(8,.row 1 (Is s35.1)),(9,.row 1 (Ls s35.2.1)),(10,.row 1 (Ls s35.2.2.1)),(11,.row 1 (Is (s42.1++[s42.2]))),(12,.mix 1 [])],13⟩) (wkQ9 [(0,0),(1,1),(2,2),(3,3),(4,4),(5,5),(6,6),(7,7),(8,8),(9,9),(10,10),(14,11),(12,12)]) ?_
     refine runQ hN fun K hK=>?_
     replace h:=Qc h
     obtain ⟨a46,h⟩:=h
     simp [-Q1,-Qh,-Q9,-Qi,-Qa,eL,eI,Q4,Qr,Qj,Cat.cells,SF.cells,QA a46]
     repeat with_reducible refine sdQ ?_
     refine hK _ ?_;clear hK K
     cases h
     exact rn (s':=(s42.1++[s42.2],s42.2+1)) hk42 (wkQ9 [(0,0),(1,1),(2,2),(3,3),(4,4),(5,5),(6,6),(7,7),(8,8),(9,9),(10,10),(11,11),(12,12)])
    have g44:¬ (s42.2<(ix f_.sz s35.2.2.2)):=gQ
    clear g
    replace h:=if_r g44 h
    refine Qm ?_
    refine tx ?_
    refine lx ?_
    refine bh ?_
    cases h
    exact jn (b:=s42.1) hk42 (wkQ9 [(0,0),(1,1),(2,2),(3,3),(4,4),(5,5),(6,6),(7,7),(8,8),(9,9),(10,10),(11,11),(12,12)])
   intro b37 hb37
   have h:=h37
   rw [← hb37] at h
   clear h37
   try dsimp only at h
   refine Q2 ?_
   refine Q2 ?_
   refine runQ hN fun K hK=>?_
   simp [-Q1,-Qh,-Q9,-Qi,-Qa,eL,eI,Q4,Qr,Qj,Cat.cells,SF.cells]
   repeat with_reducible refine sdQ ?_
   refine hK _ ?_;clear hK K
   refine tn ?_
   refine Qf (st':=⟨[(2,.adr 0 0 0),(3,.adr 1 0 0),(4,.adr 2 0 0),(7,.adr 3 0 0),(8,.own 9 0 s35.2.1.length),(9,.own 10 0 s35.2.2.1.length),(10,.val (.int .i64 s35.2.2.2)),(11,.own 11 0 b37.length),(12,.own 12 0 0),(14,.val (.int .i64 0))],[(0,.mix 7 [(SF.cells true f_)]),(1,.mix 7 [(SF.cells true g_)]),(2,.mix 7 [[.val (.int .i64 0),.val (.slice none 0 0),.val (.slice none 0 0),.val (.slice none 0 0),.val (.slice none 0 0),.val (.slice none 0 0),.val (.slice none 0 0)]]),(3,.mix 7 [[.val (.int .i64 v1.n),.own 4 0 v1.fr.length,.own 5 0 v1.to.length,.own 6 0 v1.id.length,.own 7 0 v1.cs.length,.own 8 0 s35.1.length,.val (.slice none 0 0)]]),(4,.row 1 (Is v1.fr)),(5,.row 1 (Is v1.to)),(6,.row 1 (Is v1.id)),(7,.row 1 (Ls v1.cs)),(8,.row 1 (Is s35.1)),(9,.row 1 (Ls s35.2.1)),(10,.row 1 (Ls s35.2.2.1)),(11,.row 1 (Is b37)),(12,.mix 1 [])],13⟩) (wkQ9 [(0,0),(1,1),(2,2),(3,3),(4,4),(5,5),(6,6),(7,7),(8,8),(9,9),(10,10),(11,11),(12,12)]) ?_
   replace h:=bind_some h
   obtain ⟨e47,h,h47⟩:=h
   refine Q13 (fun b47:List Int=>⟨[(2,.adr 0 0 0),(3,.adr 1 0 0),(4,.adr 2 0 0),(7,.adr 3 0 0),(8,.own 9 0 s35.2.1.length),(9,.own 10 0 s35.2.2.1.length),(10,.val (.int .i64 s35.2.2.2)),(11,.own 11 0 b37.length),(12,.own 12 0 b47.length)],[(0,.mix 7 [(SF.cells true f_)]),(1,.mix 7 [(SF.cells true g_)]),(2,.mix 7 [[.val (.int .i64 0),.val (.slice none 0 0),.val (.slice none 0 0),.val (.slice none 0 0),.val (.slice none 0 0),.val (.slice none 0 0),.val (.slice none 0 0)]]),(3,.mix 7 [[.val (.int .i64 v1.n),.own 4 0 v1.fr.length,.own 5 0 v1.to.length,.own 6 0 v1.id.length,.own 7 0 v1.cs.length,.own 8 0 s35.1.length,.val (.slice none 0 0)]]),(4,.row 1 (Is v1.fr)),(5,.row 1 (Is v1.to)),(6,.row 1 (Is v1.id)),(7,.row 1 (Ls v1.cs)),(8,.row 1 (Is s35.1)),(9,.row 1 (Ls s35.2.1)),(10,.row 1 (Ls s35.2.2.1)),(11,.row 1 (Is b37)),(12,.row 1 (Is b47))],13⟩) (fun b47=>b47=e47) ?_ ?_
   ·refine Q7 ?_
    refine Q1k h (fun s54:List Int × Int=>⟨[(2,.adr 0 0 0),(3,.adr 1 0 0),(4,.adr 2 0 0),(7,.adr 3 0 0),(8,.own 9 0 s35.2.1.length),(9,.own 10 0 s35.2.2.1.length),(10,.val (.int .i64 s35.2.2.2)),(11,.own 11 0 b37.length),(12,.own 12 0 s54.1.length),(14,.val (.int .i64 s54.2))],[(0,.mix 7 [(SF.cells true f_)]),(1,.mix 7 [(SF.cells true g_)]),(2,.mix 7 [[.val (.int .i64 0),.val (.slice none 0 0),.val (.slice none 0 0),.val (.slice none 0 0),.val (.slice none 0 0),.val (.slice none 0 0),.val (.slice none 0 0)]]),(3,.mix 7 [[.val (.int .i64 v1.n),.own 4 0 v1.fr.length,.own 5 0 v1.to.length,.own 6 0 v1.id.length,.own 7 0 v1.cs.length,.own 8 0 s35.1.length,.val (.slice none 0 0)]]),(4,.row 1 (Is v1.fr)),(5,.row 1 (Is v1.to)),(6,.row 1 (Is v1.id)),(7,.row 1 (Ls v1.cs)),(8,.row 1 (Is s35.1)),(9,.row 1 (Ls s35.2.1)),(10,.row 1 (Ls s35.2.2.1)),(11,.row 1 (Is b37)),(12,.row 1 (Is s54.1))],13⟩) (Q4D ⟨[(2,.adr 0 0 0),(3,.adr 1 0 0),(4,.adr 2 0 0),(7,.adr 3 0 0),(8,.own 9 0 s35.2.1.length),(9,.own 10 0 s35.2.2.1.length),(10,.val (.int .i64 s35.2.2.2)),(11,.own 11 0 b37.length),(12,.own 12 0 0),(14,.val (.int .i64 0))],[(0,.mix 7 [(SF.cells true f_)]),(1,.mix 7 [(SF.cells true g_)]),(2,.mix 7 [[.val (.int .i64 0),.val (.slice none 0 0),.val (.slice none 0 0),.val (.slice none 0 0),.val (.slice none 0 0),.val (.slice none 0 0),.val (.slice none 0 0)]]),(3,.mix 7 [[.val (.int .i64 v1.n),.own 4 0 v1.fr.length,.own 5 0 v1.to.length,.own 6 0 v1.id.length,.own 7 0 v1.cs.length,.own 8 0 s35.1.length,.val (.slice none 0 0)]]),(4,.row 1 (Is v1.fr)),(5,.row 1 (Is v1.to)),(6,.row 1 (Is v1.id)),(7,.row 1 (Ls v1.cs)),(8,.row 1 (Is s35.1)),(9,.row 1 (Ls s35.2.1)),(10,.row 1 (Ls s35.2.2.1)),(11,.row 1 (Is b37)),(12,.row 1 (Is []))],13⟩ (Wk.nils [] (by simp) (by simp) (by simp [nlA]) (by simp [entN,nlL,nlA,Cat.cells,SF.cells,UA,U1,IA,I1,LA,L1,BA,B1,EA,E1,E2,eB,eI,eL]) (by simp)) (wkQ9 [(0,0),(1,1),(2,2),(3,3),(4,4),(5,5),(6,6),(7,7),(8,8),(9,9),(10,10),(11,11),(12,12)])) ?_
    clear h
    intro k54 s54 c54 h hk54
    refine Q2 ?_
    refine Q2 ?_
    refine runQ hN fun K hK=>?_
    replace h:=Qc h
    obtain ⟨a55,h⟩:=h
    simp [-Q1,-Qh,-Q9,-Qi,-Qa,eL,eI,Q4,Qr,Qj,Cat.cells,SF.cells,at_I a55]
    repeat with_reducible refine sdQ ?_
    refine hK _ ?_;clear hK K
    refine tn ?_
    refine Qf (st':=⟨[(2,.adr 0 0 0),(3,.adr 1 0 0),(4,.adr 2 0 0),(7,.adr 3 0 0),(8,.own 9 0 s35.2.1.length),(9,.own 10 0 s35.2.2.1.length),(10,.val (.int .i64 s35.2.2.2)),(11,.own 11 0 b37.length),(12,.own 12 0 s54.1.length),(14,.val (.int .i64 s54.2)),(53,.val (.bool (decide (s54.2<(ix g_.sz s35.2.2.2)))))],[(0,.mix 7 [(SF.cells true f_)]),(1,.mix 7 [(SF.cells true g_)]),(2,.mix 7 [[.val (.int .i64 0),.val (.slice none 0 0),.val (.slice none 0 0),.val (.slice none 0 0),.val (.slice none 0 0),.val (.slice none 0 0),.val (.slice none 0 0)]]),(3,.mix 7 [[.val (.int .i64 v1.n),.own 4 0 v1.fr.length,.own 5 0 v1.to.length,.own 6 0 v1.id.length,.own 7 0 v1.cs.length,.own 8 0 s35.1.length,.val (.slice none 0 0)]]),(4,.row 1 (Is v1.fr)),(5,.row 1 (Is v1.to)),(6,.row 1 (Is v1.id)),(7,.row 1 (Ls v1.cs)),(8,.row 1 (Is s35.1)),(9,.row 1 (Ls s35.2.1)),(10,.row 1 (Ls s35.2.2.1)),(11,.row 1 (Is b37)),(12,.row 1 (Is s54.1))],13⟩) (wkQ9 [(0,0),(1,1),(2,2),(3,3),(4,4),(5,5),(6,6),(7,7),(8,8),(9,9),(10,10),(11,11),(12,12)]) ?_
    refine Q5 rfl (fun g=>?_) fun g=>?_
    ·have g56:s54.2<(ix g_.sz s35.2.2.2):=gQ
     clear g
     replace h:=if_l g56 h
     refine Q6 ?_
     refine tn ?_
     refine Q2 ?_
     refine Q7 ?_
     refine runQ hN fun K hK=>?_
     replace h:=Qc h
     obtain ⟨a57,h⟩:=h
     replace h:=Qc h
     obtain ⟨a58,h⟩:=h
     replace h:=Qc h
     obtain ⟨a59,h⟩:=h
     try simp only [List.length_append,List.length_cons,List.length_nil] at a59
     simp [-Q1,-Qh,-Q9,-Qi,-Qa,eL,eI,Q4,Qr,Qj,Cat.cells,SF.cells,at_I a57,QA a58,a59]
     repeat with_reducible refine sdQ ?_
     refine hK _ ?_;clear hK K
     refine bn ?_
     refine tn ?_
     refine Qf (st':=⟨[(2,.adr 0 0 0),(3,.adr 1 0 0),(4,.adr 2 0 0),(7,.adr 3 0 0),(8,.own 9 0 s35.2.1.length),(9,.own 10 0 s35.2.2.1.length),(10,.val (.int .i64 s35.2.2.2)),(11,.own 11 0 b37.length),(12,.own 12 0 ((s54.1++[(ix f_.sz s35.2.2.2)+s54.2]).length)),(14,.val (.int .i64 s54.2))],[(0,.mix 7 [(SF.cells true f_)]),(1,.mix 7 [(SF.cells true g_)]),(2,.mix 7 [[.val (.int .i64 0),.val (.slice none 0 0),.val (.slice none 0 0),.val (.slice none 0 0),.val (.slice none 0 0),.val (.slice none 0 0),.val (.slice none 0 0)]]),(3,.mix 7 [[.val (.int .i64 v1.n),.own 4 0 v1.fr.length,.own 5 0 v1.to.length,.own 6 0 v1.id.length,.own 7 0 v1.cs.length,.own 8 0 s35.1.length,.val (.slice none 0 0)]]),(4,.row 1 (Is v1.fr)),(5,.row 1 (Is v1.to)),(6,.row 1 (Is v1.id)),(7,.row 1 (Ls v1.cs)),(8,.row 1 (Is s35.1)),(9,.row 1 (Ls s35.2.1)),(10,.row 1 (Ls s35.2.2.1)),(11,.row 1 (Is b37)),(12,.row 1 (Is (s54.1++[(ix f_.sz s35.2.2.2)+s54.2])))],13⟩) (wkQ9 [(0,0),(1,1),(2,2),(3,3),(4,4),(5,5),(6,6),(7,7),(8,8),(9,9),(10,10),(11,11),(14,12)]) ?_
     refine runQ hN fun K hK=>?_
     replace h:=Qc h
     obtain ⟨a60,h⟩:=h
     simp [-Q1,-Qh,-Q9,-Qi,-Qa,eL,eI,Q4,Qr,Qj,Cat.cells,SF.cells,QA a60]
     repeat with_reducible refine sdQ ?_
     refine hK _ ?_;clear hK K
     cases h
     exact rn (s':=(s54.1++[(ix f_.sz s35.2.2.2)+s54.2],s54.2+1)) hk54 (wkQ9 [(0,0),(1,1),(2,2),(3,3),(4,4),(5,5),(6,6),(7,7),(8,8),(9,9),(10,10),(11,11),(12,12)])
    have g56:¬ (s54.2<(ix g_.sz s35.2.2.2)):=gQ
    clear g
    replace h:=if_r g56 h
    refine Qm ?_
    refine tx ?_
    refine lx ?_
    refine bh ?_
    cases h
    exact jn (b:=s54.1) hk54 (wkQ9 [(0,0),(1,1),(2,2),(3,3),(4,4),(5,5),(6,6),(7,7),(8,8),(9,9),(10,10),(11,11),(12,12)])
   intro b47 hb47
   have h:=h47
   rw [← hb47] at h
   clear h47
   try dsimp only at h
   refine Q2 ?_
   refine runQ hN fun K hK=>?_
   replace h:=Qc h
   obtain ⟨a61,h⟩:=h
   replace h:=Qc h
   obtain ⟨a62,h⟩:=h
   replace h:=Qc h
   obtain ⟨a63,h⟩:=h
   replace h:=Qc h
   obtain ⟨a64,h⟩:=h
   try simp only [List.length_append,List.length_cons,List.length_nil] at a64
   simp [-Q1,-Qh,-Q9,-Qi,-Qa,eL,eI,Q4,Qr,Qj,Cat.cells,SF.cells,at_I a61,at_I a62,QA a63,a64]
   repeat with_reducible refine sdQ ?_
   refine hK _ ?_;clear hK K
   refine tn ?_
   refine Qf (st':=⟨[(2,.adr 0 0 0),(3,.adr 1 0 0),(4,.adr 2 0 0),(7,.adr 3 0 0),(8,.own 9 0 s35.2.1.length),(9,.own 10 0 s35.2.2.1.length),(10,.val (.int .i64 s35.2.2.2)),(11,.own 11 0 b37.length),(12,.own 12 0 b47.length)],[(0,.mix 7 [(SF.cells true f_)]),(1,.mix 7 [(SF.cells true g_)]),(2,.mix 7 [[.val (.int .i64 0),.val (.slice none 0 0),.val (.slice none 0 0),.val (.slice none 0 0),.val (.slice none 0 0),.val (.slice none 0 0),.val (.slice none 0 0)]]),(3,.mix 7 [[.val (.int .i64 v1.n),.own 4 0 v1.fr.length,.own 5 0 v1.to.length,.own 6 0 v1.id.length,.own 7 0 v1.cs.length,.own 8 0 ((s35.1++[(ix f_.sz s35.2.2.2)+(ix g_.sz s35.2.2.2)]).length),.val (.slice none 0 0)]]),(4,.row 1 (Is v1.fr)),(5,.row 1 (Is v1.to)),(6,.row 1 (Is v1.id)),(7,.row 1 (Ls v1.cs)),(8,.row 1 (Is (s35.1++[(ix f_.sz s35.2.2.2)+(ix g_.sz s35.2.2.2)]))),(9,.row 1 (Ls s35.2.1)),(10,.row 1 (Ls s35.2.2.1)),(11,.row 1 (Is b37)),(12,.row 1 (Is b47))],13⟩) (wkQ9 [(0,0),(1,1),(2,2),(3,3),(4,4),(5,5),(6,6),(7,7),(14,8),(9,9),(10,10),(11,11),(12,12)]) ?_
   refine Q2 ?_
   refine runQ hN fun K hK=>?_
   replace h:=Qc h
   obtain ⟨a65,h⟩:=h
   try simp only [List.length_append,List.length_cons,List.length_nil] at a65
   simp [-Q1,-Qh,-Q9,-Qi,-Qa,eL,eI,Q4,Qr,Qj,Cat.cells,SF.cells,a65]
   repeat with_reducible refine sdQ ?_
   refine hK _ ?_;clear hK K
   refine tn ?_
   refine Qf (st':=⟨[(2,.adr 0 0 0),(3,.adr 1 0 0),(4,.adr 2 0 0),(7,.adr 3 0 0),(8,.own 9 0 ((s35.2.1++[b37]).length)),(9,.own 10 0 s35.2.2.1.length),(10,.val (.int .i64 s35.2.2.2)),(12,.own 11 0 b47.length)],[(0,.mix 7 [(SF.cells true f_)]),(1,.mix 7 [(SF.cells true g_)]),(2,.mix 7 [[.val (.int .i64 0),.val (.slice none 0 0),.val (.slice none 0 0),.val (.slice none 0 0),.val (.slice none 0 0),.val (.slice none 0 0),.val (.slice none 0 0)]]),(3,.mix 7 [[.val (.int .i64 v1.n),.own 4 0 v1.fr.length,.own 5 0 v1.to.length,.own 6 0 v1.id.length,.own 7 0 v1.cs.length,.own 8 0 ((s35.1++[(ix f_.sz s35.2.2.2)+(ix g_.sz s35.2.2.2)]).length),.val (.slice none 0 0)]]),(4,.row 1 (Is v1.fr)),(5,.row 1 (Is v1.to)),(6,.row 1 (Is v1.id)),(7,.row 1 (Ls v1.cs)),(8,.row 1 (Is (s35.1++[(ix f_.sz s35.2.2.2)+(ix g_.sz s35.2.2.2)]))),(9,.row 1 (Ls (s35.2.1++[b37]))),(10,.row 1 (Ls s35.2.2.1)),(11,.row 1 (Is b47))],12⟩) (wkQ9 [(0,0),(1,1),(2,2),(3,3),(4,4),(5,5),(6,6),(7,7),(8,8),(14,9),(10,10),(12,11)]) ?_
   refine runQ hN fun K hK=>?_
   replace h:=Qc h
   obtain ⟨a66,h⟩:=h
   try simp only [List.length_append,List.length_cons,List.length_nil] at a66
   simp [-Q1,-Qh,-Q9,-Qi,-Qa,eL,eI,Q4,Qr,Qj,Cat.cells,SF.cells,a66]
   repeat with_reducible refine sdQ ?_
   refine hK _ ?_;clear hK K
   refine bn ?_
   refine tn ?_
   refine Qf (st':=⟨[(2,.adr 0 0 0),(3,.adr 1 0 0),(4,.adr 2 0 0),(7,.adr 3 0 0),(8,.own 9 0 ((s35.2.1++[b37]).length)),(9,.own 10 0 ((s35.2.2.1++[b47]).length)),(10,.val (.int .i64 s35.2.2.2))],[(0,.mix 7 [(SF.cells true f_)]),(1,.mix 7 [(SF.cells true g_)]),(2,.mix 7 [[.val (.int .i64 0),.val (.slice none 0 0),.val (.slice none 0 0),.val (.slice none 0 0),.val (.slice none 0 0),.val (.slice none 0 0),.val (.slice none 0 0)]]),(3,.mix 7 [[.val (.int .i64 v1.n),.own 4 0 v1.fr.length,.own 5 0 v1.to.length,.own 6 0 v1.id.length,.own 7 0 v1.cs.length,.own 8 0 ((s35.1++[(ix f_.sz s35.2.2.2)+(ix g_.sz s35.2.2.2)]).length),.val (.slice none 0 0)]]),(4,.row 1 (Is v1.fr)),(5,.row 1 (Is v1.to)),(6,.row 1 (Is v1.id)),(7,.row 1 (Ls v1.cs)),(8,.row 1 (Is (s35.1++[(ix f_.sz s35.2.2.2)+(ix g_.sz s35.2.2.2)]))),(9,.row 1 (Ls (s35.2.1++[b37]))),(10,.row 1 (Ls (s35.2.2.1++[b47])))],11⟩) (wkQ9 [(0,0),(1,1),(2,2),(3,3),(4,4),(5,5),(6,6),(7,7),(8,8),(9,9),(13,10)]) ?_
   refine runQ hN fun K hK=>?_
   replace h:=Qc h
   obtain ⟨a67,h⟩:=h
   simp [-Q1,-Qh,-Q9,-Qi,-Qa,eL,eI,Q4,Qr,Qj,Cat.cells,SF.cells,QA a67]
   repeat with_reducible refine sdQ ?_
   refine hK _ ?_;clear hK K
   cases h
   exact rn (s':=(s35.1++[(ix f_.sz s35.2.2.2)+(ix g_.sz s35.2.2.2)],s35.2.1++[b37],s35.2.2.1++[b47],s35.2.2.2+1)) hk35 (wkQ9 [(0,0),(1,1),(2,2),(3,3),(4,4),(5,5),(6,6),(7,7),(8,8),(9,9),(10,10)])
  have g36:¬ (s35.2.2.2<(f_.sz.length:Int)):=gQ
  clear g
  replace h:=if_r g36 h
  refine Qm ?_
  refine tx ?_
  refine lx ?_
  refine bh ?_
  cases h
  exact jn (b:=(s35.1,s35.2.1,s35.2.2.1)) hk35 (wkQ9 [(0,0),(1,1),(2,2),(3,3),(4,4),(5,5),(6,6),(7,7),(8,8),(9,9),(10,10)])
 intro b2 hb2
 have h:=h2
 rw [← hb2] at h
 clear h2
 try dsimp only at h
 refine Q2 ?_
 refine Q2 ?_
 refine runQ hN fun K hK=>?_
 simp [-Q1,-Qh,-Q9,-Qi,-Qa,eL,eI,Q4,Qr,Qj,Cat.cells,SF.cells]
 repeat with_reducible refine sdQ ?_
 refine hK _ ?_;clear hK K
 refine tn ?_
 refine Qf (st':=⟨[(2,.adr 0 0 0),(3,.adr 1 0 0),(4,.adr 2 0 0),(7,.adr 3 0 0),(8,.own 9 0 b2.2.1.length),(9,.own 10 0 b2.2.2.length),(15,.val (.int .i64 0))],[(0,.mix 7 [(SF.cells true f_)]),(1,.mix 7 [(SF.cells true g_)]),(2,.mix 7 [[.val (.int .i64 0),.val (.slice none 0 0),.val (.slice none 0 0),.val (.slice none 0 0),.val (.slice none 0 0),.val (.slice none 0 0),.val (.slice none 0 0)]]),(3,.mix 7 [[.val (.int .i64 v1.n),.own 4 0 v1.fr.length,.own 5 0 v1.to.length,.own 6 0 v1.id.length,.own 7 0 v1.cs.length,.own 8 0 b2.1.length,.val (.slice none 0 0)]]),(4,.row 1 (Is v1.fr)),(5,.row 1 (Is v1.to)),(6,.row 1 (Is v1.id)),(7,.row 1 (Ls v1.cs)),(8,.row 1 (Is b2.1)),(9,.row 1 (Ls b2.2.1)),(10,.row 1 (Ls b2.2.2))],11⟩) (wkQ9 [(0,0),(1,1),(2,2),(3,3),(4,4),(5,5),(6,6),(7,7),(8,8),(9,9),(10,10)]) ?_
 replace h:=bind_some h
 obtain ⟨e68,h,h68⟩:=h
 refine Q13 (fun b68:List (List Int)=>⟨[(4,.adr 0 0 0),(7,.adr 1 0 0),(8,.own 8 0 b2.2.1.length),(9,.own 9 0 b2.2.2.length)],[(0,.mix 7 [[.val (.int .i64 0),.val (.slice none 0 0),.val (.slice none 0 0),.val (.slice none 0 0),.val (.slice none 0 0),.val (.slice none 0 0),.val (.slice none 0 0)]]),(1,.mix 7 [[.val (.int .i64 v1.n),.own 2 0 v1.fr.length,.own 3 0 v1.to.length,.own 4 0 v1.id.length,.own 5 0 v1.cs.length,.own 6 0 b2.1.length,.own 7 0 b68.length]]),(2,.row 1 (Is v1.fr)),(3,.row 1 (Is v1.to)),(4,.row 1 (Is v1.id)),(5,.row 1 (Ls v1.cs)),(6,.row 1 (Is b2.1)),(7,.row 1 (Ls b68)),(8,.row 1 (Ls b2.2.1)),(9,.row 1 (Ls b2.2.2))],10⟩) (fun b68=>b68=e68) ?_ ?_
 ·refine Q7 ?_
  refine Q1k h (fun s93:List (List Int) × Int=>⟨[(2,.adr 0 0 0),(3,.adr 1 0 0),(4,.adr 2 0 0),(7,.adr 3 0 0),(8,.own 10 0 b2.2.1.length),(9,.own 11 0 b2.2.2.length),(15,.val (.int .i64 s93.2))],[(0,.mix 7 [(SF.cells true f_)]),(1,.mix 7 [(SF.cells true g_)]),(2,.mix 7 [[.val (.int .i64 0),.val (.slice none 0 0),.val (.slice none 0 0),.val (.slice none 0 0),.val (.slice none 0 0),.val (.slice none 0 0),.val (.slice none 0 0)]]),(3,.mix 7 [[.val (.int .i64 v1.n),.own 4 0 v1.fr.length,.own 5 0 v1.to.length,.own 6 0 v1.id.length,.own 7 0 v1.cs.length,.own 8 0 b2.1.length,.own 9 0 s93.1.length]]),(4,.row 1 (Is v1.fr)),(5,.row 1 (Is v1.to)),(6,.row 1 (Is v1.id)),(7,.row 1 (Ls v1.cs)),(8,.row 1 (Is b2.1)),(9,.row 1 (Ls s93.1)),(10,.row 1 (Ls b2.2.1)),(11,.row 1 (Ls b2.2.2))],12⟩) (Q4D ⟨[(2,.adr 0 0 0),(3,.adr 1 0 0),(4,.adr 2 0 0),(7,.adr 3 0 0),(8,.own 9 0 b2.2.1.length),(9,.own 10 0 b2.2.2.length),(15,.val (.int .i64 0))],[(0,.mix 7 [(SF.cells true f_)]),(1,.mix 7 [(SF.cells true g_)]),(2,.mix 7 [[.val (.int .i64 0),.val (.slice none 0 0),.val (.slice none 0 0),.val (.slice none 0 0),.val (.slice none 0 0),.val (.slice none 0 0),.val (.slice none 0 0)]]),(3,.mix 7 [[.val (.int .i64 v1.n),.own 4 0 v1.fr.length,.own 5 0 v1.to.length,.own 6 0 v1.id.length,.own 7 0 v1.cs.length,.own 8 0 b2.1.length,.own 11 0 0]]),(4,.row 1 (Is v1.fr)),(5,.row 1 (Is v1.to)),(6,.row 1 (Is v1.id)),(7,.row 1 (Ls v1.cs)),(8,.row 1 (Is b2.1)),(9,.row 1 (Ls b2.2.1)),(10,.row 1 (Ls b2.2.2)),(11,.row 1 (Ls []))],12⟩ (Wk.nils [(11,1)] (by simp) (by simp) (by simp [nlA]) (by simp [entN,nlL,nlA,Cat.cells,SF.cells,UA,U1,IA,I1,LA,L1,BA,B1,EA,E1,E2,eB,eI,eL]) (by simp)) (wkQ9 [(0,0),(1,1),(2,2),(3,3),(4,4),(5,5),(6,6),(7,7),(8,8),(11,9),(9,10),(10,11)])) ?_
  clear h
  intro k93 s93 c93 h hk93
  refine Q2 ?_
  refine Q2 ?_
  refine runQ hN fun K hK=>?_
  simp [-Q1,-Qh,-Q9,-Qi,-Qa,eL,eI,Q4,Qr,Qj,Cat.cells,SF.cells]
  repeat with_reducible refine sdQ ?_
  refine hK _ ?_;clear hK K
  refine tn ?_
  refine Qf (st':=⟨[(2,.adr 0 0 0),(3,.adr 1 0 0),(4,.adr 2 0 0),(7,.adr 3 0 0),(8,.own 10 0 b2.2.1.length),(9,.own 11 0 b2.2.2.length),(15,.val (.int .i64 s93.2)),(94,.val (.bool (decide (s93.2<(f_.ac.length:Int)))))],[(0,.mix 7 [(SF.cells true f_)]),(1,.mix 7 [(SF.cells true g_)]),(2,.mix 7 [[.val (.int .i64 0),.val (.slice none 0 0),.val (.slice none 0 0),.val (.slice none 0 0),.val (.slice none 0 0),.val (.slice none 0 0),.val (.slice none 0 0)]]),(3,.mix 7 [[.val (.int .i64 v1.n),.own 4 0 v1.fr.length,.own 5 0 v1.to.length,.own 6 0 v1.id.length,.own 7 0 v1.cs.length,.own 8 0 b2.1.length,.own 9 0 s93.1.length]]),(4,.row 1 (Is v1.fr)),(5,.row 1 (Is v1.to)),(6,.row 1 (Is v1.id)),(7,.row 1 (Ls v1.cs)),(8,.row 1 (Is b2.1)),(9,.row 1 (Ls s93.1)),(10,.row 1 (Ls b2.2.1)),(11,.row 1 (Ls b2.2.2))],12⟩) (wkQ9 [(0,0),(1,1),(2,2),(3,3),(4,4),(5,5),(6,6),(7,7),(8,8),(9,9),(10,10),(11,11)]) ?_
  refine Q5 rfl (fun g=>?_) fun g=>?_
  ·have g94:s93.2<(f_.ac.length:Int):=gQ
   clear g
   replace h:=if_l g94 h
   refine Q6 ?_
   refine tn ?_
   refine Q2 ?_
   refine Q7 ?_
   refine Q2 ?_
   refine runQ hN fun K hK=>?_
   replace h:=Qc h
   obtain ⟨a95,h⟩:=h
   replace h:=Qc h
   obtain ⟨a96,h⟩:=h
   simp [-Q1,-Qh,-Q9,-Qi,-Qa,eL,eI,Q4,Qr,Qj,Cat.cells,SF.cells,at_I a95,at_L a96]
   repeat with_reducible refine sdQ ?_
   replace h:=bind_some h
   obtain ⟨v97,hv97,h⟩:=h
   refine Q0 (Q4j _ v97 hv97) (.cons .lst .nil) ?_
   simp [-Q1,-Qh,-Q9,-Qi,-Qa,unk,unA,unE,unT,unC,flat,eL,eI,Q4,Qr,Qj,Cat.cells,SF.cells,at_I a95,at_L a96]
   repeat with_reducible refine sdQ ?_
   refine hK _ ?_;clear hK K
   refine tn ?_
   refine Qf (st':=⟨[(2,.adr 0 0 0),(3,.adr 1 0 0),(4,.adr 2 0 0),(7,.adr 3 0 0),(8,.own 10 0 b2.2.1.length),(9,.own 11 0 b2.2.2.length),(15,.val (.int .i64 s93.2)),(16,.val (.int .i64 (ix f_.s.to s93.2))),(17,.own 12 0 v97.length)],[(0,.mix 7 [(SF.cells true f_)]),(1,.mix 7 [(SF.cells true g_)]),(2,.mix 7 [[.val (.int .i64 0),.val (.slice none 0 0),.val (.slice none 0 0),.val (.slice none 0 0),.val (.slice none 0 0),.val (.slice none 0 0),.val (.slice none 0 0)]]),(3,.mix 7 [[.val (.int .i64 v1.n),.own 4 0 v1.fr.length,.own 5 0 v1.to.length,.own 6 0 v1.id.length,.own 7 0 v1.cs.length,.own 8 0 b2.1.length,.own 9 0 s93.1.length]]),(4,.row 1 (Is v1.fr)),(5,.row 1 (Is v1.to)),(6,.row 1 (Is v1.id)),(7,.row 1 (Ls v1.cs)),(8,.row 1 (Is b2.1)),(9,.row 1 (Ls s93.1)),(10,.row 1 (Ls b2.2.1)),(11,.row 1 (Ls b2.2.2)),(12,.row 1 (Is v97))],13⟩) (wkQ9 [(0,0),(1,1),(2,2),(3,3),(4,4),(5,5),(6,6),(7,7),(8,8),(9,9),(10,10),(11,11),(12,12)]) ?_
   refine Q2 ?_
   refine Q2 ?_
   refine runQ hN fun K hK=>?_
   simp [-Q1,-Qh,-Q9,-Qi,-Qa,eL,eI,Q4,Qr,Qj,Cat.cells,SF.cells]
   repeat with_reducible refine sdQ ?_
   refine hK _ ?_;clear hK K
   refine tn ?_
   refine Qf (st':=⟨[(2,.adr 0 0 0),(3,.adr 1 0 0),(4,.adr 2 0 0),(7,.adr 3 0 0),(8,.own 10 0 b2.2.1.length),(9,.own 11 0 b2.2.2.length),(15,.val (.int .i64 s93.2)),(16,.val (.int .i64 (ix f_.s.to s93.2))),(17,.own 12 0 v97.length),(18,.val (.int .i64 0))],[(0,.mix 7 [(SF.cells true f_)]),(1,.mix 7 [(SF.cells true g_)]),(2,.mix 7 [[.val (.int .i64 0),.val (.slice none 0 0),.val (.slice none 0 0),.val (.slice none 0 0),.val (.slice none 0 0),.val (.slice none 0 0),.val (.slice none 0 0)]]),(3,.mix 7 [[.val (.int .i64 v1.n),.own 4 0 v1.fr.length,.own 5 0 v1.to.length,.own 6 0 v1.id.length,.own 7 0 v1.cs.length,.own 8 0 b2.1.length,.own 9 0 s93.1.length]]),(4,.row 1 (Is v1.fr)),(5,.row 1 (Is v1.to)),(6,.row 1 (Is v1.id)),(7,.row 1 (Ls v1.cs)),(8,.row 1 (Is b2.1)),(9,.row 1 (Ls s93.1)),(10,.row 1 (Ls b2.2.1)),(11,.row 1 (Ls b2.2.2)),(12,.row 1 (Is v97))],13⟩) (wkQ9 [(0,0),(1,1),(2,2),(3,3),(4,4),(5,5),(6,6),(7,7),(8,8),(9,9),(10,10),(11,11),(12,12)]) ?_
   replace h:=bind_some h
   obtain ⟨e98,h,h98⟩:=h
   refine Q13 (fun b98:List Int=>⟨[(2,.adr 0 0 0),(3,.adr 1 0 0),(4,.adr 2 0 0),(7,.adr 3 0 0),(8,.own 10 0 b2.2.1.length),(9,.own 11 0 b2.2.2.length),(15,.val (.int .i64 s93.2)),(17,.own 12 0 b98.length)],[(0,.mix 7 [(SF.cells true f_)]),(1,.mix 7 [(SF.cells true g_)]),(2,.mix 7 [[.val (.int .i64 0),.val (.slice none 0 0),.val (.slice none 0 0),.val (.slice none 0 0),.val (.slice none 0 0),.val (.slice none 0 0),.val (.slice none 0 0)]]),(3,.mix 7 [[.val (.int .i64 v1.n),.own 4 0 v1.fr.length,.own 5 0 v1.to.length,.own 6 0 v1.id.length,.own 7 0 v1.cs.length,.own 8 0 b2.1.length,.own 9 0 s93.1.length]]),(4,.row 1 (Is v1.fr)),(5,.row 1 (Is v1.to)),(6,.row 1 (Is v1.id)),(7,.row 1 (Ls v1.cs)),(8,.row 1 (Is b2.1)),(9,.row 1 (Ls s93.1)),(10,.row 1 (Ls b2.2.1)),(11,.row 1 (Ls b2.2.2)),(12,.row 1 (Is b98))],13⟩) (fun b98=>b98=e98) ?_ ?_
   ·refine Q7 ?_
    refine Q1k h (fun s107:List Int × Int=>⟨[(2,.adr 0 0 0),(3,.adr 1 0 0),(4,.adr 2 0 0),(7,.adr 3 0 0),(8,.own 10 0 b2.2.1.length),(9,.own 11 0 b2.2.2.length),(15,.val (.int .i64 s93.2)),(16,.val (.int .i64 (ix f_.s.to s93.2))),(17,.own 12 0 s107.1.length),(18,.val (.int .i64 s107.2))],[(0,.mix 7 [(SF.cells true f_)]),(1,.mix 7 [(SF.cells true g_)]),(2,.mix 7 [[.val (.int .i64 0),.val (.slice none 0 0),.val (.slice none 0 0),.val (.slice none 0 0),.val (.slice none 0 0),.val (.slice none 0 0),.val (.slice none 0 0)]]),(3,.mix 7 [[.val (.int .i64 v1.n),.own 4 0 v1.fr.length,.own 5 0 v1.to.length,.own 6 0 v1.id.length,.own 7 0 v1.cs.length,.own 8 0 b2.1.length,.own 9 0 s93.1.length]]),(4,.row 1 (Is v1.fr)),(5,.row 1 (Is v1.to)),(6,.row 1 (Is v1.id)),(7,.row 1 (Ls v1.cs)),(8,.row 1 (Is b2.1)),(9,.row 1 (Ls s93.1)),(10,.row 1 (Ls b2.2.1)),(11,.row 1 (Ls b2.2.2)),(12,.row 1 (Is s107.1))],13⟩) (wkQ9 [(0,0),(1,1),(2,2),(3,3),(4,4),(5,5),(6,6),(7,7),(8,8),(9,9),(10,10),(11,11),(12,12)]) ?_
    clear h
    intro k107 s107 c107 h hk107
    refine Q2 ?_
    refine Q2 ?_
    refine runQ hN fun K hK=>?_
    replace h:=Qc h
    obtain ⟨a108,h⟩:=h
    simp [-Q1,-Qh,-Q9,-Qi,-Qa,eL,eI,Q4,Qr,Qj,Cat.cells,SF.cells,at_L a108]
    repeat with_reducible refine sdQ ?_
    refine hK _ ?_;clear hK K
    refine tn ?_
    refine Qf (st':=⟨[(2,.adr 0 0 0),(3,.adr 1 0 0),(4,.adr 2 0 0),(7,.adr 3 0 0),(8,.own 10 0 b2.2.1.length),(9,.own 11 0 b2.2.2.length),(15,.val (.int .i64 s93.2)),(16,.val (.int .i64 (ix f_.s.to s93.2))),(17,.own 12 0 s107.1.length),(18,.val (.int .i64 s107.2)),(116,.val (.bool (decide (s107.2<((rx g_.ac s93.2).length:Int)))))],[(0,.mix 7 [(SF.cells true f_)]),(1,.mix 7 [(SF.cells true g_)]),(2,.mix 7 [[.val (.int .i64 0),.val (.slice none 0 0),.val (.slice none 0 0),.val (.slice none 0 0),.val (.slice none 0 0),.val (.slice none 0 0),.val (.slice none 0 0)]]),(3,.mix 7 [[.val (.int .i64 v1.n),.own 4 0 v1.fr.length,.own 5 0 v1.to.length,.own 6 0 v1.id.length,.own 7 0 v1.cs.length,.own 8 0 b2.1.length,.own 9 0 s93.1.length]]),(4,.row 1 (Is v1.fr)),(5,.row 1 (Is v1.to)),(6,.row 1 (Is v1.id)),(7,.row 1 (Ls v1.cs)),(8,.row 1 (Is b2.1)),(9,.row 1 (Ls s93.1)),(10,.row 1 (Ls b2.2.1)),(11,.row 1 (Ls b2.2.2)),(12,.row 1 (Is s107.1))],13⟩) (wkQ9 [(0,0),(1,1),(2,2),(3,3),(4,4),(5,5),(6,6),(7,7),(8,8),(9,9),(10,10),(11,11),(12,12)]) ?_
    refine Q5 rfl (fun g=>?_) fun g=>?_
    ·have g109:s107.2<((rx g_.ac s93.2).length:Int):=gQ
     clear g
     replace h:=if_l g109 h
     refine Q6 ?_
     refine tn ?_
     refine Q2 ?_
     refine Q7 ?_
     refine runQ hN fun K hK=>?_
     replace h:=Qc h
     obtain ⟨a110,h⟩:=h
     replace h:=Qc h
     obtain ⟨a111,h⟩:=h
     replace h:=Qc h
     obtain ⟨a112,h⟩:=h
     replace h:=Qc h
     obtain ⟨a113,h⟩:=h
     replace h:=Qc h
     obtain ⟨a114,h⟩:=h
     try simp only [List.length_append,List.length_cons,List.length_nil] at a114
     simp [-Q1,-Qh,-Q9,-Qi,-Qa,eL,eI,Q4,Qr,Qj,Cat.cells,SF.cells,at_I a110,at_L a111,at_I a112,QA a113,a114]
     repeat with_reducible refine sdQ ?_
     refine hK _ ?_;clear hK K
     refine bn ?_
     refine tn ?_
     refine Qf (st':=⟨[(2,.adr 0 0 0),(3,.adr 1 0 0),(4,.adr 2 0 0),(7,.adr 3 0 0),(8,.own 10 0 b2.2.1.length),(9,.own 11 0 b2.2.2.length),(15,.val (.int .i64 s93.2)),(16,.val (.int .i64 (ix f_.s.to s93.2))),(17,.own 12 0 ((s107.1++[(ix f_.sz (ix f_.s.to s93.2))+(ix (rx g_.ac s93.2) s107.2)]).length)),(18,.val (.int .i64 s107.2))],[(0,.mix 7 [(SF.cells true f_)]),(1,.mix 7 [(SF.cells true g_)]),(2,.mix 7 [[.val (.int .i64 0),.val (.slice none 0 0),.val (.slice none 0 0),.val (.slice none 0 0),.val (.slice none 0 0),.val (.slice none 0 0),.val (.slice none 0 0)]]),(3,.mix 7 [[.val (.int .i64 v1.n),.own 4 0 v1.fr.length,.own 5 0 v1.to.length,.own 6 0 v1.id.length,.own 7 0 v1.cs.length,.own 8 0 b2.1.length,.own 9 0 s93.1.length]]),(4,.row 1 (Is v1.fr)),(5,.row 1 (Is v1.to)),(6,.row 1 (Is v1.id)),(7,.row 1 (Ls v1.cs)),(8,.row 1 (Is b2.1)),(9,.row 1 (Ls s93.1)),(10,.row 1 (Ls b2.2.1)),(11,.row 1 (Ls b2.2.2)),(12,.row 1 (Is (s107.1++[(ix f_.sz (ix f_.s.to s93.2))+(ix (rx g_.ac s93.2) s107.2)])))],13⟩) (wkQ9 [(0,0),(1,1),(2,2),(3,3),(4,4),(5,5),(6,6),(7,7),(8,8),(9,9),(10,10),(11,11),(14,12)]) ?_
     refine runQ hN fun K hK=>?_
     replace h:=Qc h
     obtain ⟨a115,h⟩:=h
     simp [-Q1,-Qh,-Q9,-Qi,-Qa,eL,eI,Q4,Qr,Qj,Cat.cells,SF.cells,QA a115]
     repeat with_reducible refine sdQ ?_
     refine hK _ ?_;clear hK K
     cases h
     exact rn (s':=(s107.1++[(ix f_.sz (ix f_.s.to s93.2))+(ix (rx g_.ac s93.2) s107.2)],s107.2+1)) hk107 (wkQ9 [(0,0),(1,1),(2,2),(3,3),(4,4),(5,5),(6,6),(7,7),(8,8),(9,9),(10,10),(11,11),(12,12)])
    have g109:¬ (s107.2<((rx g_.ac s93.2).length:Int)):=gQ
    clear g
    replace h:=if_r g109 h
    refine Qm ?_
    refine tx ?_
    refine lx ?_
    refine bh ?_
    cases h
    exact jn (b:=s107.1) hk107 (wkQ9 [(0,0),(1,1),(2,2),(3,3),(4,4),(5,5),(6,6),(7,7),(8,8),(9,9),(10,10),(11,11),(12,12)])
   intro b98 hb98
   have h:=h98
   rw [← hb98] at h
   clear h98
   try dsimp only at h
   refine runQ hN fun K hK=>?_
   replace h:=Qc h
   obtain ⟨a116,h⟩:=h
   try simp only [List.length_append,List.length_cons,List.length_nil] at a116
   simp [-Q1,-Qh,-Q9,-Qi,-Qa,eL,eI,Q4,Qr,Qj,Cat.cells,SF.cells,a116]
   repeat with_reducible refine sdQ ?_
   refine hK _ ?_;clear hK K
   refine bn ?_
   refine tn ?_
   refine Qf (st':=⟨[(2,.adr 0 0 0),(3,.adr 1 0 0),(4,.adr 2 0 0),(7,.adr 3 0 0),(8,.own 10 0 b2.2.1.length),(9,.own 11 0 b2.2.2.length),(15,.val (.int .i64 s93.2))],[(0,.mix 7 [(SF.cells true f_)]),(1,.mix 7 [(SF.cells true g_)]),(2,.mix 7 [[.val (.int .i64 0),.val (.slice none 0 0),.val (.slice none 0 0),.val (.slice none 0 0),.val (.slice none 0 0),.val (.slice none 0 0),.val (.slice none 0 0)]]),(3,.mix 7 [[.val (.int .i64 v1.n),.own 4 0 v1.fr.length,.own 5 0 v1.to.length,.own 6 0 v1.id.length,.own 7 0 v1.cs.length,.own 8 0 b2.1.length,.own 9 0 ((s93.1++[b98]).length)]]),(4,.row 1 (Is v1.fr)),(5,.row 1 (Is v1.to)),(6,.row 1 (Is v1.id)),(7,.row 1 (Ls v1.cs)),(8,.row 1 (Is b2.1)),(9,.row 1 (Ls (s93.1++[b98]))),(10,.row 1 (Ls b2.2.1)),(11,.row 1 (Ls b2.2.2))],12⟩) (wkQ9 [(0,0),(1,1),(2,2),(3,3),(4,4),(5,5),(6,6),(7,7),(8,8),(14,9),(10,10),(11,11)]) ?_
   refine runQ hN fun K hK=>?_
   replace h:=Qc h
   obtain ⟨a117,h⟩:=h
   simp [-Q1,-Qh,-Q9,-Qi,-Qa,eL,eI,Q4,Qr,Qj,Cat.cells,SF.cells,QA a117]
   repeat with_reducible refine sdQ ?_
   refine hK _ ?_;clear hK K
   cases h
   exact rn (s':=(s93.1++[b98],s93.2+1)) hk93 (wkQ9 [(0,0),(1,1),(2,2),(3,3),(4,4),(5,5),(6,6),(7,7),(8,8),(9,9),(10,10),(11,11)])
  have g94:¬ (s93.2<(f_.ac.length:Int)):=gQ
  clear g
  replace h:=if_r g94 h
  refine Qm ?_
  refine tx ?_
  refine lx ?_
  refine bh ?_
  cases h
  exact jn (b:=s93.1) hk93 (wkQ9 [(2,0),(3,1),(4,2),(5,3),(6,4),(7,5),(8,6),(9,7),(10,8),(11,9)])
 intro b68 hb68
 have h:=h68
 rw [← hb68] at h
 clear h68
 try dsimp only at h
 refine Q2 ?_
 refine runQ hN fun K hK=>?_
 simp [-Q1,-Qh,-Q9,-Qi,-Qa,eL,eI,Q4,Qr,Qj,Cat.cells,SF.cells]
 repeat with_reducible refine sdQ ?_
 refine hK _ ?_;clear hK K
 refine tn ?_
 refine Qf (st':=⟨[(4,.adr 0 0 0),(5,.own 7 0 b2.2.1.length),(6,.own 8 0 b2.2.2.length)],[(0,.mix 7 [[.val (.int .i64 v1.n),.own 1 0 v1.fr.length,.own 2 0 v1.to.length,.own 3 0 v1.id.length,.own 4 0 v1.cs.length,.own 5 0 b2.1.length,.own 6 0 b68.length]]),(1,.row 1 (Is v1.fr)),(2,.row 1 (Is v1.to)),(3,.row 1 (Is v1.id)),(4,.row 1 (Ls v1.cs)),(5,.row 1 (Is b2.1)),(6,.row 1 (Ls b68)),(7,.row 1 (Ls b2.2.1)),(8,.row 1 (Ls b2.2.2))],9⟩) (wkQ9 [(0,0),(2,1),(3,2),(4,3),(5,4),(6,5),(7,6),(8,7),(9,8)]) ?_
 refine Qe ?_
 have hr:=Option.some.inj h
 rw [← hr]
 refine ⟨_,(.cell tf_94 rfl rfl rfl (by simp) (by simp) (.tmp (.tmp .nil))),?_⟩
 refine ⟨(.agg rfl (.one rfl rfl (.one rfl rfl .nil))),[.val (.int .i64 v1.n),.lst true 1 (Is v1.fr),.lst true 1 (Is v1.to),.lst true 1 (Is v1.id),.lst true 1 (Ls v1.cs),.lst true 1 (Is b2.1),.lst true 1 (Ls b68),.lst true 1 (Ls b2.2.1),.lst true 1 (Ls b2.2.2)],[1,2,3,4,5,6,7,8],by simp [Cat.cells,SF.cells,UA,U1,IA,I1,LA,L1,BA,B1,EA,E1,E2,eB,eI,eL],by simp,(UpL.refl _)⟩
end Go.Vc.T
namespace Go.Vc.T
open Go Go.Vc Go.Proofs
noncomputable def QS (s_:SM) (t_:SM):Option (SM × Int) :=
 (Q21 s_ t_ false true).bind fun v1 =>
 if ¬ (v1=0) then
  some ((⟨(⟨(⟨0,[],[],[],[]⟩:Cat),[],[]⟩:SF),(⟨(⟨0,[],[],[],[]⟩:Cat),[],[]⟩:SF),[]⟩:SM),v1)
 else
  (Q1Q s_.s t_.s).bind fun v3 =>
  (Q19 v3.1).bind fun v4 =>
  if ¬ (v4=0) then
   some ((⟨(⟨(⟨0,[],[],[],[]⟩:Cat),[],[]⟩:SF),(⟨(⟨0,[],[],[],[]⟩:Cat),[],[]⟩:SF),[]⟩:SM),3)
  else
   (QX (σ:=List (List Int) × Int) (ε:=List (List Int)) (fun s14 =>
    if s14.2<(s_.p.length:Int) then
     ass (0≤s14.2∧s14.2<(s_.p.length:Int)) <|
     (Q1n (rx s_.p s14.2)).bind fun v17 =>
     ass (0≤s14.2∧s14.2<(t_.p.length:Int)) <|
     ass ((v17++(rx t_.p s14.2)).length≤1073741824) <|
     ass ((s14.1++[v17++(rx t_.p s14.2)]).length≤1073741824) <|
     ass (B64 (s14.2+1)) <|
     some (Ctl.next (s14.1++[v17++(rx t_.p s14.2)],s14.2+1))
    else
     some (Ctl.ret s14.1)) fuel ([],0)).bind fun b6 =>
   (Q20 v3.1 s_.t b6).bind fun v22 =>
   some (v22,0)
theorem Q35 (s_:SM) (t_:SM) (r:SM × Int) (h:QS s_ t_=some r):Contract Try.prog 56 [.agg (s_.cells true),.agg (t_.cells true)] (.tup [.agg (r.1.cells true),.val (.int .i64 r.2)]):=by
 refine Qs (rvs:=[.cell 4 96,.tmp 5]) (rs:=[.agg (r.1.cells true),.val (.int .i64 r.2)]) Try.func56 rfl rfl rfl rfl (by simp [Try.f56]) fun F hN hP=>?_
 unfold QS at h
 refine Q2 ?_
 refine runQ hN fun K hK=>?_
 simp [-Q1,-Qh,-Q9,-Qi,-Qa,eL,eI,Q4,Qj,Qt,SF.cells,SM.cells]
 repeat with_reducible refine sdQ ?_
 refine hK _ ?_;clear hK K
 refine tn ?_
 refine Qf (st':=⟨[(2,.adr 0 0 0),(3,.adr 1 0 0),(4,.adr 2 0 0)],[(0,.mix 15 [(SM.cells true s_)]),(1,.mix 15 [(SM.cells true t_)]),(2,.mix 15 [[.val (.int .i64 0),.val (.slice none 0 0),.val (.slice none 0 0),.val (.slice none 0 0),.val (.slice none 0 0),.val (.slice none 0 0),.val (.slice none 0 0),.val (.int .i64 0),.val (.slice none 0 0),.val (.slice none 0 0),.val (.slice none 0 0),.val (.slice none 0 0),.val (.slice none 0 0),.val (.slice none 0 0),.val (.slice none 0 0)]])],3⟩) (wkQ9 [(0,0),(1,1),(2,2)]) ?_
 refine Q2 ?_
 refine runQ hN fun K hK=>?_
 simp [-Q1,-Qh,-Q9,-Qi,-Qa,eL,eI,Q4,Qj,Qt,SF.cells,SM.cells]
 repeat with_reducible refine sdQ ?_
 replace h:=bind_some h
 obtain ⟨v1,hv1,h⟩:=h
 refine Q0 (Q61 _ _ _ _ v1 hv1) (.cons (.aggL (.cons .val (.cons .lst (.cons .lst (.cons .lst (.cons .lst (.cons .lst (.cons .lst (.cons .val (.cons .lst (.cons .lst (.cons .lst (.cons .lst (.cons .lst (.cons .lst (.cons .lst .nil)))))))))))))))) (.cons (.aggL (.cons .val (.cons .lst (.cons .lst (.cons .lst (.cons .lst (.cons .lst (.cons .lst (.cons .val (.cons .lst (.cons .lst (.cons .lst (.cons .lst (.cons .lst (.cons .lst (.cons .lst .nil)))))))))))))))) (.cons .val (.cons .val .nil)))) ?_
 simp [-Q1,-Qh,-Q9,-Qi,-Qa,unk,unA,unE,unT,unC,flat,eL,eI,Q4,Qj,Qt,SF.cells,SM.cells]
 repeat with_reducible refine sdQ ?_
 refine hK _ ?_;clear hK K
 refine tn ?_
 refine Qf (st':=⟨[(2,.adr 0 0 0),(3,.adr 1 0 0),(4,.adr 2 0 0),(6,.val (.int .i64 v1))],[(0,.mix 15 [(SM.cells true s_)]),(1,.mix 15 [(SM.cells true t_)]),(2,.mix 15 [[.val (.int .i64 0),.val (.slice none 0 0),.val (.slice none 0 0),.val (.slice none 0 0),.val (.slice none 0 0),.val (.slice none 0 0),.val (.slice none 0 0),.val (.int .i64 0),.val (.slice none 0 0),.val (.slice none 0 0),.val (.slice none 0 0),.val (.slice none 0 0),.val (.slice none 0 0),.val (.slice none 0 0),.val (.slice none 0 0)]])],3⟩) (wkQ9 [(0,0),(1,1),(2,2)]) ?_
 refine Q2 ?_
 refine Q2 ?_
 refine runQ hN fun K hK=>?_
 simp [-Q1,-Qh,-Q9,-Qi,-Qa,eL,eI,Q4,Qj,Qt,SF.cells,SM.cells]
 repeat with_reducible refine sdQ ?_
 refine hK _ ?_;clear hK K
 refine tn ?_
 refine Qf (st':=⟨[(2,.adr 0 0 0),(3,.adr 1 0 0),(4,.adr 2 0 0),(6,.val (.int .i64 v1)),(16,.val (.bool (v1 != 0)))],[(0,.mix 15 [(SM.cells true s_)]),(1,.mix 15 [(SM.cells true t_)]),(2,.mix 15 [[.val (.int .i64 0),.val (.slice none 0 0),.val (.slice none 0 0),.val (.slice none 0 0),.val (.slice none 0 0),.val (.slice none 0 0),.val (.slice none 0 0),.val (.int .i64 0),.val (.slice none 0 0),.val (.slice none 0 0),.val (.slice none 0 0),.val (.slice none 0 0),.val (.slice none 0 0),.val (.slice none 0 0),.val (.slice none 0 0)]])],3⟩) (wkQ9 [(0,0),(1,1),(2,2)]) ?_
 refine Q5 rfl (fun g=>?_) fun g=>?_
 ·have g2:¬ (v1=0):=gQ
  clear g
  replace h:=if_l g2 h
  refine Q2 ?_
  refine runQ hN fun K hK=>?_
  simp [-Q1,-Qh,-Q9,-Qi,-Qa,eL,eI,Q4,Qj,Qt,SF.cells,SM.cells]
  repeat with_reducible refine sdQ ?_
  refine hK _ ?_;clear hK K
  refine tn ?_
  refine Qf (st':=⟨[(4,.adr 0 0 0),(5,.val (.int .i64 v1))],[(0,.mix 15 [[.val (.int .i64 0),.val (.slice none 0 0),.val (.slice none 0 0),.val (.slice none 0 0),.val (.slice none 0 0),.val (.slice none 0 0),.val (.slice none 0 0),.val (.int .i64 0),.val (.slice none 0 0),.val (.slice none 0 0),.val (.slice none 0 0),.val (.slice none 0 0),.val (.slice none 0 0),.val (.slice none 0 0),.val (.slice none 0 0)]])],1⟩) (wkQ9 [(2,0)]) ?_
  refine Qe ?_
  refine tr ?_
  have hr:=Option.some.inj h
  rw [← hr]
  refine ⟨_,(.cell Q4C rfl rfl rfl (by simp) (by simp) (.tmp .nil)),?_⟩
  refine ⟨(.agg rfl (.one rfl rfl .nil)),[.val (.int .i64 0),.val (.slice none 0 0),.val (.slice none 0 0),.val (.slice none 0 0),.val (.slice none 0 0),.val (.slice none 0 0),.val (.slice none 0 0),.val (.int .i64 0),.val (.slice none 0 0),.val (.slice none 0 0),.val (.slice none 0 0),.val (.slice none 0 0),.val (.slice none 0 0),.val (.slice none 0 0),.val (.slice none 0 0),.val (.int .i64 v1)],[],by simp [SF.cells,SM.cells,UA,U1,IA,I1,LA,L1,BA,B1,EA,E1,E2,eB,eI,eL],by simp,(.cons .refl (.cons .nil (.cons .nil (.cons .nil (.cons .nil (.cons .nil (.cons .nil (.cons .refl (.cons .nil (.cons .nil (.cons .nil (.cons .nil (.cons .nil (.cons .nil (.cons .nil (.cons .refl .nil))))))))))))))))⟩
 have g2:¬ (¬ (v1=0)):=gQ
 clear g
 replace h:=if_r g2 h
 refine Q6 ?_
 refine tn ?_
 refine Q2 ?_
 refine runQ hN fun K hK=>?_
 simp [-Q1,-Qh,-Q9,-Qi,-Qa,eL,eI,Q4,Qj,Qt,SF.cells,SM.cells]
 repeat with_reducible refine sdQ ?_
 replace h:=bind_some h
 obtain ⟨v3,hv3,h⟩:=h
 refine Q0 (Q71 _ _ v3 hv3) (.cons (.aggL (.cons .val (.cons .lst (.cons .lst (.cons .lst (.cons .lst (.cons .lst (.cons .lst .nil)))))))) (.cons (.aggL (.cons .val (.cons .lst (.cons .lst (.cons .lst (.cons .lst (.cons .lst (.cons .lst .nil)))))))) .nil)) ?_
 simp [-Q1,-Qh,-Q9,-Qi,-Qa,unk,unA,unE,unT,unC,flat,eL,eI,Q4,Qj,Qt,SF.cells,SM.cells]
 repeat with_reducible refine sdQ ?_
 refine hK _ ?_;clear hK K
 refine tn ?_
 refine Qf (st':=⟨[(2,.adr 0 0 0),(3,.adr 1 0 0),(4,.adr 2 0 0),(7,.adr 3 0 0)],[(0,.mix 15 [(SM.cells true s_)]),(1,.mix 15 [(SM.cells true t_)]),(2,.mix 15 [[.val (.int .i64 0),.val (.slice none 0 0),.val (.slice none 0 0),.val (.slice none 0 0),.val (.slice none 0 0),.val (.slice none 0 0),.val (.slice none 0 0),.val (.int .i64 0),.val (.slice none 0 0),.val (.slice none 0 0),.val (.slice none 0 0),.val (.slice none 0 0),.val (.slice none 0 0),.val (.slice none 0 0),.val (.slice none 0 0)]]),(3,.mix 7 [[.val (.int .i64 v3.1.s.n),.own 4 0 v3.1.s.fr.length,.own 5 0 v3.1.s.to.length,.own 6 0 v3.1.s.id.length,.own 7 0 v3.1.s.cs.length,.own 8 0 v3.1.sz.length,.own 9 0 v3.1.ac.length]]),(4,.row 1 (Is v3.1.s.fr)),(5,.row 1 (Is v3.1.s.to)),(6,.row 1 (Is v3.1.s.id)),(7,.row 1 (Ls v3.1.s.cs)),(8,.row 1 (Is v3.1.sz)),(9,.row 1 (Ls v3.1.ac))],10⟩) (wkQ9 [(0,0),(1,1),(2,2),(12,3),(4,4),(5,5),(6,6),(7,7),(8,8),(9,9)]) ?_
 refine Q2 ?_
 refine Q2 ?_
 refine runQ hN fun K hK=>?_
 simp [-Q1,-Qh,-Q9,-Qi,-Qa,eL,eI,Q4,Qj,Qt,SF.cells,SM.cells]
 repeat with_reducible refine sdQ ?_
 replace h:=bind_some h
 obtain ⟨v4,hv4,h⟩:=h
 refine Q0 (Q60 _ v4 hv4) (.cons (.aggL (.cons .val (.cons (.whole (by simp) (by simp) (by simp)) (.cons (.whole (by simp) (by simp) (by simp)) (.cons (.whole (by simp) (by simp) (by simp)) (.cons (.whole (by simp) (by simp) (by simp)) (.cons (.whole (by simp) (by simp) (by simp)) (.cons (.whole (by simp) (by simp) (by simp)) .nil)))))))) .nil) ?_
 simp [-Q1,-Qh,-Q9,-Qi,-Qa,unk,unA,unE,unT,unC,flat,eL,eI,Q4,Qj,Qt,SF.cells,SM.cells]
 repeat with_reducible refine sdQ ?_
 refine hK _ ?_;clear hK K
 refine tn ?_
 refine Qf (st':=⟨[(2,.adr 0 0 0),(3,.adr 1 0 0),(4,.adr 2 0 0),(7,.adr 3 0 0),(30,.val (.bool (v4 != 0)))],[(0,.mix 15 [(SM.cells true s_)]),(1,.mix 15 [(SM.cells true t_)]),(2,.mix 15 [[.val (.int .i64 0),.val (.slice none 0 0),.val (.slice none 0 0),.val (.slice none 0 0),.val (.slice none 0 0),.val (.slice none 0 0),.val (.slice none 0 0),.val (.int .i64 0),.val (.slice none 0 0),.val (.slice none 0 0),.val (.slice none 0 0),.val (.slice none 0 0),.val (.slice none 0 0),.val (.slice none 0 0),.val (.slice none 0 0)]]),(3,.mix 7 [[.val (.int .i64 v3.1.s.n),.own 4 0 v3.1.s.fr.length,.own 5 0 v3.1.s.to.length,.own 6 0 v3.1.s.id.length,.own 7 0 v3.1.s.cs.length,.own 8 0 v3.1.sz.length,.own 9 0 v3.1.ac.length]]),(4,.row 1 (Is v3.1.s.fr)),(5,.row 1 (Is v3.1.s.to)),(6,.row 1 (Is v3.1.s.id)),(7,.row 1 (Ls v3.1.s.cs)),(8,.row 1 (Is v3.1.sz)),(9,.row 1 (Ls v3.1.ac))],10⟩) (wkQ9 [(0,0),(1,1),(2,2),(3,3),(4,4),(5,5),(6,6),(7,7),(8,8),(9,9)]) ?_
 refine Q5 rfl (fun g=>?_) fun g=>?_
 ·have g5:¬ (v4=0):=gQ
  clear g
  replace h:=if_l g5 h
  refine Q2 ?_
  refine runQ hN fun K hK=>?_
  simp [-Q1,-Qh,-Q9,-Qi,-Qa,eL,eI,Q4,Qj,Qt,SF.cells,SM.cells]
  repeat with_reducible refine sdQ ?_
  refine hK _ ?_;clear hK K
  refine tn ?_
  refine Qf (st':=⟨[(4,.adr 0 0 0),(5,.val (.int .i64 3))],[(0,.mix 15 [[.val (.int .i64 0),.val (.slice none 0 0),.val (.slice none 0 0),.val (.slice none 0 0),.val (.slice none 0 0),.val (.slice none 0 0),.val (.slice none 0 0),.val (.int .i64 0),.val (.slice none 0 0),.val (.slice none 0 0),.val (.slice none 0 0),.val (.slice none 0 0),.val (.slice none 0 0),.val (.slice none 0 0),.val (.slice none 0 0)]])],1⟩) (wkQ9 [(2,0)]) ?_
  refine Qe ?_
  refine tr ?_
  have hr:=Option.some.inj h
  rw [← hr]
  refine ⟨_,(.cell Q4C rfl rfl rfl (by simp) (by simp) (.tmp .nil)),?_⟩
  refine ⟨(.agg rfl (.one rfl rfl .nil)),[.val (.int .i64 0),.val (.slice none 0 0),.val (.slice none 0 0),.val (.slice none 0 0),.val (.slice none 0 0),.val (.slice none 0 0),.val (.slice none 0 0),.val (.int .i64 0),.val (.slice none 0 0),.val (.slice none 0 0),.val (.slice none 0 0),.val (.slice none 0 0),.val (.slice none 0 0),.val (.slice none 0 0),.val (.slice none 0 0),.val (.int .i64 3)],[],by simp [SF.cells,SM.cells,UA,U1,IA,I1,LA,L1,BA,B1,EA,E1,E2,eB,eI,eL],by simp,(.cons .refl (.cons .nil (.cons .nil (.cons .nil (.cons .nil (.cons .nil (.cons .nil (.cons .refl (.cons .nil (.cons .nil (.cons .nil (.cons .nil (.cons .nil (.cons .nil (.cons .nil (.cons .refl .nil))))))))))))))))⟩
 have g5:¬ (¬ (v4=0)):=gQ
 clear g
 replace h:=if_r g5 h
 refine Q6 ?_
 refine tn ?_
 refine Q2 ?_
 refine runQ hN fun K hK=>?_
 simp [-Q1,-Qh,-Q9,-Qi,-Qa,eL,eI,Q4,Qj,Qt,SF.cells,SM.cells]
 repeat with_reducible refine sdQ ?_
 refine hK _ ?_;clear hK K
 refine tn ?_
 refine Qf (st':=⟨[(2,.adr 0 0 0),(3,.adr 1 0 0),(4,.adr 2 0 0),(7,.adr 3 0 0),(10,.own 10 0 0)],[(0,.mix 15 [(SM.cells true s_)]),(1,.mix 15 [(SM.cells true t_)]),(2,.mix 15 [[.val (.int .i64 0),.val (.slice none 0 0),.val (.slice none 0 0),.val (.slice none 0 0),.val (.slice none 0 0),.val (.slice none 0 0),.val (.slice none 0 0),.val (.int .i64 0),.val (.slice none 0 0),.val (.slice none 0 0),.val (.slice none 0 0),.val (.slice none 0 0),.val (.slice none 0 0),.val (.slice none 0 0),.val (.slice none 0 0)]]),(3,.mix 7 [[.val (.int .i64 v3.1.s.n),.own 4 0 v3.1.s.fr.length,.own 5 0 v3.1.s.to.length,.own 6 0 v3.1.s.id.length,.own 7 0 v3.1.s.cs.length,.own 8 0 v3.1.sz.length,.own 9 0 v3.1.ac.length]]),(4,.row 1 (Is v3.1.s.fr)),(5,.row 1 (Is v3.1.s.to)),(6,.row 1 (Is v3.1.s.id)),(7,.row 1 (Ls v3.1.s.cs)),(8,.row 1 (Is v3.1.sz)),(9,.row 1 (Ls v3.1.ac)),(10,.mix 1 [])],11⟩) (wkQ9 [(0,0),(1,1),(2,2),(3,3),(4,4),(5,5),(6,6),(7,7),(8,8),(9,9),(10,10)]) ?_
 refine Q2 ?_
 refine Q2 ?_
 refine runQ hN fun K hK=>?_
 simp [-Q1,-Qh,-Q9,-Qi,-Qa,eL,eI,Q4,Qj,Qt,SF.cells,SM.cells]
 repeat with_reducible refine sdQ ?_
 refine hK _ ?_;clear hK K
 refine tn ?_
 refine Qf (st':=⟨[(2,.adr 0 0 0),(3,.adr 1 0 0),(4,.adr 2 0 0),(7,.adr 3 0 0),(10,.own 10 0 0),(11,.val (.int .i64 0))],[(0,.mix 15 [(SM.cells true s_)]),(1,.mix 15 [(SM.cells true t_)]),(2,.mix 15 [[.val (.int .i64 0),.val (.slice none 0 0),.val (.slice none 0 0),.val (.slice none 0 0),.val (.slice none 0 0),.val (.slice none 0 0),.val (.slice none 0 0),.val (.int .i64 0),.val (.slice none 0 0),.val (.slice none 0 0),.val (.slice none 0 0),.val (.slice none 0 0),.val (.slice none 0 0),.val (.slice none 0 0),.val (.slice none 0 0)]]),(3,.mix 7 [[.val (.int .i64 v3.1.s.n),.own 4 0 v3.1.s.fr.length,.own 5 0 v3.1.s.to.length,.own 6 0 v3.1.s.id.length,.own 7 0 v3.1.s.cs.length,.own 8 0 v3.1.sz.length,.own 9 0 v3.1.ac.length]]),(4,.row 1 (Is v3.1.s.fr)),(5,.row 1 (Is v3.1.s.to)),(6,.row 1 (Is v3.1.s.id)),(7,.row 1 (Ls v3.1.s.cs)),(8,.row 1 (Is v3.1.sz)),(9,.row 1 (Ls v3.1.ac)),(10,.mix 1 [])],11⟩) (wkQ9 [(0,0),(1,1),(2,2),(3,3),(4,4),(5,5),(6,6),(7,7),(8,8),(9,9),(10,10)]) ?_
 replace h:=bind_some h
 obtain ⟨e6,h,h6⟩:=h
 refine Q13 (fun b6:List (List Int)=>⟨[(2,.adr 0 0 0),(4,.adr 1 0 0),(7,.adr 2 0 0),(10,.own 9 0 b6.length)],[(0,.mix 15 [(SM.cells true s_)]),(1,.mix 15 [[.val (.int .i64 0),.val (.slice none 0 0),.val (.slice none 0 0),.val (.slice none 0 0),.val (.slice none 0 0),.val (.slice none 0 0),.val (.slice none 0 0),.val (.int .i64 0),.val (.slice none 0 0),.val (.slice none 0 0),.val (.slice none 0 0),.val (.slice none 0 0),.val (.slice none 0 0),.val (.slice none 0 0),.val (.slice none 0 0)]]),(2,.mix 7 [[.val (.int .i64 v3.1.s.n),.own 3 0 v3.1.s.fr.length,.own 4 0 v3.1.s.to.length,.own 5 0 v3.1.s.id.length,.own 6 0 v3.1.s.cs.length,.own 7 0 v3.1.sz.length,.own 8 0 v3.1.ac.length]]),(3,.row 1 (Is v3.1.s.fr)),(4,.row 1 (Is v3.1.s.to)),(5,.row 1 (Is v3.1.s.id)),(6,.row 1 (Ls v3.1.s.cs)),(7,.row 1 (Is v3.1.sz)),(8,.row 1 (Ls v3.1.ac)),(9,.row 1 (Ls b6))],10⟩) (fun b6=>b6=e6) ?_ ?_
 ·refine Q7 ?_
  refine Q1k h (fun s14:List (List Int) × Int=>⟨[(2,.adr 0 0 0),(3,.adr 1 0 0),(4,.adr 2 0 0),(7,.adr 3 0 0),(10,.own 10 0 s14.1.length),(11,.val (.int .i64 s14.2))],[(0,.mix 15 [(SM.cells true s_)]),(1,.mix 15 [(SM.cells true t_)]),(2,.mix 15 [[.val (.int .i64 0),.val (.slice none 0 0),.val (.slice none 0 0),.val (.slice none 0 0),.val (.slice none 0 0),.val (.slice none 0 0),.val (.slice none 0 0),.val (.int .i64 0),.val (.slice none 0 0),.val (.slice none 0 0),.val (.slice none 0 0),.val (.slice none 0 0),.val (.slice none 0 0),.val (.slice none 0 0),.val (.slice none 0 0)]]),(3,.mix 7 [[.val (.int .i64 v3.1.s.n),.own 4 0 v3.1.s.fr.length,.own 5 0 v3.1.s.to.length,.own 6 0 v3.1.s.id.length,.own 7 0 v3.1.s.cs.length,.own 8 0 v3.1.sz.length,.own 9 0 v3.1.ac.length]]),(4,.row 1 (Is v3.1.s.fr)),(5,.row 1 (Is v3.1.s.to)),(6,.row 1 (Is v3.1.s.id)),(7,.row 1 (Ls v3.1.s.cs)),(8,.row 1 (Is v3.1.sz)),(9,.row 1 (Ls v3.1.ac)),(10,.row 1 (Ls s14.1))],11⟩) (Q4D ⟨[(2,.adr 0 0 0),(3,.adr 1 0 0),(4,.adr 2 0 0),(7,.adr 3 0 0),(10,.own 10 0 0),(11,.val (.int .i64 0))],[(0,.mix 15 [(SM.cells true s_)]),(1,.mix 15 [(SM.cells true t_)]),(2,.mix 15 [[.val (.int .i64 0),.val (.slice none 0 0),.val (.slice none 0 0),.val (.slice none 0 0),.val (.slice none 0 0),.val (.slice none 0 0),.val (.slice none 0 0),.val (.int .i64 0),.val (.slice none 0 0),.val (.slice none 0 0),.val (.slice none 0 0),.val (.slice none 0 0),.val (.slice none 0 0),.val (.slice none 0 0),.val (.slice none 0 0)]]),(3,.mix 7 [[.val (.int .i64 v3.1.s.n),.own 4 0 v3.1.s.fr.length,.own 5 0 v3.1.s.to.length,.own 6 0 v3.1.s.id.length,.own 7 0 v3.1.s.cs.length,.own 8 0 v3.1.sz.length,.own 9 0 v3.1.ac.length]]),(4,.row 1 (Is v3.1.s.fr)),(5,.row 1 (Is v3.1.s.to)),(6,.row 1 (Is v3.1.s.id)),(7,.row 1 (Ls v3.1.s.cs)),(8,.row 1 (Is v3.1.sz)),(9,.row 1 (Ls v3.1.ac)),(10,.row 1 (Ls []))],11⟩ (Wk.nils [] (by simp) (by simp) (by simp [nlA]) (by simp [entN,nlL,nlA,SF.cells,SM.cells,UA,U1,IA,I1,LA,L1,BA,B1,EA,E1,E2,eB,eI,eL]) (by simp)) (wkQ9 [(0,0),(1,1),(2,2),(3,3),(4,4),(5,5),(6,6),(7,7),(8,8),(9,9),(10,10)])) ?_
  clear h
  intro k14 s14 c14 h hk14
  refine Q2 ?_
  refine Q2 ?_
  refine runQ hN fun K hK=>?_
  simp [-Q1,-Qh,-Q9,-Qi,-Qa,eL,eI,Q4,Qj,Qt,SF.cells,SM.cells]
  repeat with_reducible refine sdQ ?_
  refine hK _ ?_;clear hK K
  refine tn ?_
  refine Qf (st':=⟨[(2,.adr 0 0 0),(3,.adr 1 0 0),(4,.adr 2 0 0),(7,.adr 3 0 0),(10,.own 10 0 s14.1.length),(11,.val (.int .i64 s14.2)),(37,.val (.bool (decide (s14.2<(s_.p.length:Int)))))],[(0,.mix 15 [(SM.cells true s_)]),(1,.mix 15 [(SM.cells true t_)]),(2,.mix 15 [[.val (.int .i64 0),.val (.slice none 0 0),.val (.slice none 0 0),.val (.slice none 0 0),.val (.slice none 0 0),.val (.slice none 0 0),.val (.slice none 0 0),.val (.int .i64 0),.val (.slice none 0 0),.val (.slice none 0 0),.val (.slice none 0 0),.val (.slice none 0 0),.val (.slice none 0 0),.val (.slice none 0 0),.val (.slice none 0 0)]]),(3,.mix 7 [[.val (.int .i64 v3.1.s.n),.own 4 0 v3.1.s.fr.length,.own 5 0 v3.1.s.to.length,.own 6 0 v3.1.s.id.length,.own 7 0 v3.1.s.cs.length,.own 8 0 v3.1.sz.length,.own 9 0 v3.1.ac.length]]),(4,.row 1 (Is v3.1.s.fr)),(5,.row 1 (Is v3.1.s.to)),(6,.row 1 (Is v3.1.s.id)),(7,.row 1 (Ls v3.1.s.cs)),(8,.row 1 (Is v3.1.sz)),(9,.row 1 (Ls v3.1.ac)),(10,.row 1 (Ls s14.1))],11⟩) (wkQ9 [(0,0),(1,1),(2,2),(3,3),(4,4),(5,5),(6,6),(7,7),(8,8),(9,9),(10,10)]) ?_
  refine Q5 rfl (fun g=>?_) fun g=>?_
  ·have g15:s14.2<(s_.p.length:Int):=gQ
   clear g
   replace h:=if_l g15 h
   refine Q6 ?_
   refine tn ?_
   refine Q2 ?_
   refine Q7 ?_
   refine runQ hN fun K hK=>?_
   replace h:=Qc h
   obtain ⟨a16,h⟩:=h
   simp [-Q1,-Qh,-Q9,-Qi,-Qa,eL,eI,Q4,Qj,Qt,SF.cells,SM.cells,at_L a16]
   repeat with_reducible refine sdQ ?_
   replace h:=bind_some h
   obtain ⟨v17,hv17,h⟩:=h
   refine Q0 (Q4j _ v17 hv17) (.cons .lst .nil) ?_
   replace h:=Qc h
   obtain ⟨a18,h⟩:=h
   replace h:=Qc h
   obtain ⟨a19,h⟩:=h
   try simp only [List.length_append,List.length_cons,List.length_nil] at a19
   replace h:=Qc h
   obtain ⟨a20,h⟩:=h
   try simp only [List.length_append,List.length_cons,List.length_nil] at a20
   simp [-Q1,-Qh,-Q9,-Qi,-Qa,unk,unA,unE,unT,unC,flat,eL,eI,Q4,Qj,Qt,SF.cells,SM.cells,at_L a16,at_L a18,↓Q5p,a19,a20]
   repeat with_reducible refine sdQ ?_
   refine hK _ ?_;clear hK K
   refine bn ?_
   refine tn ?_
   refine Qf (st':=⟨[(2,.adr 0 0 0),(3,.adr 1 0 0),(4,.adr 2 0 0),(7,.adr 3 0 0),(10,.own 10 0 ((s14.1++[v17++(rx t_.p s14.2)]).length)),(11,.val (.int .i64 s14.2))],[(0,.mix 15 [(SM.cells true s_)]),(1,.mix 15 [(SM.cells true t_)]),(2,.mix 15 [[.val (.int .i64 0),.val (.slice none 0 0),.val (.slice none 0 0),.val (.slice none 0 0),.val (.slice none 0 0),.val (.slice none 0 0),.val (.slice none 0 0),.val (.int .i64 0),.val (.slice none 0 0),.val (.slice none 0 0),.val (.slice none 0 0),.val (.slice none 0 0),.val (.slice none 0 0),.val (.slice none 0 0),.val (.slice none 0 0)]]),(3,.mix 7 [[.val (.int .i64 v3.1.s.n),.own 4 0 v3.1.s.fr.length,.own 5 0 v3.1.s.to.length,.own 6 0 v3.1.s.id.length,.own 7 0 v3.1.s.cs.length,.own 8 0 v3.1.sz.length,.own 9 0 v3.1.ac.length]]),(4,.row 1 (Is v3.1.s.fr)),(5,.row 1 (Is v3.1.s.to)),(6,.row 1 (Is v3.1.s.id)),(7,.row 1 (Ls v3.1.s.cs)),(8,.row 1 (Is v3.1.sz)),(9,.row 1 (Ls v3.1.ac)),(10,.row 1 (Ls (s14.1++[v17++(rx t_.p s14.2)])))],11⟩) (wkQ9 [(0,0),(1,1),(2,2),(3,3),(4,4),(5,5),(6,6),(7,7),(8,8),(9,9),(14,10)]) ?_
   refine runQ hN fun K hK=>?_
   replace h:=Qc h
   obtain ⟨a21,h⟩:=h
   simp [-Q1,-Qh,-Q9,-Qi,-Qa,eL,eI,Q4,Qj,Qt,SF.cells,SM.cells,QA a21]
   repeat with_reducible refine sdQ ?_
   refine hK _ ?_;clear hK K
   cases h
   exact rn (s':=(s14.1++[v17++(rx t_.p s14.2)],s14.2+1)) hk14 (wkQ9 [(0,0),(1,1),(2,2),(3,3),(4,4),(5,5),(6,6),(7,7),(8,8),(9,9),(10,10)])
  have g15:¬ (s14.2<(s_.p.length:Int)):=gQ
  clear g
  replace h:=if_r g15 h
  refine Qm ?_
  refine tx ?_
  refine lx ?_
  refine bh ?_
  cases h
  exact jn (b:=s14.1) hk14 (wkQ9 [(0,0),(2,1),(3,2),(4,3),(5,4),(6,5),(7,6),(8,7),(9,8),(10,9)])
 intro b6 hb6
 have h:=h6
 rw [← hb6] at h
 clear h6
 try dsimp only at h
 refine Q2 ?_
 refine runQ hN fun K hK=>?_
 simp [-Q1,-Qh,-Q9,-Qi,-Qa,eL,eI,Q4,Qj,Qt,SF.cells,SM.cells]
 repeat with_reducible refine sdQ ?_
 replace h:=bind_some h
 obtain ⟨v22,hv22,h⟩:=h
 refine Q0 (Q5Z _ _ _ v22 hv22) (.cons (.aggL (.cons .val (.cons (.whole (by simp) (by simp) (by simp)) (.cons (.whole (by simp) (by simp) (by simp)) (.cons (.whole (by simp) (by simp) (by simp)) (.cons (.whole (by simp) (by simp) (by simp)) (.cons (.whole (by simp) (by simp) (by simp)) (.cons (.whole (by simp) (by simp) (by simp)) .nil)))))))) (.cons (.aggL (.cons .val (.cons .lst (.cons .lst (.cons .lst (.cons .lst (.cons .lst (.cons .lst .nil)))))))) (.cons (.whole (by simp) (by simp) (by simp)) .nil))) ?_
 simp [-Q1,-Qh,-Q9,-Qi,-Qa,unk,unA,unE,unT,unC,flat,eL,eI,Q4,Qj,Qt,SF.cells,SM.cells]
 repeat with_reducible refine sdQ ?_
 refine hK _ ?_;clear hK K
 refine tn ?_
 refine Qf (st':=⟨[(4,.adr 0 0 0),(5,.val (.int .i64 0))],[(0,.mix 15 [[.val (.int .i64 v22.s.s.n),.own 1 0 v22.s.s.fr.length,.own 2 0 v22.s.s.to.length,.own 3 0 v22.s.s.id.length,.own 4 0 v22.s.s.cs.length,.own 5 0 v22.s.sz.length,.own 6 0 v22.s.ac.length,.val (.int .i64 v22.t.s.n),.own 7 0 v22.t.s.fr.length,.own 8 0 v22.t.s.to.length,.own 9 0 v22.t.s.id.length,.own 10 0 v22.t.s.cs.length,.own 11 0 v22.t.sz.length,.own 12 0 v22.t.ac.length,.own 13 0 v22.p.length]]),(1,.row 1 (Is v22.s.s.fr)),(2,.row 1 (Is v22.s.s.to)),(3,.row 1 (Is v22.s.s.id)),(4,.row 1 (Ls v22.s.s.cs)),(5,.row 1 (Is v22.s.sz)),(6,.row 1 (Ls v22.s.ac)),(7,.row 1 (Is v22.t.s.fr)),(8,.row 1 (Is v22.t.s.to)),(9,.row 1 (Is v22.t.s.id)),(10,.row 1 (Ls v22.t.s.cs)),(11,.row 1 (Is v22.t.sz)),(12,.row 1 (Ls v22.t.ac)),(13,.row 1 (Ls v22.p))],14⟩) (wkQ9 [(1,0),(11,1),(12,2),(13,3),(14,4),(15,5),(16,6),(18,7),(19,8),(20,9),(21,10),(22,11),(23,12),(24,13)]) ?_
 refine Qe ?_
 have hr:=Option.some.inj h
 rw [← hr]
 refine ⟨_,(.cell Q4C rfl rfl rfl (by simp) (by simp) (.tmp .nil)),?_⟩
 refine ⟨(.agg rfl (.one rfl rfl .nil)),[.val (.int .i64 v22.s.s.n),.lst true 1 (Is v22.s.s.fr),.lst true 1 (Is v22.s.s.to),.lst true 1 (Is v22.s.s.id),.lst true 1 (Ls v22.s.s.cs),.lst true 1 (Is v22.s.sz),.lst true 1 (Ls v22.s.ac),.val (.int .i64 v22.t.s.n),.lst true 1 (Is v22.t.s.fr),.lst true 1 (Is v22.t.s.to),.lst true 1 (Is v22.t.s.id),.lst true 1 (Ls v22.t.s.cs),.lst true 1 (Is v22.t.sz),.lst true 1 (Ls v22.t.ac),.lst true 1 (Ls v22.p),.val (.int .i64 0)],[1,2,3,4,5,6,7,8,9,10,11,12,13],by simp [SF.cells,SM.cells,UA,U1,IA,I1,LA,L1,BA,B1,EA,E1,E2,eB,eI,eL],by simp,(UpL.refl _)⟩
end Go.Vc.T
namespace Go.Vc.T
open Go Go.Vc Go.Proofs
def shF (xs:List Int) (b:Int):List Int:=xs.map fun x=>x+b
@[simp] theorem Q6M (xs:List Int) (b:Int):(shF xs b).length=xs.length:=by simp [shF]
theorem Q6t (xs:List Int) (b:Int) (i:Nat) (h:i<xs.length):shF (xs.take (i+1)) b=shF (xs.take i) b++[ix xs i+b]:=by
 rw [shF,shF,List.take_succ_eq_append_getElem h,List.map_append,Qy _ _ h];rfl
theorem shI_succ (n:Nat) (b:Int):shF (iota (n+1)) b=shF (iota n) b++[b+n]:=by simp [shF,Q3z,Int.add_comm]
def sumZ (f g:SF) (n:Nat):List Int:=(List.range n).map fun x:Nat=>ix f.sz x+ix g.sz x
def sumA (f g:SF) (a:Nat):List Int:=rx f.ac a++shF (rx g.ac a) (ix f.sz (ix f.s.to a))
def Q3m (f g:SF) (n:Nat):List (List Int):=(List.range n).map fun a:Nat=>sumA f g a
def sumP (f:SF) (n:Nat):List (List Int):=(List.range n).map fun x:Nat=>iota (ix f.sz x).toNat
def sumQ (f g:SF) (n:Nat):List (List Int):=(List.range n).map fun x:Nat=>shF (iota (ix g.sz x).toNat) (ix f.sz x)
def sumF (f g:SF):SF:=⟨f.s,sumZ f g f.sz.length,Q3m f g f.ac.length⟩
@[simp] theorem Q2C (f g:SF) (n:Nat):(sumZ f g n).length=n:=by simp [sumZ]
@[simp] theorem Q3g (f g:SF) (n:Nat):(Q3m f g n).length=n:=by simp [Q3m]
@[simp] theorem sumP_length (f:SF) (n:Nat):(sumP f n).length=n:=by simp [sumP]
@[simp] theorem sumQ_length (f g:SF) (n:Nat):(sumQ f g n).length=n:=by simp [sumQ]
theorem Q5j (f g:SF) (n:Nat):sumZ f g (n+1)=sumZ f g n++[ix f.sz n+ix g.sz n]:=by simp [sumZ,List.range_succ]
theorem Q4g (f g:SF) (n:Nat):Q3m f g (n+1)=Q3m f g n++[sumA f g n]:=by simp [Q3m,List.range_succ]
theorem Q5h (f:SF) (n:Nat):sumP f (n+1)=sumP f n++[iota (ix f.sz n).toNat]:=by simp [sumP,List.range_succ]
theorem Q5i (f g:SF) (n:Nat):sumQ f g (n+1)=sumQ f g n++[shF (iota (ix g.sz n).toNat) (ix f.sz n)]:=by simp [sumQ,List.range_succ]
structure Two (f g:SF):Prop where
 pf:f.Sh
 pg:g.Sh
 e:f.s=g.s
theorem Two.fact {f g:SF} (h:Two f g):f.ok∧(f.sz.length:Int)=f.s.n∧g.sz.length=f.sz.length∧f.ac.length=f.s.fr.length∧g.ac.length=f.ac.length∧f.sz.length≤8∧f.ac.length≤40∧f.s.to.length=f.ac.length:=by
 have h1:=h.pf.ls
 have h2:=h.pg.ls
 have h3:=h.pf.la
 have h4:=h.pg.la
 have h5:=h.pf.cat.1
 rw [← h.e] at h2 h4
 have:=h5.n8
 have:=h5.m40
 have:=h5.lt
 exact ⟨h.pf.ok.1,h1,by omega,h3,by omega,by omega,by omega,by omega⟩
theorem Two.sizes {f g:SF} (h:Two f g) {x:Nat} (hx:x<f.sz.length):(0≤ix f.sz x∧ix f.sz x≤16)∧(0≤ix g.sz x∧ix g.sz x≤16):=by
 obtain ⟨_,k1,k2,k3,k4,k5,k6,k7⟩:=h.fact
 have h1:=QN h.pf.sz (j:=x) (by omega) (by omega)
 have h2:=QN h.pg.sz (j:=x) (by omega) (by omega)
 omega
theorem Two.acts {f g:SF} (h:Two f g) {a:Nat} (ha:a<f.ac.length):(rx f.ac a).length≤16∧(rx g.ac a).length≤16∧(0≤ix f.s.to a∧ix f.s.to a<f.sz.length)∧(0≤ix f.sz (ix f.s.to a)∧ix f.sz (ix f.s.to a)≤16)∧∀ e:Nat,e<(rx g.ac a).length→0≤ix (rx g.ac a) e∧ix (rx g.ac a) e≤16:=by
 obtain ⟨_,k1,k2,k3,k4,k5,k6,k7⟩:=h.fact
 have hC:=h.pf.cat.1
 have li:=hC.li
 have c2:=hC.to' (j:=a) (by omega) (by omega)
 have s1:=QN h.pf.sz (j:=ix f.s.to a) (by omega) (by omega)
 have s2:=QN h.pg.sz (j:=ix f.s.to a) (by omega) (by omega)
 have r1:=h.pf.rows (rx f.ac a) (by rw [← QB _ _ ha];exact List.getElem_mem ha)
 have r2:=h.pg.rows (rx g.ac a) (by rw [← QB _ _ (show a<g.ac.length by omega)];exact List.getElem_mem _)
 refine ⟨r1,r2,by omega,by omega,fun e he=>?_⟩
 have hC2:=h.pg.cat.1
 have li2:=hC2.li
 have gl:=h.pg.ls
 have c3:=hC2.to' (j:=a) (by omega) (by rw [← h.e];omega)
 have s3:=QN h.pg.sz (j:=ix g.s.to a) (by omega) (by rw [← h.e];omega)
 have:=h.pg.val' (j:=a) (e:=e) (by omega) (by rw [← h.e];omega) (by omega) (by omega)
 omega
theorem sumF_ok {f g:SF} (h:Two f g):(sumF f g).ok∧(sumF f g).size≤10000:=by
 obtain ⟨k0,k1,k2,k3,k4,k5,k6,k7⟩:=h.fact
 obtain ⟨h1,h2⟩:=h.pf.cat.1.size2
 have hr:∀ xs∈Q3m f g f.ac.length,xs.length≤32:=by
  intro xs hx
  simp only [Q3m,List.mem_map,List.mem_range] at hx
  obtain ⟨a,ha,rfl⟩:=hx
  have:=h.acts ha
  simp only [sumA,List.length_append,Q6M]
  omega
 have h7:=sumL_b hr
 simp only [Q3g] at h7
 have:f.ac.length * 32≤40 * 32:=Nat.mul_le_mul_right _ (by omega)
 refine ⟨⟨h1,by simp [sumF];omega,by simp [sumF];omega,fun xs hx=>by have:=hr xs hx;omega,by simp only [sumF];omega⟩,?_⟩
 simp only [SF.size,sumF,Q2C,Q3g]
 omega
def Fit (f g:SF):Prop:=∀ x:Nat,x<f.sz.length→ix f.sz x+ix g.sz x≤16
def mad (xs:List Int):Int:=if xs.all (fun x=>decide (x≤16))=true then 0 else 3
theorem mad_bad {xs:List Int} {i:Nat} (h:i<xs.length) (h2:16<ix xs i):mad xs=3:=by
 unfold mad
 rw [if_neg]
 intro q
 rw [List.all_eq_true] at q
 have:=q _ (List.getElem_mem h)
 rw [Qy _ _ h] at this
 simp at this
 omega
theorem Q6h {xs:List Int} (h:∀ y:Nat,y<xs.length→ix xs y≤16):mad xs=0:=by
 unfold mad
 rw [if_pos]
 rw [List.all_eq_true]
 intro x hx
 obtain ⟨i,hi,rfl⟩:=List.getElem_of_mem hx
 rw [Qy _ _ hi]
 simpa using h i hi
theorem Q4B (f g:SF) {n i:Nat} (h:i<n):ix (sumZ f g n) i=ix f.sz i+ix g.sz i:=by
 rw [← Qy _ _ (show i<(sumZ f g n).length by simpa using h)]
 simp [sumZ]
theorem fit_mad {f g:SF} (h:Fit f g):mad (sumF f g).sz=0:=Q6h fun y hy=>by
 simp only [sumF,Q2C] at hy ⊢
 rw [Q4B f g hy]
 exact h y hy
theorem fit_mad' {f g:SF} (h:¬ Fit f g):mad (sumF f g).sz=3:=by
 simp only [Fit,Classical.not_forall] at h
 obtain ⟨x,hx,h⟩:=h
 exact mad_bad (i:=x) (by simpa [sumF] using hx) (by simp only [sumF];rw [Q4B f g hx];omega)
theorem fit_all {f g:SF} (hT:Two f g):(sumF f g).sz.all (inR 17)=true↔Fit f g:=by
 rw [List.all_eq_true]
 constructor
 ·intro h x hx
  have:=h (ix (sumF f g).sz x) (by rw [← Qy _ _ (show x<(sumF f g).sz.length by simpa [sumF] using hx)];exact List.getElem_mem _)
  simp only [sumF] at this
  rw [Q4B f g hx] at this
  simp only [inR,Bool.and_eq_true,decide_eq_true_eq] at this
  omega
 intro h x hx
 obtain ⟨i,hi,rfl⟩:=List.getElem_of_mem hx
 rw [Qy _ _ hi]
 simp only [sumF,Q2C] at hi ⊢
 rw [Q4B f g hi]
 have:=h i hi
 have:=hT.sizes hi
 simp only [inR,Bool.and_eq_true,decide_eq_true_eq]
 omega
def copP (s t:List (List Int)) (n:Nat):List (List Int):=(List.range n).map fun x:Nat=>rx s x++rx t x
@[simp] theorem Q5u (s t:List (List Int)) (n:Nat):(copP s t n).length=n:=by simp [copP]
theorem copP_succ (s t:List (List Int)) (n:Nat):copP s t (n+1)=copP s t n++[rx s n++rx t n]:=by simp [copP,List.range_succ]
def copM (s t:SM):SM:=⟨sumF s.s t.s,s.t,copP s.p t.p s.p.length⟩
open Classical in
noncomputable def cres (s t:SM):SM × Int:=if s.Is∧t.Is then (if s.t=t.t then (if Fit s.s t.s then (copM s t,0) else (sm0,3)) else (sm0,5)) else (sm0,1)
theorem cres1 {s t:SM} (h:¬ (s.Is∧t.Is)):cres s t=(sm0,1):=by unfold cres;rw [if_neg h]
theorem cres2 {s t:SM} (h:s.Is∧t.Is) (h2:¬ s.t=t.t):cres s t=(sm0,5):=by unfold cres;rw [if_pos h,if_neg h2]
theorem cres3 {s t:SM} (h:s.Is∧t.Is) (h2:s.t=t.t) (h3:¬ Fit s.s t.s):cres s t=(sm0,3):=by unfold cres;rw [if_pos h,if_pos h2,if_neg h3]
theorem cres4 {s t:SM} (h:s.Is∧t.Is) (h2:s.t=t.t) (h3:Fit s.s t.s):cres s t=(copM s t,0):=by unfold cres;rw [if_pos h,if_pos h2,if_pos h3]
theorem two_of {s t:SM} (h:s.Is∧t.Is) (h2:s.t=t.t):Two s.s t.s:=⟨h.1.1.hs.1,h.2.1.hs.1,by rw [h.1.1.eq,h.2.1.eq,h2]⟩
theorem Q4L {s t:SM} (h:s.Is∧t.Is) (h2:s.t=t.t):(copM s t).ok∧(copM s t).size≤1000000∧s.p.length=t.p.length∧s.p.length≤8∧∀ x:Nat,x<s.p.length→(rx s.p x).length≤16∧(rx t.p x).length≤16:=by
 have hT:=two_of h h2
 obtain ⟨k0,k1,k2,k3,k4,k5,k6,k7⟩:=hT.fact
 obtain ⟨a1,a2⟩:=sumF_ok hT
 obtain ⟨b1,b2⟩:=h.1.1.ht.1.ok
 have hl:=h.1.1.lp
 have hl2:=h.2.1.lp
 have hp:=h.1.1.plen
 have hr:∀ x:Nat,x<s.p.length→(rx s.p x).length≤16∧(rx t.p x).length≤16:=fun x hx=>⟨h.1.1.rows hx,h.2.1.rows (by omega)⟩
 have hb:∀ xs∈copP s.p t.p s.p.length,xs.length≤32:=by
  intro xs hx
  simp only [copP,List.mem_map,List.mem_range] at hx
  obtain ⟨x,hx,rfl⟩:=hx
  have:=hr x hx
  simp only [List.length_append]
  omega
 have h3:=sumL_b hb
 simp only [Q5u] at h3
 have:s.p.length * 32≤8 * 32:=Nat.mul_le_mul_right _ hp
 refine ⟨⟨a1,b1,by simp [copM];omega,fun xs hx=>by have:=hb xs hx;omega,by simp only [copM];omega⟩,?_,by omega,hp,hr⟩
 simp only [SM.size,copM]
 omega
theorem cres_ok (s t:SM):(cres s t).1.ok∧(cres s t).1.size≤1000000:=by
 by_cases h1:s.Is∧t.Is
 ·by_cases h2:s.t=t.t
  ·by_cases h3:Fit s.s t.s
   ·rw [cres4 h1 h2 h3];exact ⟨(Q4L h1 h2).1,(Q4L h1 h2).2.1⟩
   rw [cres3 h1 h2 h3];exact sm0_ok
  rw [cres2 h1 h2];exact sm0_ok
 rw [cres1 h1];exact sm0_ok
theorem fst_bind2 {ε β:Type} {body:Int→Option (Ctl Int ε)} {K:ε→Option β} {r:Option β} (n:Nat) (p:Nat→Prop) {eb:Nat→ε} {eg:ε} (hn:n<4611686018427387904) (h1:∀ i:Nat,i<n→¬ p i→body (i:Int)=some (.next ((i:Int)+1))) (h2:∀ i:Nat,i<n→p i→body (i:Int)=some (.ret (eb i))) (h3:body (n:Int)=some (.ret eg))
  (hb:∀ m,m<n→p m→(∀ k,k<m→¬ p k)→K (eb m)=r) (hg:(∀ i,i<n→¬ p i)→K eg=r):(QX body fuel 0).bind K=r:=by
 rcases loop_fst n (fun i=>¬ p i) hn h1 (fun i hi h=>h2 i hi (Classical.byContradiction h)) h3 with ⟨h,e⟩|⟨m,hm,hq,hlt,e⟩
 ·rw [e];exact hg h
 rw [e];exact hb m hm (Classical.byContradiction hq) hlt
theorem Q4N {xs:List Int} {b:Int} (hx:xs.length≤1000) (hb:∀ i:Nat,i<xs.length→-1000000≤ix xs i+b∧ix xs i+b≤1000000):Q17 xs b=some (shF xs b):=by
 unfold Q17
 refine Q1x xs.length (fun i=>shF (xs.take i) b) (e:=shF xs b) (by simp [shF]) (by omega) (fun i hi=>?_) (by simp) rfl
 have h1:=Q6t xs b i hi
 have h2:=hb i hi
 simp only
 rw [if_pos (by omega),Qg (by omega),Qg (by unfold B64;omega),Qg (by simp;omega),Qg (by unfold B64;omega),← h1]
theorem e_sumSets {f g:SF} (hT:Two f g):Q1v f g=some (sumF f g,sumP f f.sz.length,sumQ f g f.sz.length):=by
 obtain ⟨k0,k1,k2,k3,k4,k5,k6,k7⟩:=hT.fact
 unfold Q1v QQ
 rw [Qg hT.pf.cat.1.size2.1]
 simp only [Option.bind_some]
 refine run_bind f.sz.length (fun i:Nat=>(sumZ f g i,sumP f i,sumQ f g i,(i:Int))) (e:=(sumZ f g f.sz.length,sumP f f.sz.length,sumQ f g f.sz.length)) rfl (by omega) (fun i hi=>?_) (by simp) ?_
 ·have s:=hT.sizes hi
  simp only
  rw [if_pos (by omega),Qg (by omega),Qg (by omega),Qg (by unfold B64;omega),Qg (by simp;omega),Q4M (by omega) (by omega)]
  simp only [Option.bind_some]
  rw [Qg (by simp;omega),Qg (by omega),Q4M (by omega) (by omega)]
  simp only [Option.bind_some]
  rw [Q4N (by simp;omega) (fun j hj=>by rw [ix_iota _ (by omega) (by simp at hj;omega)];simp at hj;omega)]
  simp only [Option.bind_some]
  rw [Qg (by simp;omega),Qg (by unfold B64;omega),Q5j,Q5h,Q5i]
  rfl
 simp only
 refine Q1x f.ac.length (fun i=>Q3m f g i) (e:=Q3m f g f.ac.length) rfl (by omega) (fun i hi=>?_) (by simp) rfl
 obtain ⟨a1,a2,a3,a4,a5⟩:=hT.acts hi
 unfold Q1O
 simp only
 rw [if_pos (by omega),Qg (by omega),Qg (by omega)]
 simp only [Option.bind_some]
 rw [Qg (by omega),Qg (by omega),Qg (by omega),Q4N (by omega) (fun e he=>by have:=a5 e he;omega)]
 simp only [Option.bind_some]
 rw [Qg (by simp;omega),Qg (by simp;omega),Qg (by unfold B64;omega),Q4g]
 rfl
theorem e_l21Sum {f g:SF} (hT:Two f g):Q1Q f g=some (sumF f g,sumP f f.sz.length,sumQ f g f.sz.length):=by
 obtain ⟨k0,k1,k2,k3,k4,k5,k6,k7⟩:=hT.fact
 unfold Q1Q Q2l
 rw [Qg hT.pf.cat.1.size2.1]
 simp only [Option.bind_some]
 refine run_bind f.sz.length (fun i:Nat=>(sumZ f g i,sumP f i,sumQ f g i,(i:Int))) (e:=(sumZ f g f.sz.length,sumP f f.sz.length,sumQ f g f.sz.length)) rfl (by omega) (fun i hi=>?_) (by simp) ?_
 ·have s:=hT.sizes hi
  simp only
  rw [if_pos (by omega)]
  refine Q1x (ix f.sz i).toNat (fun k=>iota k) (e:=iota (ix f.sz i).toNat) (by simp [iota]) (by omega) (fun k hk=>?_) (by simp only;rw [Qg (by omega),if_neg (by omega)]) ?_
  ·simp only
   rw [Qg (by omega),if_pos (by omega),Qg (by simp;omega),Qg (by unfold B64;omega),Q3z]
  refine Q1x (ix g.sz i).toNat (fun k=>shF (iota k) (ix f.sz i)) (e:=shF (iota (ix g.sz i).toNat) (ix f.sz i)) (by simp [iota,shF]) (by omega) (fun k hk=>?_) (by simp only;rw [Qg (by omega),if_neg (by omega)]) ?_
  ·simp only
   rw [Qg (by omega),if_pos (by omega),Qg (by omega),Qg (by unfold B64;omega),Qg (by simp;omega),Qg (by unfold B64;omega),shI_succ]
  rw [Qg (by omega),Qg (by omega),Qg (by unfold B64;omega),Qg (by simp;omega),Qg (by simp;omega),Qg (by simp;omega),Qg (by unfold B64;omega),Q5j,Q5h,Q5i]
  rfl
 simp only
 refine Q1x f.ac.length (fun i=>Q3m f g i) (e:=Q3m f g f.ac.length) rfl (by omega) (fun i hi=>?_) (by simp) rfl
 obtain ⟨a1,a2,a3,a4,a5⟩:=hT.acts hi
 unfold Q1n
 simp only
 rw [if_pos (by omega),Qg (by omega),Qg (by omega),Qg (by omega)]
 simp only [Option.bind_some]
 refine Q1x (rx g.ac i).length (fun k=>rx f.ac i++shF ((rx g.ac i).take k) (ix f.sz (ix f.s.to i))) (e:=sumA f g i) (by simp [shF]) (by omega) (fun k hk=>?_) (by simp only;rw [Qg (by omega),if_neg (by omega)];simp [sumA]) ?_
 ·have:=a5 k hk
  have h1:=Q6t (rx g.ac i) (ix f.sz (ix f.s.to i)) k hk
  simp only
  rw [Qg (by omega),if_pos (by omega),Qg (by omega),Qg (by omega),Qg (by omega),Qg (by unfold B64;omega),Qg (by simp;omega),Qg (by unfold B64;omega),h1,List.append_assoc,Int.add_comm (ix f.sz (ix f.s.to i))]
 rw [Qg (by simp;omega),Qg (by unfold B64;omega),Q4g]
theorem e_l21Made {f:SF} (h:f.sz.length≤1000):Q19 f=some (mad f.sz):=by
 unfold Q19
 refine fst_bind2 f.sz.length (fun i=>16<ix f.sz i) (eb:=fun _=>Sum.inr 3) (eg:=Sum.inl ()) (by omega) (fun i hi hp=>?_) (fun i hi hp=>?_) (by simp) (fun m hm hp _=>?_) fun hp=>?_
 ·rw [if_pos (by omega),Qg (by omega),if_neg hp,Qg (by unfold B64;omega)]
 ·rw [if_pos (by omega),Qg (by omega),if_pos hp]
 ·simp only;rw [mad_bad hm hp]
 simp only;rw [Q6h fun y hy=>Int.not_lt.1 (hp y hy)]
theorem e_cop {α:Type} {s t:SM} (h:s.Is∧t.Is) (h2:s.t=t.t) {K:List (List Int)→Option α} {r:Option α} (hk:K (copP s.p t.p s.p.length)=r) {body:List (List Int) × Int→Option (Ctl (List (List Int) × Int) (List (List Int)))}
  (hb:body=fun q=>if q.2<(s.p.length:Int) then ass (0≤q.2∧q.2<(s.p.length:Int)) <| (ass ((rx s.p q.2).length≤1048576) <| some (rx s.p q.2)).bind fun v=>ass (0≤q.2∧q.2<(t.p.length:Int)) <| ass ((v++rx t.p q.2).length≤1073741824) <| ass ((q.1++[v++rx t.p q.2]).length≤1073741824) <| ass (B64 (q.2+1)) <| some (Ctl.next (q.1++[v++rx t.p q.2],q.2+1)) else some (Ctl.ret q.1)) :
  (QX body fuel ([],0)).bind K=r:=by
 obtain ⟨o1,o2,o3,o4,o5⟩:=Q4L h h2
 subst hb
 refine Q1x s.p.length (fun i=>copP s.p t.p i) (e:=copP s.p t.p s.p.length) rfl (by omega) (fun i hi=>?_) (by simp) hk
 have:=o5 i hi
 simp only
 rw [if_pos (by omega),Qg (by omega),Qg (by omega)]
 simp only [Option.bind_some]
 rw [Qg (by omega),Qg (by simp;omega),Qg (by simp;omega),Qg (by unfold B64;omega),copP_succ]
theorem Q3D (s t:SM):∃ r,QS s t=some r∧QR s t=some r∧r.1.ok∧r.1.size≤1000000:=by
 refine ⟨cres s t,?_,?_,cres_ok s t⟩
 ·unfold QS Q21 Q1g Q18
  by_cases h:s.Is∧t.Is
  case neg =>
   rw [cres1 h]
   by_cases h1:s.Is
   ·have h2:¬ t.Is:=fun q=>h ⟨h1,q⟩
    simp [Q37 h1,Q4E h2];rfl
   simp [Q4E h1];rfl
  by_cases h2:s.t=t.t
  case neg=>rw [cres2 h h2];simp [Q37 h.1,Q37 h.2,Q4E h2];rfl
  have hT:=two_of h h2
  have hl:=hT.fact
  have hm:Q19 (sumF s.s t.s)=some (mad (sumF s.s t.s).sz):=e_l21Made (by simp [sumF];omega)
  simp only [Q37 h.1,Q37 h.2,Q37 h2,Option.bind_some,not_true_eq_false,if_false,Bool.not_true,Bool.false_eq_true,if_true,e_l21Sum hT,hm]
  by_cases h3:Fit s.s t.s
  case neg=>rw [cres3 h h2 h3,fit_mad' h3];simp;rfl
  rw [cres4 h h2 h3,fit_mad h3]
  obtain ⟨o1,o2,o3,o4,o5⟩:=Q4L h h2
  simp only [not_true_eq_false,if_false]
  unfold Q1n Q20 Q1P Q1Z
  refine e_cop h h2 ?_ rfl
  rw [Qg (show (sumF s.s t.s).ok from o1.1)]
  simp only [Option.bind_some]
  rw [Qg (show s.t.ok from o1.2.1),Qg (by simp;omega),Qg (show ∀ x∈copP s.p t.p s.p.length,x.length≤1048576 from fun x hx=>o1.2.2.2.1 x hx)]
  rfl
 unfold QR Q1c Q1F
 rw [Qg (by simp)]
 simp only [Option.bind_some]
 have hq:(∀ f∈[s,t],f.Is)↔(s.Is∧t.Is):=by simp
 by_cases h:s.Is∧t.Is
 case neg=>rw [cres1 h,Q4E (fun q=>h (hq.1 q))];simp;rfl
 rw [Q37 (hq.2 h)]
 have hok:=h.1.1.ht.1.ok
 have htF:=h.1.1.ht.1
 rw [Qg (by have:=htF.cat.1.lc;have:=htF.cat.1.m40;omega),Qg (by have:=htF.la;have:=htF.cat.1.m40;omega)]
 simp only [Option.bind_some,not_true_eq_false,if_false]
 by_cases h2:s.t=t.t
 case neg=>rw [cres2 h h2,Q4E h2];simp;rfl
 have hT:=two_of h h2
 have hl:=hT.fact
 rw [Q37 h2]
 simp only [not_true_eq_false,if_false,e_sumSets hT,Option.bind_some]
 unfold Q1Y Q2k
 rw [Qg (by unfold B64;omega)]
 simp only [Option.bind_some]
 by_cases h3:Fit s.s t.s
 case neg=>rw [cres3 h h2 h3,if_pos (fun q=>h3 ((fit_all hT).1 q))];rfl
 rw [cres4 h h2 h3,if_neg (fun q=>q ((fit_all hT).2 h3))]
 obtain ⟨o1,o2,o3,o4,o5⟩:=Q4L h h2
 unfold Q1O Q2j QD Q2i
 refine e_cop h h2 ?_ rfl
 rw [Qg (show (sumF s.s t.s).ok from o1.1)]
 simp only [Option.bind_some]
 rw [Qg (show s.t.ok from o1.2.1),Qg (by simp;omega),Qg (show ∀ x∈copP s.p t.p s.p.length,x.length≤1048576 from fun x hx=>o1.2.2.2.1 x hx)]
 rfl
end Go.Vc.T
