/- A part of the proof: a verified generator of conditions, and what each function of the program does. -/
import Derived.Test.YtaahcahglfjhfaaZ7
set_option maxRecDepth 100000
set_option maxHeartbeats 4000000
set_option linter.unusedSimpArgs false
set_option linter.unusedVariables false

namespace Go.Vc.T
open Go Go.Vc Go.Proofs
section
attribute [local simp] Qc Qw Qm QN Qu
def Es {α:Type} (c:α→List AV) (xs:List α):List (List AV):=xs.map c
def gx {α:Type} [Inhabited α] (xs:List α) (j:Int):α:=xs.getD j.toNat default
def eB (b:Bool):List AV:=[.val (.bool b)]
def eI (b:Int):List AV:=[iV b]
def eL (x:List (List Int)):List AV:=[.lst true 1 (Ls x)]
section
variable {α:Type} {c:α→List AV}
@[simp] theorem Es_length (xs:List α):(Es c xs).length=xs.length:=by simp [Es]
@[simp] theorem Es_nil:Es c []=[]:=rfl
theorem Es_append (xs ys:List α):Es c (xs++ys)=Es c xs++Es c ys:=by simp [Es]
theorem Es_set' (xs:List α) (i:Nat) (x:α):Es c (xs.set i x)=(Es c xs).set i (c x):=by simp [Es,List.map_set]
theorem at_E [Inhabited α] {xs:List α} {j:Int} (h:0≤j∧j<(xs.length:Int)):(Es c xs)[j.toNat]? = some (c (gx xs j)):=by
 have h2:j.toNat<xs.length:=by omega
 simp [Es,gx,List.getD_eq_getElem?_getD,h2]
end
@[simp] theorem Cs_E (xs:List Cat):Cs xs=Es (Cat.cells true) xs:=rfl
@[simp] theorem Fs_E (xs:List Fn):Fs xs=Es (Fn.cells true) xs:=rfl
@[simp] theorem Ls_nil':Ls []=[]:=rfl
theorem Ls_append (xs ys:List (List Int)):Ls (xs++ys)=Ls xs++Ls ys:=by simp [Ls]
theorem at_I {xs:List Int} {j:Int} (h:0≤j∧j<(xs.length:Int)):(Is xs)[j.toNat]? = some [iV (ix xs j)]:=by
 have h2:j.toNat<xs.length:=by omega
 simp [Is,ix,List.getD_eq_getElem?_getD,h2]
theorem at_L {xs:List (List Int)} {j:Int} (h:0≤j∧j<(xs.length:Int)):(Ls xs)[j.toNat]? = some [lI (rx xs j)]:=by
 have h2:j.toNat<xs.length:=by omega
 simp [Ls,rx,List.getD_eq_getElem?_getD,h2]
@[simp] theorem Is_takeE (xs:List Int) (k:Nat):List.take k (Is xs)=Is (xs.take k):=by simp [Is,List.map_take]
@[simp] theorem Ls_takeA (xs:List (List Int)):List.take xs.length (Ls xs)=Ls xs:=List.take_of_length_le (by simp)
@[simp] theorem u8_min:IntKind.u8.min=0:=rfl
@[simp] theorem u8_max:IntKind.u8.max=255:=rfl
@[simp] theorem Bs_nil':Bs []=[]:=rfl
theorem Bs_append (xs ys:List Bool):Bs (xs++ys)=Bs xs++Bs ys:=by simp [Bs]
theorem at_B {xs:List Bool} {j:Int} (h:0≤j∧j<(xs.length:Int)):(Bs xs)[j.toNat]? = some [.val (.bool (gx xs j))]:=by
 have h2:j.toNat<xs.length:=by omega
 simp [Bs,gx,List.getD_eq_getElem?_getD,h2]
theorem IA (xs ys:List Int):Is (xs++ys)=Is xs++Is ys:=Is_append xs ys
theorem I1 (x:Int) (xs:List Int):Is (x :: xs)=[iV x] :: Is xs:=rfl
theorem LA (xs ys:List (List Int)):Ls (xs++ys)=Ls xs++Ls ys:=Ls_append xs ys
theorem L1 (x:List Int) (xs:List (List Int)):Ls (x :: xs)=[lI x] :: Ls xs:=rfl
theorem BA (xs ys:List Bool):Bs (xs++ys)=Bs xs++Bs ys:=Bs_append xs ys
theorem B1 (x:Bool) (xs:List Bool):Bs (x :: xs)=[.val (.bool x)] :: Bs xs:=rfl
theorem EA {α:Type} {c:α→List AV} (xs ys:List α):Es c (xs++ys)=Es c xs++Es c ys:=Es_append xs ys
theorem E1 {α:Type} {c:α→List AV} (x:α) (xs:List α):Es c (x :: xs)=c x :: Es c xs:=rfl
theorem E2 {α:Type} {c:α→List AV} (xs:List α) (i:Nat) (x:α):Es c (xs.set i x)=(Es c xs).set i (c x):=Es_set' xs i x
theorem rlLL_c {α:Type} {m:List (Nat × Nat)} {c:α→List AV} (h:∀ x,rlL m (c x)=c x):∀ xs:List α,rlLL m (xs.map c)=xs.map c:=by
 intro xs
 induction xs with
 | nil=>rfl
 | cons a r ih=>simp only [List.map_cons,rlLL,h,ih]
@[simp] theorem rlLL_Ls (m:List (Nat × Nat)) (xs:List (List Int)):rlLL m (Ls xs)=Ls xs:=rlLL_c (fun _=>rfl) xs
@[simp] theorem Qx {α:Type} (m:List (Nat × Nat)) (c:α→List AV) (xs:List α) (h:∀ x,rlL m (c x)=c x):rlLL m (Es c xs)=Es c xs:=rlLL_c h xs
@[simp] theorem rlLL_append (m:List (Nat × Nat)) (xs ys:List (List AV)):rlLL m (xs++ys)=rlLL m xs++rlLL m ys:=by
 induction xs with
 | nil=>rfl
 | cons a r ih=>simp only [List.cons_append,rlLL,ih]
end
section
attribute [local simp] Qc Qw Qm QN Qu
def Q13 (x:Cat):List AV:=[.rptr (x.cells true)]
instance:Inhabited Cat:=⟨⟨0,[],[],[],[]⟩⟩
instance:Inhabited SF:=⟨⟨default,[],[]⟩⟩
structure Ends where
 a:Int
 b:Int
def Ends.cells (u:Bool) (f:Ends):List AV:=[iV f.a,iV f.b]
structure XClassifier where
 sets_:SF
 sieves_:List (List (List Int))
def XClassifier.cells (u:Bool) (f:XClassifier):List AV:=[iV f.sets_.s.n,.lst u 1 (Is f.sets_.s.fr),.lst u 1 (Is f.sets_.s.to),.lst u 1 (Is f.sets_.s.id),.lst u 1 (Ls f.sets_.s.cs),.lst u 1 (Is f.sets_.sz),.lst u 1 (Ls f.sets_.ac),.lst u 1 (Es eL f.sieves_)]
instance:Inhabited XClassifier:=⟨⟨default,default⟩⟩
def Qf (x:XClassifier):List AV:=[.rptr (x.cells true)]
structure XDayAt where
 lists_:List (List Int)
 at_:List (ByteArray × Int)
 classes_:List Int
def XDayAt.cells (u:Bool) (f:XDayAt):List AV:=[.lst u 1 (Ls f.lists_),.cmap .str (Msi f.at_),.lst u 1 (Is f.classes_)]
structure XMonoidal where
 on_:Cat
 unit_:Int
 objects_:List (List Int)
 arrows_:List (List Int)
def XMonoidal.cells (u:Bool) (f:XMonoidal):List AV:=[iV f.on_.n,.lst u 1 (Is f.on_.fr),.lst u 1 (Is f.on_.to),.lst u 1 (Is f.on_.id),.lst u 1 (Ls f.on_.cs),iV f.unit_,.lst u 1 (Ls f.objects_),.lst u 1 (Ls f.arrows_)]
def eP_XMonoidal (x:XMonoidal):List AV:=[.rptr (x.cells true)]
end
section
attribute [local simp] Qc Qw Qm QN Qu
@[simp] theorem ef_59:elm Try.prog 59=some 23:=by kernel_rfl
@[simp] theorem ef_94:elm Try.prog 94=some 126:=by kernel_rfl
@[simp] theorem ef_126:elm Try.prog 126=some 129:=by kernel_rfl
@[simp] theorem ef_129:elm Try.prog 129=some 2:=by kernel_rfl
@[simp] theorem ff_25_0:fld Try.prog 25 0=some (0,1,false):=by kernel_rfl
@[simp] theorem ff_25_1:fld Try.prog 25 1=some (1,1,false):=by kernel_rfl
@[simp] theorem ff_25_2:fld Try.prog 25 2=some (2,1,false):=by kernel_rfl
@[simp] theorem ff_25_3:fld Try.prog 25 3=some (3,1,false):=by kernel_rfl
@[simp] theorem ff_25_4:fld Try.prog 25 4=some (4,1,false):=by kernel_rfl
@[simp] theorem ff_27_0:fld Try.prog 27 0=some (0,5,true):=by kernel_rfl
@[simp] theorem ff_27_1:fld Try.prog 27 1=some (5,1,false):=by kernel_rfl
@[simp] theorem ff_27_2:fld Try.prog 27 2=some (6,1,false):=by kernel_rfl
@[simp] theorem ff_27_3:fld Try.prog 27 3=some (7,1,false):=by kernel_rfl
@[simp] theorem ff_32_0:fld Try.prog 32 0=some (0,1,false):=by kernel_rfl
@[simp] theorem ff_32_1:fld Try.prog 32 1=some (1,1,false):=by kernel_rfl
@[simp] theorem ff_32_2:fld Try.prog 32 2=some (2,1,false):=by kernel_rfl
@[simp] theorem ff_32_3:fld Try.prog 32 3=some (3,1,false):=by kernel_rfl
@[simp] theorem ff_32_4:fld Try.prog 32 4=some (4,1,false):=by kernel_rfl
@[simp] theorem ff_34_0:fld Try.prog 34 0=some (0,5,true):=by kernel_rfl
@[simp] theorem ff_34_1:fld Try.prog 34 1=some (5,1,false):=by kernel_rfl
@[simp] theorem ff_34_2:fld Try.prog 34 2=some (6,1,false):=by kernel_rfl
@[simp] theorem ff_38_0:fld Try.prog 38 0=some (0,5,true):=by kernel_rfl
@[simp] theorem ff_38_1:fld Try.prog 38 1=some (5,1,false):=by kernel_rfl
@[simp] theorem ff_38_2:fld Try.prog 38 2=some (6,1,false):=by kernel_rfl
@[simp] theorem ff_38_3:fld Try.prog 38 3=some (7,1,false):=by kernel_rfl
@[simp] theorem ff_81_0:fld Try.prog 81 0=some (0,1,false):=by kernel_rfl
@[simp] theorem ff_81_1:fld Try.prog 81 1=some (1,1,false):=by kernel_rfl
@[simp] theorem ff_81_2:fld Try.prog 81 2=some (2,1,false):=by kernel_rfl
@[simp] theorem ff_96_0:fld Try.prog 96 0=some (0,7,true):=by kernel_rfl
@[simp] theorem ff_96_1:fld Try.prog 96 1=some (7,1,false):=by kernel_rfl
@[simp] theorem hf_129_165 : mth Try.prog 129 "loop.example/g01083/impl.isGreatest" = some 165 := by kernel_rfl
@[simp] theorem pf_96:Q3l Try.prog 96=some [(0,7),(7,1)]:=by kernel_rfl
@[simp] theorem lf_129:slt Try.prog 129=true:=by kernel_rfl
@[simp] theorem nf_148_129:tas Try.prog 148 129=true:=by kernel_rfl
@[simp] theorem tf_94:tyi Try.prog 94=some ⟨false,1,24,[.slice none 0 0]⟩:=by kernel_rfl
@[simp] theorem tf_96:tyi Try.prog 96=some ⟨true,8,176,[.int .i64 0,.slice none 0 0,.slice none 0 0,.slice none 0 0,.slice none 0 0,.slice none 0 0,.slice none 0 0,.slice none 0 0]⟩:=by kernel_rfl
@[simp] theorem tf_126:tyi Try.prog 126=some ⟨false,1,24,[.slice none 0 0]⟩:=by kernel_rfl
@[simp] theorem tf_129:tyi Try.prog 129=some ⟨false,1,24,[.slice none 0 0]⟩:=by kernel_rfl
end
section
attribute [local simp] Qc Qw Qm QN Qu
theorem toCat (u:Bool) (c:Cat) (hc:c.ok):Contract Try.prog 19 [.agg (c.cells u)] (.agg (c.cells true)):=c18 c u hc
theorem cszCat (u:Bool) (c:Cat) (l:Int) (h1:0≤l) (h2:l≤1048576):Contract Try.prog 17 [.agg (c.cells u),iV l] (iV (Q36 l c)):=c13 u c l h1 h2
theorem markCat (f:Cat) (k:Int) (hf:f.ok) (h2:0≤k) (h3:k+f.size≤576460752303423488):MContract Try.prog 22 [.agg [iV f.n,.own 0 0 f.fr.length,.own 1 0 f.to.length,.own 2 0 f.id.length,.own 3 0 f.cs.length],iV k] (f.mu k) (iV (k+f.size)):=by
 have q:=m31 f k hf h2 (by omega)
 rwa [show k+f.fr.length+f.to.length+f.id.length+sumL f.cs=k+f.size by simp [Cat.size,Int.add_assoc]] at q
def XMonoidal.mark (k:Int) (f:XMonoidal):XMonoidal:=⟨f.on_.mark (k),f.unit_,runs (k+f.on_.size) f.objects_,runs (k+f.on_.size+sumL f.objects_) f.arrows_⟩
end
section
attribute [local simp] Qc Qw Qm QN Qu
noncomputable def Q2T (xs:List Int):Option (List Int) :=
 ass (xs.length≤1048576) <| some (xs)
theorem Q7J (xs:List Int) (r:List Int) (h:Q2T xs=some r):Contract Try.prog 69 [lI xs] (lI r):=by
 unfold Q2T at h;replace ⟨hx,h⟩:=Q6 h;cases h;exact c58 true xs hx
noncomputable def Q3n (xs:List Int):Option (List Int) :=
 ass (xs.length≤1048576) <| some (xs)
theorem w_i_clone (xs:List Int) (r:List Int) (h:Q3n xs=some r):Contract Try.prog 83 [lI xs] (lI r):=by
 unfold Q3n at h;replace ⟨hx,h⟩:=Q6 h;cases h;exact c47 true xs hx
noncomputable def Q11 (c:Cat):Option (Int) :=
 some (c.fr.length)
theorem Q38 (c:Cat) (r:Int) (h:Q11 c=some r):Contract Try.prog 76 [.rptr (c.cells true)] (iV r):=by
 unfold Q11 at h;cases h;have q:=c61 true c [];simp only [List.append_nil] at q;exact q
noncomputable def Q1b (c:Cat):Option (Cat) :=
 ass (c.ok) <| some (c)
theorem Q3G (c:Cat) (r:Cat) (h:Q1b c=some r):Contract Try.prog 44 [.rptr (c.cells true)] (.agg (r.cells true)):=by
 unfold Q1b at h;replace ⟨hc,h⟩:=Q6 h;cases h;have q:=c23 true c [] hc;simp only [List.append_nil] at q;exact q
noncomputable def QI (c:Cat) (f:Int) (g:Int):Option (Int) :=
 ass (0≤f) <| ass (f<c.cs.length) <| ass (0≤g) <| ass (g<(rx c.cs f).length) <| some ((ix (rx c.cs f) g))
theorem Q2i (c:Cat) (f:Int) (g:Int) (r:Int) (h:QI c f g=some r):Contract Try.prog 49 [.rptr (c.cells true),iV f,iV g] (iV r):=by
 unfold QI at h;replace ⟨h1,h⟩:=Q6 h;replace ⟨h2,h⟩:=Q6 h;replace ⟨h3,h⟩:=Q6 h;replace ⟨h4,h⟩:=Q6 h;cases h;have q:=c69 true c [] f g h1 h2 h3 h4;simp only [List.append_nil] at q;exact q
noncomputable def Q2g (c:Cat):Option (Bool) :=
 some ((bo c.Is))
theorem w_s_l02Is (c:Cat) (r:Bool) (h:Q2g c=some r):Contract Try.prog 54 [.agg (c.cells true)] (.val (.bool r)):=by
 unfold Q2g at h;cases h;exact c55 true c
noncomputable def QD (c:Cat):Option (Bool) :=
 some ((bo c.Is))
theorem Q2u (c:Cat) (r:Bool) (h:QD c=some r):Contract Try.prog 57 [.rptr (c.cells true)] (.val (.bool r)):=by
 unfold QD at h;cases h;have q:=c60 true c [];simp only [List.append_nil] at q;exact q
noncomputable def Q2q (xs:List Int) (ys:List Int):Option (Bool) :=
 some ((decide (xs=ys)))
theorem Q6E (xs:List Int) (ys:List Int) (r:Bool) (h:Q2q xs ys=some r):Contract Try.prog 67 [lI xs,lI ys] (.val (.bool r)):=by
 unfold Q2q at h;cases h;exact n54 true true xs ys
noncomputable def Q35 (xs:List Int) (ys:List Int):Option (Int) :=
 some ((cmpL xs ys))
theorem Q6C (xs:List Int) (ys:List Int) (r:Int) (h:Q35 xs ys=some r):Contract Try.prog 110 [lI xs,lI ys] (iV r):=by
 unfold Q35 at h;cases h;exact n83 true true xs ys
noncomputable def Q2R (xs:List Int) (ys:List Int):Option (Bool) :=
 some ((decide (xs=ys)))
theorem Q7a (xs:List Int) (ys:List Int) (r:Bool) (h:Q2R xs ys=some r):Contract Try.prog 82 [lI xs,lI ys] (.val (.bool r)):=by
 unfold Q2R at h;cases h;exact n62 true true xs ys
noncomputable def Q2S (xs:List Int) (n:Int):Option (Bool) :=
 some ((bo (n∈xs)))
theorem Q7I (xs:List Int) (n:Int) (r:Bool) (h:Q2S xs n=some r):Contract Try.prog 117 [lI xs,iV n] (.val (.bool r)):=by
 unfold Q2S at h;cases h;exact iq72 true xs n
noncomputable def Q2Q (bs:List Bool):Option (List Int) :=
 ass (bs.length≤1048576) <| some ((mkF bs bs.length))
theorem Q7H (bs:List Bool) (r:List Int) (h:Q2Q bs=some r):Contract Try.prog 130 [.lst true 1 (Bs bs)] (lI r):=by
 unfold Q2Q at h;replace ⟨hb,h⟩:=Q6 h;cases h;exact iq86 true bs hb
end
section
attribute [local simp] Qc Qw Qm QN Qu
theorem bo_tt (p:Prop):(bo p=true)=p:=by simp [bo]
theorem Q1x {p:Prop} (h:p):bo p=true:=by simp [bo,h]
theorem Q1R {p:Prop} (h:¬ p):bo p=false:=by simp [bo,h]
theorem Q5Y {p q:Prop} (h:p↔q):bo p=bo q:=by simp [bo,h]
theorem loop_go {σ ε:Type} {body:σ→Option (Ctl σ ε)} (g:Nat→σ) (m:Nat):∀ (k:Nat),m≤k→(∀ i,i<m→body (g i)=some (.next (g (i+1))))→QR body k (g 0)=QR body (k - m) (g m):=by
 induction m with
 | zero=>intro k _ _;rfl
 | succ m ih =>
  intro k hk h;rw [ih k (by omega) fun i hi=>h i (by omega)];obtain ⟨j,hj⟩:∃ j,k - m=j+1:=⟨k - m - 1,by omega⟩;rw [hj,show k - (m+1)=j by omega];simp only [QR,h m (by omega)]
theorem Q57 {σ ε:Type} {body:σ→Option (Ctl σ ε)} (g:Nat→σ) (n:Nat) {e:ε} {s0:σ} (h0:s0=g 0) (hn:n<4611686018427387904) (h:∀ i,i<n→body (g i)=some (.next (g (i+1)))) (he:body (g n)=some (.ret e)):QR body fuel s0=some e:=by
 subst h0;rw [loop_go g n fuel (by unfold fuel;omega) h];obtain ⟨j,hj⟩:∃ j,fuel - n=j+1:=⟨fuel - n - 1,by unfold fuel;omega⟩;rw [hj];simp only [QR,he]
theorem loop_fst {ε:Type} {body:Int→Option (Ctl Int ε)} (n:Nat) (p:Nat→Prop) {eb:Nat→ε} {eg:ε} (hn:n<4611686018427387904) (h1:∀ i:Nat,i<n→p i→body (i:Int)=some (.next ((i:Int)+1))) (h2:∀ i:Nat,i<n→¬ p i→body (i:Int)=some (.ret (eb i))) (h3:body (n:Int)=some (.ret eg)) :
  ((∀ i:Nat,i<n→p i)∧QR body fuel 0=some eg)∨∃ m,m<n∧¬ p m∧(∀ k,k<m→p k)∧QR body fuel 0=some (eb m):=by
 by_cases hall:∀ i:Nat,i<n→p i
 ·exact .inl ⟨hall,Q57 (fun i:Nat=>(i:Int)) n rfl hn (fun i hi=>h1 i hi (hall i hi)) h3⟩
 right;have hex:∃ i,i<n∧¬ p i:=Classical.byContradiction fun hx=>hall fun i hi=>Classical.byContradiction fun hp=>hx ⟨i,hi,hp⟩;obtain ⟨m,⟨hm,hp⟩,hmin⟩:∃ m,(m<n∧¬ p m)∧∀ k,k<m→¬ (k<n∧¬ p k):=by
  obtain ⟨i,hi⟩:=hex
  induction i using Nat.strongRecOn with
  | _ i ih =>
   by_cases h:∃ k,k<i∧k<n∧¬ p k
   ·obtain ⟨k,h1,h2⟩:=h;exact ih k h1 h2
   exact ⟨i,hi,fun k hk hh=>h ⟨k,hk,hh⟩⟩
 have hlt:∀ k,k<m→p k:=fun k hk=>Classical.byContradiction fun hh=>hmin k hk ⟨by omega,hh⟩;exact ⟨m,hm,hp,hlt,Q57 (fun i:Nat=>(i:Int)) m rfl (by omega) (fun i hi=>h1 i (by omega) (hlt i hi)) (h2 m hm hp)⟩
theorem loop_acc {α ε:Type} {body:α × Int→Option (Ctl (α × Int) ε)} (g:Nat→α) (n:Nat) {e:ε} {a0:α} (h0:a0=g 0) (hn:n<4611686018427387904) (h:∀ i:Nat,i<n→body (g i,(i:Int))=some (.next (g (i+1),(i:Int)+1))) (he:body (g n,(n:Int))=some (.ret e)):QR body fuel (a0,0)=some e:=by
 subst h0;exact Q57 (fun i:Nat=>(g i,(i:Int))) n rfl hn h he
theorem Q1E {α ε β:Type} {body:α × Int→Option (Ctl (α × Int) ε)} {K:ε→Option β} {r:Option β} {a0:α} (n:Nat) (g:Nat→α) {e:ε} (h0:a0=g 0) (hn:n<4611686018427387904) (h:∀ i:Nat,i<n→body (g i,(i:Int))=some (.next (g (i+1),(i:Int)+1))) (he:body (g n,(n:Int))=some (.ret e)) (hk:K e=r):(QR body fuel (a0,0)).bind K=r:=by
 rw [loop_acc g n h0 hn h he];exact hk
end
section
attribute [local simp] Qc Qw Qm QN Qu
structure Fn.Is (f:Fn):Prop where
 s:f.s.Is
 t:f.t.Is
 lo:(f.ob.length:Int)=f.s.n
 la:f.ar.length=f.s.fr.length
 ob:∀ j:Nat,j<f.ob.length→0≤ix f.ob j∧ix f.ob j<f.t.n
 ar:∀ j:Nat,j<f.ar.length→0≤ix f.ar j∧ix f.ar j<f.t.fr.length
 ends:∀ a:Nat,a<f.s.fr.length→ix f.t.fr (ix f.ar a)=ix f.ob (ix f.s.fr a)∧ix f.t.to (ix f.ar a)=ix f.ob (ix f.s.to a)
 ids:∀ x:Nat,x<f.s.id.length→ix f.ar (ix f.s.id x)=ix f.t.id (ix f.ob x)
 comp:∀ a:Nat,a<f.s.fr.length→∀ b:Nat,b<f.s.fr.length→ix f.s.to a=ix f.s.fr b→ix f.ar (ix (rx f.s.cs a) b)=ix (rx f.t.cs (ix f.ar a)) (ix f.ar b)
end
section
attribute [local simp] Qc Qw Qm QN Qu
theorem Cat.Is.ok {c:Cat} (h:c.Is):c.ok:=h.1.size2.1
end
attribute [local simp] unk unA unE unT unC flat
noncomputable def Q1C (c_:Cat) (f_:Int) (g_:Int):Option Int :=
 ass (0≤f_∧f_<(c_.cs.length:Int)) <|
 ass (0≤g_∧g_<((rx c_.cs f_).length:Int)) <|
 some (ix (rx c_.cs f_) g_)
theorem wkQ8 {F : Fx} {st st' : St} (m : List (Nat × Nat)) (h : (m.map Prod.fst).Nodup ∧ (m.map Prod.snd).Nodup ∧ (∀ id, id < F.pins → look id m = some id) ∧ (∀ p ∈ m, p.2 < st'.n) ∧ (∀ p ∈ st'.h, p.1 < st'.n) ∧ (∀ p ∈ st'.s, p.2 = rl m (st.get p.1) ∨ p.2 = .bot) ∧ ∀ p ∈ st'.h, hhOk m st.h p.1 p.2 := by simp [hP, hhOk, back, idQ, Cat.cells, UA, U1, IA, I1, LA, L1, BA, B1, EA, E1, E2, eB, eI, eL, XClassifier.cells, Qx _ Qf _ (fun _=>rfl), Qx _ eL _ (fun _=>rfl)]) : Wk F st st' := Wk.r1 m h
theorem wkI8 {F : Fx} {st st' : St} (m : Nat) (h : ((idQ m).map Prod.fst).Nodup ∧ ((idQ m).map Prod.snd).Nodup ∧ (∀ id, id < F.pins → look id (idQ m) = some id) ∧ (∀ p ∈ (idQ m), p.2 < st'.n) ∧ (∀ p ∈ st'.h, p.1 < st'.n) ∧ (∀ p ∈ st'.s, p.2 = rl (idQ m) (st.get p.1) ∨ p.2 = .bot) ∧ ∀ p ∈ st'.h, hhOk (idQ m) st.h p.1 p.2 := by simp [hP, hhOk, back, idQ, Cat.cells, UA, U1, IA, I1, LA, L1, BA, B1, EA, E1, E2, eB, eI, eL, XClassifier.cells, Qx _ Qf _ (fun _=>rfl), Qx _ eL _ (fun _=>rfl)]) : Wk F st st' := Wk.r1 (idQ m) h
@[simp] abbrev Y7 (a:Cat) (b:List (Nat × Ent)):List (Nat × Ent):=(0,.mix 5 [(Cat.cells true a)])::b
theorem Q6F (c_:Cat) (f_:Int) (g_:Int) (r:Int) (h:Q1C c_ f_ g_=some r):Contract Try.prog 38 [.agg (c_.cells true),iV f_,iV g_] (iV r):=by
 refine Qg (rvs:=[.tmp 6]) (rs:=[iV r]) Try.func38 rfl rfl rfl rfl (by simp [Try.f38]) fun F hN hP=>?_;unfold Q1C at h;refine Q0 (runQ hN fun K hK=>?_);simp [eL,eI,Qk,Q13,Cat.cells];repeat refine sdQ ?_
 refine hK _ ?_;clear hK K;refine tn (Q5 (st':=⟨[(1,iV f_),(2,iV g_),(3,.adr 0 0 0)],Y7 c_ [],1⟩) (wkQ8 [(0,0)]) (Q0 (runQ hN fun K hK=>?_)));replace ⟨a1,h⟩:=Q6 h;replace ⟨a2,h⟩:=Q6 h;simp [eL,eI,Qk,Q13,Cat.cells,at_L a1,at_I a2];repeat refine sdQ ?_
 refine hK _ (tn (Q5 (st':=⟨[(6,iV (ix (rx c_.cs f_) g_))],[],0⟩) (wkQ8 []) (Qj ?_)));clear hK K;have hr:=Option.some.inj h;rw [← hr];refine ⟨_,(.tmp .nil),?_⟩;refine ⟨(.one rfl rfl .nil),[iV (ix (rx c_.cs f_) g_)],[],by simp [Cat.cells,UA,U1,IA,I1,LA,L1,BA,B1,EA,E1,E2,eB,eI,eL],by simp,(UpL.refl _)⟩
section
attribute [local simp] Qc Qw Qm QN Qu
structure Para (f g:Fn):Prop where
 hf:f.Is
 hg:g.Is
 s:f.s=g.s
 t:f.t=g.t
theorem Q5r {c:Cat} {f g:Int} (h0:0≤f∧f<(c.cs.length:Int)) (h1:0≤g∧g<((rx c.cs f).length:Int)):Q1C c f g=some (ix (rx c.cs f) g):=by
 unfold Q1C;rw [Qa h0,Qa h1]
theorem e_Cthen {c:Cat} {f g:Int} (h0:0≤f∧f<(c.cs.length:Int)) (h1:0≤g∧g<((rx c.cs f).length:Int)):QI c f g=some (ix (rx c.cs f) g):=by
 unfold QI;rw [Qa h0.1,Qa h0.2,Qa h1.1,Qa h1.2]
theorem gx_nat {α:Type} [Inhabited α] (xs:List α) {i:Nat} (h:i<xs.length):gx xs i=xs[i]:=by simp [gx,List.getD_eq_getElem?_getD,h]
end
section
attribute [local simp] Qc Qw Qm QN Qu
def tab {α:Type} (n:Nat) (g:Nat→α):List α:=(List.range n).map g
@[simp] theorem Q10 {α:Type} (n:Nat) (g:Nat→α):(tab n g).length=n:=by simp [tab]
theorem Q3r {α:Type} (n:Nat) (g:Nat→α):tab (n+1) g=tab n g++[g n]:=by simp [tab,List.range_succ]
end
section
attribute [local simp] Qc Qw Qm QN Qu
theorem tab_congr {α:Type} {n:Nat} {f g:Nat→α} (h:∀ i,i<n→f i=g i):tab n f=tab n g:=by
 unfold tab;exact List.map_congr_left fun i hi=>h i (by simpa using hi)
end
section
attribute [local simp] Qc Qw Qm QN Qu
noncomputable def flt (n:Nat) (p:Nat→Prop):List Int:=((List.range n).filter fun i=>bo (p i)).map Int.ofNat
noncomputable def fstN (n:Nat) (p:Nat→Prop):Int:=(((List.range n).find? fun i=>bo (p i)).map Int.ofNat).getD (-1)
theorem flt_pos {n:Nat} {p:Nat→Prop} (h:p n):flt (n+1) p=flt n p++[(n:Int)]:=by simp [flt,List.range_succ,Q1x h]
theorem flt_neg {n:Nat} {p:Nat→Prop} (h:¬ p n):flt (n+1) p=flt n p:=by simp [flt,List.range_succ,Q1R h]
theorem Q4W (n:Nat) (p:Nat→Prop):(flt n p).length≤n:=by
 unfold flt;rw [List.length_map];exact Nat.le_trans (List.length_filter_le _ _) (by simp)
theorem mem_flt {n:Nat} {p:Nat→Prop} {x:Int}:x∈flt n p↔∃ i:Nat,i<n∧p i∧x=(i:Int):=by
 simp only [flt,List.mem_map,List.mem_filter,List.mem_range,bo_tt];constructor
 ·rintro ⟨i,⟨h1,h2⟩,rfl⟩;exact ⟨i,h1,h2,rfl⟩
 rintro ⟨i,h1,h2,rfl⟩;exact ⟨i,⟨h1,h2⟩,rfl⟩
theorem ix_flt {n:Nat} {p:Nat→Prop} {i:Nat} (h:i<(flt n p).length):∃ k:Nat,k<n∧p k∧ix (flt n p) i=(k:Int):=by
 have:=List.getElem_mem h;rw [Q16 _ _ h] at this;exact mem_flt.1 this
theorem Q40 (n:Nat) (p:Nat→Prop):(fstN n p = -1∧∀ i,i<n→¬ p i)∨∃ k:Nat,k<n∧p k∧fstN n p=(k:Int):=by
 unfold fstN;cases h:(List.range n).find? fun i=>bo (p i) with
 | none =>
  refine .inl ⟨rfl,fun i hi=>?_⟩;have:=List.find?_eq_none.1 h i (by simpa using hi);simpa [bo_tt] using this
 | some k =>
  have h1:=List.find?_some h;have h2:=List.mem_of_find?_eq_some h;exact .inr ⟨k,by simpa using h2,by simpa [bo_tt] using h1,rfl⟩
def Inv (c:Cat) (f:Int) (g:Nat):Prop:=(ix c.fr g=ix c.to f∧ix c.to g=ix c.fr f)∧ix (rx c.cs f) g=ix c.id (ix c.fr f)∧ix (rx c.cs g) f=ix c.id (ix c.to f)
noncomputable def inv (c:Cat) (f:Int):Int:=fstN c.fr.length (Inv c f)
end
section
attribute [local simp] Qc Qw Qm QN Qu
theorem Cat.Is.two {c:Cat} (h:c.Is) {f g:Int} (f0:0≤f∧f<c.fr.length) (g0:0≤g∧g<c.fr.length) (e:ix c.to f=ix c.fr g):(0≤ix (rx c.cs f) g∧ix (rx c.cs f) g<c.fr.length)∧ix c.fr (ix (rx c.cs f) g)=ix c.fr f∧ix c.to (ix (rx c.cs f) g)=ix c.to g:=by
 have:=(h.1.cell' f0.1 f0.2 g0.1 g0.2).2 e;exact ⟨⟨this.1,this.2.1⟩,this.2.2⟩
theorem e_Then {c:Cat} (h:c.Is) {f g:Int} (f0:0≤f∧f<c.fr.length) (g0:0≤g∧g<c.fr.length):Q1C c f g=some (ix (rx c.cs f) g)∧QI c f g=some (ix (rx c.cs f) g):=by
 have h1:=h.1.lc;have h2:=h.1.row' f0.1 f0.2;exact ⟨Q5r (by omega) (by omega),e_Cthen (by omega) (by omega)⟩
end
section
attribute [local simp] Qc Qw Qm QN Qu
abbrev Ar (c:Cat) (f x y:Int):Prop:=(0≤f∧f<(c.fr.length:Int))∧ix c.fr f=x∧ix c.to f=y
theorem Ar.two {c:Cat} (hc:c.Is) {f g x y z:Int} (h1:Ar c f x y) (h2:Ar c g y z):Ar c (ix (rx c.cs f) g) x z:=by
 have:=hc.two h1.1 h2.1 (by rw [h1.2.2,h2.2.1]);exact ⟨this.1,by rw [this.2.1,h1.2.1],by rw [this.2.2,h2.2.2]⟩
end
section
attribute [local simp] Qc Qw Qm QN Qu
theorem flt_bind {ε β:Type} {body:List Int × Int→Option (Ctl (List Int × Int) ε)} {K:ε→Option β} {r:Option β} (xs:List Int) (q:Int→Prop) {e:ε} (hn:xs.length<4611686018427387904)
  (h:∀ (i:Nat) (acc:List Int),i<xs.length→acc.length≤i→(q (ix xs i)→body (acc,(i:Int))=some (.next (acc++[ix xs i],(i:Int)+1)))∧(¬ q (ix xs i)→body (acc,(i:Int))=some (.next (acc,(i:Int)+1))))
  (he:body (xs.filter (fun f=>bo (q f)),(xs.length:Int))=some (.ret e)) (hk:K e=r):(QR body fuel ([],0)).bind K=r:=by
 refine Q1E xs.length (fun i=>(xs.take i).filter fun f=>bo (q f)) (e:=e) (by simp) hn (fun i hi=>?_) (by simpa using he) hk;have hl:((xs.take i).filter fun f=>bo (q f)).length≤i:=Nat.le_trans (List.length_filter_le _ _) (by simp;omega);have hs:xs.take (i+1)=xs.take i++[ix xs i]:=by rw [List.take_succ_eq_append_getElem hi,Q16 _ _ hi]
 have hf:((xs.take (i+1)).filter fun f=>bo (q f))=((xs.take i).filter fun f=>bo (q f))++(if bo (q (ix xs i))=true then [ix xs i] else []):=by rw [hs,List.filter_append];simp [List.filter_cons]
 obtain ⟨h1,h2⟩:=h i _ hi hl
 by_cases hq:q (ix xs i)
 ·rw [h1 hq,hf,Q1x hq];simp
 rw [h2 hq,hf,Q1R hq];simp
end
section
attribute [local simp] Qc Qw Qm QN Qu
def MpP (f:List Int) (m n:Int):Prop:=(f.length:Int)=m∧∀ j:Nat,j<f.length→0≤ix f j∧ix f j<n
theorem Cat.Is.nums {c:Cat} (h:c.Is):0≤c.n∧c.n≤8∧c.fr.length≤40∧c.to.length=c.fr.length∧c.cs.length=c.fr.length∧(c.id.length:Int)=c.n:=⟨h.1.n0,h.1.n8,h.1.m40,h.1.lt,h.1.lc,h.1.li⟩
theorem Cat.Is.ends {c:Cat} (h:c.Is) {a:Int} (ha:0≤a∧a<(c.fr.length:Int)):(0≤ix c.fr a∧ix c.fr a<c.n)∧(0≤ix c.to a∧ix c.to a<c.n):=by
 have:=h.1.fr' ha.1 ha.2;have:=h.1.to' ha.1 ha.2;have:=h.1.li;omega
theorem Cat.Is.comp {c:Cat} (h:c.Is) {a b:Int} (ha:0≤a∧a<(c.fr.length:Int)) (hb:0≤b∧b<(c.fr.length:Int)) (h0:0≤ix (rx c.cs a) b) :
  ix c.to a=ix c.fr b∧ix (rx c.cs a) b<(c.fr.length:Int)∧ix c.fr (ix (rx c.cs a) b)=ix c.fr a∧ix c.to (ix (rx c.cs a) b)=ix c.to b:=by
 by_cases e:ix c.to a=ix c.fr b
 ·have q:=h.two ha hb e;exact ⟨e,q.1.2,q.2.1,q.2.2⟩
 have:=(h.1.cell' ha.1 ha.2 hb.1 hb.2).1 e;omega
theorem MpP.len {f:List Int} {m n:Int} (hf:MpP f m n) (hm:m≤64):f.length≤64:=by have:=hf.1;omega
end
section
attribute [local simp] Qc Qw Qm QN Qu
theorem tabg {α ε β:Type} {body:List α × Int→Option (Ctl (List α × Int) ε)} {K:ε→Option β} {r:Option β} (n:Nat) (v:Nat→α) {e:ε} (hn:n<1000000)
  (h:∀ i:Nat,i<n→body (tab i v,(i:Int))=(ass ((tab i v++[v i]).length≤1073741824) <| ass (B64 ((i:Int)+1)) <| some (.next (tab i v++[v i],(i:Int)+1))))
  (he:body (tab n v,(n:Int))=some (.ret e)) (hk:K e=r):(QR body fuel ([],0)).bind K=r:=by
 refine Q1E n (fun i=>tab i v) (e:=e) rfl (by omega) (fun i hi=>?_) he hk;rw [h i hi,Qa (by simp;omega),Qa (by unfold B64;omega),Q3r]
end
section
attribute [local simp] Qc Qw Qm QN Qu
theorem Q5a {c:Cat} (hc:c.Is) {f g h w x y z:Int} (a:Ar c f w x) (b:Ar c g x y) (d:Ar c h y z):ix (rx c.cs (ix (rx c.cs f) g)) h=ix (rx c.cs f) (ix (rx c.cs g) h):=by
 obtain ⟨i,rfl⟩:=Int.eq_ofNat_of_zero_le a.1.1;obtain ⟨j,rfl⟩:=Int.eq_ofNat_of_zero_le b.1.1;obtain ⟨k,rfl⟩:=Int.eq_ofNat_of_zero_le d.1.1;have:=hc.2.2 i (by have:=a.1;omega) j (by have:=b.1;omega) k (by have:=d.1;omega);exact this (by rw [a.2.2,b.2.1]) (by rw [b.2.2,d.2.1])
theorem q_idl {c:Cat} (hc:c.Is) {f x y:Int} (a:Ar c f x y):ix (rx c.cs (ix c.id x)) f=f∧ix (rx c.cs f) (ix c.id y)=f:=by
 obtain ⟨i,rfl⟩:=Int.eq_ofNat_of_zero_le a.1.1;have:=hc.2.1 i (by have:=a.1;omega);unfold Cat.un at this;rw [a.2.1,a.2.2] at this;exact this
theorem q_id {c:Cat} (h:c.Is) {x:Int} (hx:0≤x∧x<c.n):Ar c (ix c.id x) x x:=by
 have h1:=h.1.li;obtain ⟨i,rfl⟩:=Int.eq_ofNat_of_zero_le hx.1;have h2:=h.1.ids i (by omega);exact ⟨h.1.id' (by omega) (by omega),h2.1,h2.2⟩
theorem inv_iff {c:Cat} {a:Int}:0≤inv c a↔∃ g:Nat,g<c.fr.length∧Inv c a g:=by
 unfold inv;rcases Q40 c.fr.length (Inv c a) with ⟨e,h⟩|⟨k,hk,pk,e⟩
 ·rw [e];exact ⟨fun q=>by omega,fun ⟨g,hg,q⟩=>absurd q (h g hg)⟩
 rw [e];exact ⟨fun _=>⟨k,hk,pk⟩,fun _=>by omega⟩
def Io (c:Cat) (x y:Nat):Prop:=∃ a:Int,Ar c a x y∧0≤inv c a
theorem Io.refl {c:Cat} (hc:c.Is) {x:Nat} (hx:x<c.id.length):Io c x x:=by
 have n:=hc.nums;have a:=q_id hc (x:=x) (by omega);refine ⟨_,a,inv_iff.2 ⟨(ix c.id x).toNat,by have:=a.1;omega,?_⟩⟩;unfold Inv;rw [Int.toNat_of_nonneg a.1.1,a.2.1,a.2.2];exact ⟨⟨rfl,rfl⟩,(q_idl hc a).1,(q_idl hc a).1⟩
theorem Io.symm {c:Cat} (hc:c.Is) {x y:Nat} (h:Io c x y):Io c y x:=by
 obtain ⟨a,ha,hi⟩:=h;obtain ⟨g,hg,⟨q1,q2⟩,q3,q4⟩:=inv_iff.1 hi;have n:=ha.1;refine ⟨(g:Int),⟨by omega,by rw [q1,ha.2.2],by rw [q2,ha.2.1]⟩,inv_iff.2 ⟨a.toNat,by omega,?_⟩⟩;unfold Inv;rw [Int.toNat_of_nonneg n.1,q1,q2];exact ⟨⟨rfl,rfl⟩,q4,q3⟩
theorem Io.trans {c:Cat} (hc:c.Is) {x y z:Nat} (h1:Io c x y) (h2:Io c y z):Io c x z:=by
 obtain ⟨a,ha,hi⟩:=h1;obtain ⟨b,hb,hj⟩:=h2;obtain ⟨f,hf,⟨p1,p2⟩,p3,p4⟩:=inv_iff.1 hi;obtain ⟨g,hg,⟨q1,q2⟩,q3,q4⟩:=inv_iff.1 hj;have af:Ar c f y x:=⟨by omega,by rw [p1,ha.2.2],by rw [p2,ha.2.1]⟩;have ag:Ar c g z y:=⟨by omega,by rw [q1,hb.2.2],by rw [q2,hb.2.1]⟩;have ab:=Ar.two hc ha hb;have gf:=Ar.two hc ag af;rw [ha.2.1] at p3;rw [ha.2.2] at p4;rw [hb.2.1] at q3;rw [hb.2.2] at q4;refine ⟨_,ab,inv_iff.2 ⟨(ix (rx c.cs g) f).toNat,by have:=gf.1;omega,?_⟩⟩;unfold Inv;rw [Int.toNat_of_nonneg gf.1.1,gf.2.1,gf.2.2,ab.2.1,ab.2.2];refine ⟨⟨rfl,rfl⟩,?_,?_⟩
 ·rw [Q5a hc ha hb gf,← Q5a hc hb ag af,q3,(q_idl hc af).1,p3]
 rw [Q5a hc ag af ab,← Q5a hc af ha hb,p4,(q_idl hc hb).1,q4]
structure UF (j:List Int) (r:Nat→Nat) (n:Nat):Prop where
 len:j.length=n
 b:∀ x:Nat,x<n→0≤ix j x∧ix j x≤x
 le:∀ x,x<n→r x≤x
 fix:∀ x,x<n→ix j (r x:Nat)=(r x:Int)
 st:∀ x:Nat,x<n→r (ix j x).toNat=r x
 tip:∀ x:Nat,x<n→ix j x=x→r x=x
end
section
attribute [local simp] Qc Qw Qm QN Qu
theorem nloop_rel {σ ε:Type} {body:σ→Option (Ctl σ ε)} {I:Nat→σ→Prop} {J:ε→Prop} {n:Nat} (hs:∀ i s,i<n→I i s→(∃ s',body s=some (.next s')∧I (i+1) s')∨∃ e,body s=some (.ret e)∧J e) (he:∀ s,I n s→∃ e,body s=some (.ret e)∧J e) :
  ∀ (r i:Nat) (s:σ) (F:Nat),i+r=n→r<F→I i s→∃ e,QR body F s=some e∧J e:=by
 intro r
 induction r with
 | zero =>
  intro i s F hi hF hI;obtain ⟨e,h1,h2⟩:=he s (by rw [show n=i by omega];exact hI);obtain ⟨F',rfl⟩:∃ F',F=F' + 1:=⟨F - 1,by omega⟩;simp only [QR,h1];exact ⟨e,rfl,h2⟩
 | succ r ih =>
  intro i s F hi hF hI;obtain ⟨F',rfl⟩:∃ F',F=F' + 1:=⟨F - 1,by omega⟩;rcases hs i s (by omega) hI with ⟨s',h1,h2⟩|⟨e,h1,h2⟩
  ·simp only [QR,h1];exact ih (i+1) s' F' (by omega) (by omega) h2
  simp only [QR,h1];exact ⟨e,rfl,h2⟩
theorem Q1l {σ ε β:Type} {body:σ→Option (Ctl σ ε)} {K:ε→Option β} {s0:σ} {Q:Option β→Prop} (n:Nat) (I:Nat→σ→Prop) (J:ε→Prop) (hn:n<4611686018427387904) (h0:I 0 s0) (hs:∀ i s,i<n→I i s→(∃ s',body s=some (.next s')∧I (i+1) s')∨∃ e,body s=some (.ret e)∧J e)
  (he:∀ s,I n s→∃ e,body s=some (.ret e)∧J e) (hk:∀ e,J e→Q (K e)):Q ((QR body fuel s0).bind K):=by
 obtain ⟨e,h1,h2⟩:=nloop_rel hs he n 0 s0 fuel (by omega) (by unfold fuel;omega) h0;rw [h1];exact hk e h2
end
section
attribute [local simp] Qc Qw Qm QN Qu
structure UI (c:Cat) (j:List Int) (r:Nat→Nat) (i:Nat):Prop where
 u:UF j r c.id.length
 io:∀ x,x<c.id.length→Io c (r x) x
 st:∀ a:Nat,a<i→0≤inv c a→r (ix c.fr a).toNat=r (ix c.to a).toNat
end
section
attribute [local simp] Qc Qw Qm QN Qu
structure PP (c:Cat) (L:List (List Int)) (i k:Nat):Prop where
 a:∀ p∈L,∃ y x:Nat,p=[(y:Int),(x:Int)]∧Io c x y
 b:∀ y x:Nat,y<x→x<i→Io c x y→[(y:Int),(x:Int)]∈L
 d:∀ y:Nat,y<k→Io c i y→[(y:Int),(i:Int)]∈L
 len:L.length≤i * 8+k
end
section
attribute [local simp] Qc Qw Qm QN Qu
def top (cl:List Int):Nat→Int
 | 0=>0
 | i+1=>max (top cl i) (ix cl i+1)
end
section
attribute [local simp] Qc Qw Qm QN Qu
noncomputable def posL (L:List (List Int)) (x:List Int):Int:=fstN L.length fun i=>rx L i=x
theorem Q5j {L:List (List Int)} {i:Nat} (h:i<L.length):rx L i∈L:=by
 rw [← Q1N _ _ h];exact List.getElem_mem h
theorem Q4X {n:Nat} {p:Nat→Prop} {m:Nat} (hm:m<n) (hp:p m) (hlt:∀ k,k<m→¬ p k):fstN n p=(m:Int):=by
 unfold fstN;rw [show ((List.range n).find? fun i=>bo (p i))=some m from List.find?_eq_some_iff_getElem.2 ⟨by rw [bo_tt];exact hp,m,by simpa using hm,by simp,fun j hj=>by simp [Q1R (hlt j hj)]⟩];rfl
theorem Q64 {n:Nat} {p:Nat→Prop} (h:∀ i,i<n→¬ p i):fstN n p = -1:=by
 rcases Q40 n p with ⟨h1,_⟩|⟨k,h1,h2,_⟩
 ·exact h1
 exact absurd h2 (h k h1)
theorem Q41 {ε β:Type} {body:Int→Option (Ctl Int ε)} {K:ε→Option β} {r:Option β} (n:Nat) (p:Nat→Prop) {eb:Nat→ε} {eg:ε} (hn:n<4611686018427387904) (h1:∀ i:Nat,i<n→¬ p i→body (i:Int)=some (.next ((i:Int)+1))) (h2:∀ i:Nat,i<n→p i→body (i:Int)=some (.ret (eb i))) (h3:body (n:Int)=some (.ret eg))
  (hb:∀ m,m<n→p m→(∀ k,k<m→¬ p k)→K (eb m)=r) (hg:(∀ i,i<n→¬ p i)→K eg=r):(QR body fuel 0).bind K=r:=by
 rcases loop_fst n (fun i=>¬ p i) hn h1 (fun i hi h=>h2 i hi (Classical.byContradiction h)) h3 with ⟨h,e⟩|⟨m,hm,hq,hlt,e⟩
 ·rw [e];exact hg h
 rw [e];exact hb m hm (Classical.byContradiction hq) hlt
end
section
attribute [local simp] Qc Qw Qm QN Qu
structure NT (f g:Fn):Prop where
 hf:f.Is
 hg:g.Is
 e:f.t=g.t
end
section
attribute [local simp] Qc Qw Qm QN Qu
inductive Con (P:List (List Int)):Nat→Nat→Prop
 | pr {a b:Nat}:[(a:Int),(b:Int)]∈P→Con P a b
 | refl (a:Nat):Con P a a
 | symm {a b:Nat}:Con P a b→Con P b a
 | trans {a b c:Nat}:Con P a b→Con P b c→Con P a c
end
section
attribute [local simp] Qc Qw Qm QN Qu
def Tbl (t:List (List Int)) (n:Int):Prop:=(t.length:Int)=n∧∀ i:Nat,i<t.length→((rx t i).length:Int)=n∧∀ j:Nat,j<(rx t i).length→0≤ix (rx t i) j∧ix (rx t i) j<n
abbrev As3 (t:List (List Int)) (x y z:Int):Prop:=ix (rx t (ix (rx t x) y)) z=ix (rx t x) (ix (rx t y) z)
def AsP (t:List (List Int)) (u:Int) (x:Nat):Prop:=(ix (rx t x) u=x∧ix (rx t u) x=x)∧∀ y:Nat,y<t.length→∀ z:Nat,z<t.length→As3 t x y z
def Aso (t:List (List Int)) (u:Int):Prop:=∀ x:Nat,x<t.length→AsP t u x
end
section
attribute [local simp] Qc Qw Qm QN Qu
structure XMonoidal.Pre (m:XMonoidal):Prop where
 c:m.on_.Is
 u:0≤m.unit_∧m.unit_<m.on_.n
 o:Tbl m.objects_ m.on_.n
 a:Tbl m.arrows_ (m.on_.fr.length:Int)
abbrev XMonoidal.E1 (m:XMonoidal) (f g:Int):Prop:=ix m.on_.fr (ix (rx m.arrows_ f) g)=ix (rx m.objects_ (ix m.on_.fr f)) (ix m.on_.fr g)
abbrev XMonoidal.E2 (m:XMonoidal) (f g:Int):Prop:=ix m.on_.to (ix (rx m.arrows_ f) g)=ix (rx m.objects_ (ix m.on_.to f)) (ix m.on_.to g)
abbrev XMonoidal.Un (m:XMonoidal) (x y:Int):Prop:=ix (rx m.arrows_ (ix m.on_.id x)) (ix m.on_.id y)=ix m.on_.id (ix (rx m.objects_ x) y)
abbrev XMonoidal.Ie (m:XMonoidal) (f h g k:Int):Prop:=ix (rx m.arrows_ (ix (rx m.on_.cs f) h)) (ix (rx m.on_.cs g) k)=ix (rx m.on_.cs (ix (rx m.arrows_ f) g)) (ix (rx m.arrows_ h) k)
def XMonoidal.Ic (m:XMonoidal) (f h g k:Int):Prop:=ix m.on_.to f=ix m.on_.fr h→ix m.on_.to g=ix m.on_.fr k→m.Ie f h g k
def XMonoidal.Ed (m:XMonoidal):Prop:=∀ f:Nat,f<m.on_.fr.length→∀ g:Nat,g<m.on_.fr.length→m.E1 f g∧m.E2 f g
def XMonoidal.Uq (m:XMonoidal):Prop:=∀ x:Nat,x<m.on_.id.length→∀ y:Nat,y<m.on_.id.length→m.Un x y
def XMonoidal.Iq (m:XMonoidal):Prop:=∀ f:Nat,f<m.on_.fr.length→∀ h:Nat,h<m.on_.fr.length→∀ g:Nat,g<m.on_.fr.length→∀ k:Nat,k<m.on_.fr.length→m.Ic f h g k
structure XMonoidal.Is (m:XMonoidal):Prop where
 pre:m.Pre
 ed:m.Ed
 ao:Aso m.objects_ m.unit_
 aa:Aso m.arrows_ (ix m.on_.id m.unit_)
 un:m.Uq
 ic:m.Iq
theorem cmp_nn {c:Cat} (h:c.Is) {a b:Int} (ha:0≤a∧a<(c.fr.length:Int)) (hb:0≤b∧b<(c.fr.length:Int)):(0≤ix (rx c.cs a) b↔ix c.to a=ix c.fr b)∧b<((rx c.cs a).length:Int) :=
 ⟨⟨fun q=>(h.comp ha hb q).1,fun q=>(h.two ha hb q).1.1⟩,by have:=h.1.row' ha.1 ha.2;omega⟩
end
attribute [local simp] unk unA unE unT unC flat eL eI Qk Q13 Cat.cells
noncomputable def QE (c_:Cat) (x_:Int):Option (List Int) :=
 (QR (σ:=List Int × Int) (ε:=List Int) (fun s8 =>
  if s8.2<(c_.fr.length:Int) then
   (
    ass (0≤s8.2∧s8.2<(c_.fr.length:Int)) <|
    if (ix c_.fr s8.2)=x_ then
     ass ((s8.1++[s8.2]).length≤1073741824) <|
     some (s8.1++[s8.2])
    else
     some s8.1:Option (List Int)).bind fun b10 =>
   ass (B64 (s8.2+1)) <|
   some (Ctl.next (b10,s8.2+1))
  else
   some (Ctl.ret s8.1)) fuel ([],0)).bind fun b1 =>
 some b1
@[simp] abbrev Y3 (a:Cat) (b:List (Nat × AV)):List (Nat × AV):=(0,.rptr (Cat.cells true a))::b
@[simp] abbrev Ym (a:Cat) (b:List (Nat × AV)):List (Nat × AV):=(12,lI a.fr)::(13,iV (a.fr.length:Int))::b
theorem Q1v (c_:Cat) (x_:Int) (r:List Int) (h:QE c_ x_=some r):Contract Try.prog 107 [.rptr (c_.cells true),iV x_] (lI r):=by
 refine Qg (rvs:=[.tmp 4]) (rs:=[lI r]) Try.func107 rfl rfl rfl rfl (by simp [Try.f107]) fun F hN hP=>?_;unfold QE at h;refine Q0 (runQ hN fun K hK=>?_);simp;repeat refine sdQ ?_
 refine hK _ ?_;clear hK K;refine tn (Q5 (st':=⟨Y3 c_ [(1,iV x_)],[],0⟩) (wkQ8 []) (Q0 (runQ hN fun K hK=>?_)));simp;repeat refine sdQ ?_
 refine hK _ ?_;clear hK K;refine tn (Q5 (st':=⟨Y3 c_ [(1,iV x_),(5,.own 0 0 0)],[(0,.mix 1 [])],1⟩) (wkQ8 [(0,0)]) (Q0 (Q0 (runQ hN fun K hK=>?_))));simp;repeat refine sdQ ?_
 refine hK _ (tn (Q5 (st':=⟨(1,iV x_)::(5,.own 0 0 0)::Ym c_ [(14,iV 0)],[(0,.mix 1 [])],1⟩) (wkQ8 [(0,0)]) ?_));clear hK K;replace ⟨e1,h,h1⟩:=bind_some h;refine Qv (fun b1:List Int=>⟨[(5,.own 0 0 b1.length)],[(0,rI b1)],1⟩) (fun b1=>b1=e1) ?_ ?_
 ·refine Q7 (QM h (fun s8:List Int × Int=>⟨(1,iV x_)::(5,.own 0 0 s8.1.length)::Ym c_ [(14,iV s8.2)],[(0,rI s8.1)],1⟩) (Q4B ⟨(1,iV x_)::(5,.own 0 0 0)::Ym c_ [(14,iV 0)],[(0,rI [])],1⟩ (Wk.nils [] (by simp) (by simp) (by simp [nlA]) (by simp [entN,nlL,nlA,Cat.cells,UA,U1,IA,I1,LA,L1,BA,B1,EA,E1,E2,eB,eI,eL]) (by simp)) (wkQ8 [(0,0)])) ?_);clear h;intro k8 s8 c8 h hk8;refine Q0 (runQ hN fun K hK=>?_);simp;repeat refine sdQ ?_
  refine hK _ ?_;clear hK K;refine tn (Q0 (Q8 rfl (fun g=>?_) fun g=>?_))
  ·have g9:s8.2<(c_.fr.length:Int):=gQ;clear g;replace h:=if_l g9 h;refine Q9 (tn (Q0 ?_));replace ⟨e10,h,h10⟩:=bind_some h;refine Qv (fun b10:List Int=>⟨(1,iV x_)::(5,.own 0 0 b10.length)::Ym c_ [(14,iV s8.2)],[(0,rI b10)],1⟩) (fun b10=>b10=e10) ?_ ?_
   ·refine Q7 (Q0 (runQ hN fun K hK=>?_));replace ⟨a11,h⟩:=Q6 h;simp [at_I a11];(repeat refine sdQ ?_);refine hK _ ?_;clear hK K;refine tn (Q5 (st':=⟨(1,iV x_)::(5,.own 0 0 s8.1.length)::(6,iV s8.2)::(7,iV (ix c_.fr s8.2))::Ym c_ [(14,iV s8.2)],[(0,rI s8.1)],1⟩) (wkQ8 [(0,0)]) (Q0 (runQ hN fun K hK=>?_)));simp;(repeat refine sdQ ?_);refine hK _ ?_;clear hK K;refine tn (Q8 rfl (fun g=>?_) fun g=>?_)
    ·have g12:(ix c_.fr s8.2)=x_:=gQ;clear g;replace h:=if_l g12 h;refine runQ hN fun K hK=>?_;replace ⟨a13,h⟩:=Q6 h;(try simp only [List.length_append,List.length_cons,List.length_nil] at a13);simp [a13];(repeat refine sdQ ?_);refine hK _ (bn ?_);clear hK K;exact jn (b:=s8.1++[s8.2]) (Option.some.inj h) (wkQ8 [(2,0)])
    have g12:¬ ((ix c_.fr s8.2)=x_):=gQ;clear g;replace h:=if_r g12 h;refine Q9 (bn ?_);exact jn (b:=s8.1) (Option.some.inj h) (wkQ8 [(0,0)])
   intro b10 hb10;have h:=h10;(try rw [← hb10] at h);clear h10;(try dsimp only at h);refine runQ hN fun K hK=>?_;replace ⟨a14,h⟩:=Q6 h;simp [QA a14];(repeat refine sdQ ?_);refine hK _ ?_;clear hK K;cases h;exact rn (s':=(b10,s8.2+1)) hk8 (wkQ8 [(0,0)])
  have g9:¬ (s8.2<(c_.fr.length:Int)):=gQ;clear g;replace h:=if_r g9 h;refine Qr (tx (lx (bh ?_)));cases h;exact jn (b:=s8.1) hk8 (wkQ8 [(0,0)])
 intro b1 hb1;have h:=h1;try rw [← hb1] at h
 clear h1;try dsimp only at h
 refine Q0 (runQ hN fun K hK=>?_);simp;repeat refine sdQ ?_
 refine hK _ (tn (Q5 (st':=⟨[(4,.own 0 0 b1.length)],[(0,rI b1)],1⟩) (wkQ8 [(0,0)]) (Qj ?_)));clear hK K;have hr:=Option.some.inj h;rw [← hr];refine ⟨_,(.tmp .nil),?_⟩;refine ⟨(.one rfl rfl .nil),[lI b1],[0],by simp [Cat.cells,UA,U1,IA,I1,LA,L1,BA,B1,EA,E1,E2,eB,eI,eL],by simp,(UpL.refl _)⟩
section
attribute [local simp] Qc Qw Qm QN Qu
noncomputable def outL (c:Cat) (x:Int):List Int:=flt c.fr.length fun a=>ix c.fr a=x
theorem Q4U {c:Cat} (h:c.Is) (x:Int):QE c x=some (outL c x):=by
 have k2:=h.1.m40;unfold QE;refine Q1E c.fr.length (fun i=>flt i fun a=>ix c.fr a=x) (e:=outL c x) rfl (by omega) (fun i hi=>?_) (by simp [outL]) rfl;have hl:=Q4W i fun a=>ix c.fr a=x
 by_cases h1:ix c.fr i=x
 ·rw [flt_pos (p:=fun a:Nat=>ix c.fr a=x) h1];simp (disch:=omega) [Qa,B64,h1];try omega
 rw [flt_neg (p:=fun a:Nat=>ix c.fr a=x) h1];simp (disch:=omega) [Qa,B64,h1];try omega
theorem Q45 (c:Cat) (x:Int):(outL c x).length≤c.fr.length:=Q4W _ _
theorem Q6l {c:Cat} {x:Int} {i:Nat} (hi:i<(outL c x).length):∃ k:Nat,k<c.fr.length∧ix c.fr k=x∧ix (outL c x) i=(k:Int):=ix_flt hi
theorem outL_in {c:Cat} {x:Int} {k:Nat} (hk:k<c.fr.length) (e:ix c.fr k=x):∃ i:Nat,i<(outL c x).length∧ix (outL c x) i=(k:Int):=by
 have:(k:Int)∈outL c x:=mem_flt.2 ⟨k,hk,e,rfl⟩;obtain ⟨i,hi,q⟩:=List.getElem_of_mem this;exact ⟨i,hi,by rw [← Q16 _ _ hi];exact q⟩
end
attribute [local simp] unk unA unE unT unC flat eL eI Qk
noncomputable def Q1z (s_:List Int) (t_:List Int):Option Int :=
 (Q35 s_ t_).bind fun v1 =>
 some v1
theorem Q2z (s_:List Int) (t_:List Int) (r:Int) (h:Q1z s_ t_=some r):Contract Try.prog 122 [lI s_,lI t_] (iV r):=by
 refine Qg (rvs:=[.tmp 4]) (rs:=[iV r]) Try.func122 rfl rfl rfl rfl (by simp [Try.f122]) fun F hN hP=>?_;unfold Q1z at h;refine Q0 (runQ hN fun K hK=>?_);simp;repeat refine sdQ ?_
 refine hK _ ?_;clear hK K;refine tn (Q5 (st':=⟨[(0,lI s_),(1,lI t_)],[],0⟩) (wkQ8 []) (Q0 (runQ hN fun K hK=>?_)));simp;repeat with_reducible refine sdQ ?_
 replace ⟨v1,hv1,h⟩:=bind_some h;refine Q1 (Q6C _ _ v1 hv1) (.cons .lst (.cons .lst .nil)) ?_;simp;repeat refine sdQ ?_
 refine hK _ (tn (Q5 (st':=⟨[(4,iV v1)],[],0⟩) (wkQ8 []) (Qj ?_)));clear hK K;have hr:=Option.some.inj h;rw [← hr];refine ⟨_,(.tmp .nil),?_⟩;refine ⟨(.one rfl rfl .nil),[iV v1],[],by simp [UA,U1,IA,I1,LA,L1,BA,B1,EA,E1,E2,eB,eI,eL],by simp,(UpL.refl _)⟩
attribute [local simp] unk unA unE unT unC flat eL eI Qk Q13 Cat.cells
noncomputable def QP (c_:Cat) (arrows_:List Int):Option (List Int) :=
 (Q11 c_).bind fun v1 =>
 ass (0≤v1∧v1≤1073741824) <|
 (QR (σ:=List Bool × Int) (ε:=List Bool) (fun s21 =>
  if s21.2<(arrows_.length:Int) then
   (
    ass (0≤s21.2∧s21.2<(arrows_.length:Int)) <|
    ass (0≤ix arrows_ s21.2∧ix arrows_ s21.2<(c_.to.length:Int)) <|
    (QE c_ (ix c_.to (ix arrows_ s21.2))).bind fun v26 =>
    (QR (σ:=List Bool × Int) (ε:=List Bool) (fun s32 =>
     if s32.2<(v26.length:Int) then
      ass (0≤s32.2∧s32.2<(v26.length:Int)) <|
      (QI c_ (ix arrows_ s21.2) (ix v26 s32.2)).bind fun v35 =>
      ass (0≤v35∧v35<(s32.1.length:Int)) <|
      ass (B64 (s32.2+1)) <|
      some (Ctl.next (s32.1.set v35.toNat true,s32.2+1))
     else
      some (Ctl.ret s32.1)) fuel (s21.1,0)).bind fun p32 =>
    some p32:Option (List Bool)).bind fun b23 =>
   ass (B64 (s21.2+1)) <|
   some (Ctl.next (b23,s21.2+1))
  else
   some (Ctl.ret s21.1)) fuel (List.replicate v1.toNat false,0)).bind fun b3 =>
 (Q2Q b3).bind fun v39 =>
 some v39
@[simp] abbrev Yd (a:List Int) (b:List Bool × Int) (c:List Int) (d:List (Nat × AV)):List (Nat × AV):=(13,lI a)::(14,iV (a.length:Int))::(15,iV b.2)::(27,.own 1 0 c.length)::(28,iV (c.length:Int))::d
theorem Q2X (c_:Cat) (arrows_:List Int) (r:List Int) (h:QP c_ arrows_=some r):Contract Try.prog 118 [.rptr (c_.cells true),lI arrows_] (lI r):=by
 refine Qg (rvs:=[.tmp 4]) (rs:=[lI r]) Try.func118 rfl rfl rfl rfl (by simp [Try.f118]) fun F hN hP=>?_;unfold QP at h;refine Q0 (runQ hN fun K hK=>?_);simp;repeat refine sdQ ?_
 refine hK _ ?_;clear hK K;refine tn (Q5 (st':=⟨Y3 c_ [(1,lI arrows_)],[],0⟩) (wkQ8 []) (Q0 (runQ hN fun K hK=>?_)));simp;repeat with_reducible refine sdQ ?_
 replace ⟨v1,hv1,h⟩:=bind_some h;refine Q1 (Q38 _ v1 hv1) (.cons (.preT (by simp [Cat.cells])) .nil) ?_;replace ⟨a2,h⟩:=Q6 h;simp;repeat refine sdQ ?_
 refine hK _ ?_;clear hK K;refine tn (Q5 (st':=⟨Y3 c_ [(1,lI arrows_),(5,.own 0 0 ((List.replicate v1.toNat false).length))],[(0,.row 1 (Bs (List.replicate v1.toNat false)))],1⟩) (wkQ8 [(1,0)]) (Q0 (Q0 (runQ hN fun K hK=>?_))));simp;repeat refine sdQ ?_
 refine hK _ (tn (Q5 (st':=⟨Y3 c_ [(5,.own 0 0 ((List.replicate v1.toNat false).length)),(13,lI arrows_),(14,iV (arrows_.length:Int)),(15,iV 0)],[(0,.row 1 (Bs (List.replicate v1.toNat false)))],1⟩) (wkQ8 [(0,0)]) ?_));clear hK K;replace ⟨e3,h,h3⟩:=bind_some h;refine Qv (fun b3:List Bool=>⟨[(5,.own 0 0 b3.length)],[(0,.row 1 (Bs b3))],1⟩) (fun b3=>b3=e3) ?_ ?_
 ·refine Q7 (QM h (fun s21:List Bool × Int=>⟨Y3 c_ [(5,.own 0 0 s21.1.length),(13,lI arrows_),(14,iV (arrows_.length:Int)),(15,iV s21.2)],[(0,.row 1 (Bs s21.1))],1⟩) (wkQ8 [(0,0)]) ?_);clear h;intro k21 s21 c21 h hk21;refine Q0 (runQ hN fun K hK=>?_);simp;repeat refine sdQ ?_
  refine hK _ ?_;clear hK K;refine tn (Q0 (Q8 rfl (fun g=>?_) fun g=>?_))
  ·have g22:s21.2<(arrows_.length:Int):=gQ;clear g;replace h:=if_l g22 h;refine Q9 (tn (Q0 ?_));replace ⟨e23,h,h23⟩:=bind_some h;refine Qv (fun b23:List Bool=>⟨Y3 c_ [(5,.own 0 0 b23.length),(13,lI arrows_),(14,iV (arrows_.length:Int)),(15,iV s21.2)],[(0,.row 1 (Bs b23))],1⟩) (fun b23=>b23=e23) ?_ ?_
   ·refine Q7 (Q0 (runQ hN fun K hK=>?_));replace ⟨a24,h⟩:=Q6 h;simp [at_I a24];(repeat refine sdQ ?_);refine hK _ ?_;clear hK K;refine tn (Q5 (st':=⟨Y3 c_ [(5,.own 0 0 s21.1.length),(7,iV (ix arrows_ s21.2)),(13,lI arrows_),(14,iV (arrows_.length:Int)),(15,iV s21.2)],[(0,.row 1 (Bs s21.1))],1⟩) (wkQ8 [(0,0)]) (Q0 (runQ hN fun K hK=>?_)));replace ⟨a25,h⟩:=Q6 h;simp [at_I a25];(repeat with_reducible refine sdQ ?_);replace ⟨v26,hv26,h⟩:=bind_some h;refine Q1 (Q1v _ _ v26 hv26) (.cons (.preT (by simp [Cat.cells])) (.cons .val .nil)) ?_;simp [at_I a25];(repeat refine sdQ ?_);refine hK _ (tn (Q5 (st':=⟨Y3 c_ ((5,.own 0 0 s21.1.length)::(7,iV (ix arrows_ s21.2))::Yd arrows_ s21 v26 [(29,iV 0)]),[(0,.row 1 (Bs s21.1)),(1,rI v26)],2⟩) (wkQ8 [(0,0),(1,1)]) (Q7 ?_)));clear hK K;replace ⟨e32,he32,h32⟩:=bind_some h;refine QM he32 (fun s32:List Bool × Int=>⟨Y3 c_ ((5,.own 0 0 s32.1.length)::(7,iV (ix arrows_ s21.2))::Yd arrows_ s21 v26 [(29,iV s32.2)]),[(0,.row 1 (Bs s32.1)),(1,rI v26)],2⟩) (wkQ8 [(0,0),(1,1)]) ?_;intro k32 s32 c32 h hk32;refine Q0 (runQ hN fun K hK=>?_);simp;(repeat refine sdQ ?_);refine hK _ ?_;clear hK K;refine tn (Q0 (Q8 rfl (fun g=>?_) fun g=>?_))
    ·have g33:s32.2<(v26.length:Int):=gQ;clear g;replace h:=if_l g33 h;refine Q9 (tn (Q0 (Q7 (Q0 (runQ hN fun K hK=>?_)))));replace ⟨a34,h⟩:=Q6 h;simp [at_I a34];(repeat refine sdQ ?_);refine hK _ ?_;clear hK K;refine tn (Q5 (st':=⟨Y3 c_ ((5,.own 0 0 s32.1.length)::(7,iV (ix arrows_ s21.2))::(9,iV (ix v26 s32.2))::Yd arrows_ s21 v26 [(29,iV s32.2)]),[(0,.row 1 (Bs s32.1)),(1,rI v26)],2⟩) (wkQ8 [(0,0),(1,1)]) (runQ hN fun K hK=>?_));simp;(repeat with_reducible refine sdQ ?_);replace ⟨v35,hv35,h⟩:=bind_some h;refine Q1 (Q2i _ _ _ v35 hv35) (.cons (.preT (by simp [Cat.cells])) (.cons .val (.cons .val .nil))) ?_;replace ⟨a36,h⟩:=Q6 h;simp [at_B a36];(repeat refine sdQ ?_);refine hK _ ?_;clear hK K;refine bn (tn (Q5 (st':=⟨Y3 c_ ((5,.own 0 0 ((s32.1.set v35.toNat true).length))::(7,iV (ix arrows_ s21.2))::Yd arrows_ s21 v26 [(29,iV s32.2)]),[(0,.row 1 (Bs (s32.1.set v35.toNat true))),(1,rI v26)],2⟩) (wkQ8 [(0,0),(1,1)]) (runQ hN fun K hK=>?_)));replace ⟨a37,h⟩:=Q6 h;simp [QA a37];(repeat refine sdQ ?_);refine hK _ ?_;clear hK K;cases h;exact rn (s':=(s32.1.set v35.toNat true,s32.2+1)) hk32 (wkQ8 [(0,0),(1,1)])
    have g33:¬ (s32.2<(v26.length:Int)):=gQ;clear g;replace h:=if_r g33 h;refine Qr (tx (lx (bh (bn ?_))));cases h;have q:_=e32:=hk32;have h:=h32;rw [← q] at h;clear q;(try dsimp only at h);exact jn (b:=s32.1) (Option.some.inj h) (wkQ8 [(0,0)])
   intro b23 hb23;have h:=h23;(try rw [← hb23] at h);clear h23;(try dsimp only at h);refine runQ hN fun K hK=>?_;replace ⟨a38,h⟩:=Q6 h;simp [QA a38];(repeat refine sdQ ?_);refine hK _ ?_;clear hK K;cases h;exact rn (s':=(b23,s21.2+1)) hk21 (wkQ8 [(0,0)])
  have g22:¬ (s21.2<(arrows_.length:Int)):=gQ;clear g;replace h:=if_r g22 h;refine Qr (tx (lx (bh ?_)));cases h;exact jn (b:=s21.1) hk21 (wkQ8 [(0,0)])
 intro b3 hb3;have h:=h3;try rw [← hb3] at h
 clear h3;try dsimp only at h
 refine Q0 (runQ hN fun K hK=>?_);simp;repeat with_reducible refine sdQ ?_
 replace ⟨v39,hv39,h⟩:=bind_some h;refine Q1 (Q7H _ v39 hv39) (.cons .w .nil) ?_;simp;repeat refine sdQ ?_
 refine hK _ (tn (Q5 (st':=⟨[(4,.own 0 0 v39.length)],[(0,rI v39)],1⟩) (wkQ8 [(1,0)]) (Qj ?_)));clear hK K;have hr:=Option.some.inj h;rw [← hr];refine ⟨_,(.tmp .nil),?_⟩;refine ⟨(.one rfl rfl .nil),[lI v39],[0],by simp [Cat.cells,UA,U1,IA,I1,LA,L1,BA,B1,EA,E1,E2,eB,eI,eL],by simp,(UpL.refl _)⟩
attribute [local simp] unk unA unE unT unC flat eL eI Qk Q13 Cat.cells
noncomputable def Q1M (c_:Cat) (arrows_:List Int):Option (List Int) :=
 ass (0≤(c_.fr.length:Int)∧(c_.fr.length:Int)≤1073741824) <|
 (QR (σ:=List Bool × Int) (ε:=List Bool) (fun s27 =>
  if s27.2<(arrows_.length:Int) then
   (
    (QR (σ:=List Bool × Int) (ε:=List Bool) (fun s40 =>
     if s40.2<(c_.fr.length:Int) then
      (
       ass (0≤s27.2∧s27.2<(arrows_.length:Int)) <|
       ass (0≤ix arrows_ s27.2∧ix arrows_ s27.2<(c_.to.length:Int)) <|
       ass (0≤s40.2∧s40.2<(c_.fr.length:Int)) <|
       if (ix c_.to (ix arrows_ s27.2))=(ix c_.fr s40.2) then
        ass (0≤s27.2∧s27.2<(arrows_.length:Int)) <|
        (Q1C c_ (ix arrows_ s27.2) s40.2).bind fun v48 =>
        ass (0≤v48∧v48<(s40.1.length:Int)) <|
        some (s40.1.set v48.toNat true)
       else
        some s40.1:Option (List Bool)).bind fun b42 =>
      ass (B64 (s40.2+1)) <|
      some (Ctl.next (b42,s40.2+1))
     else
      some (Ctl.ret s40.1)) fuel (s27.1,0)).bind fun p40 =>
    some p40:Option (List Bool)).bind fun b29 =>
   ass (B64 (s27.2+1)) <|
   some (Ctl.next (b29,s27.2+1))
  else
   some (Ctl.ret s27.1)) fuel (List.replicate ((c_.fr.length:Int).toNat) false,0)).bind fun b2 =>
 (QR (σ:=List Int × Int) (ε:=List Int) (fun s59 =>
  if s59.2<(b2.length:Int) then
   (
    ass (0≤s59.2∧s59.2<(b2.length:Int)) <|
    if (gx b2 s59.2)=true then
     ass ((s59.1++[s59.2]).length≤1073741824) <|
     some (s59.1++[s59.2])
    else
     some s59.1:Option (List Int)).bind fun b61 =>
   ass (B64 (s59.2+1)) <|
   some (Ctl.next (b61,s59.2+1))
  else
   some (Ctl.ret s59.1)) fuel ([],0)).bind fun b52 =>
 some b52
@[simp] abbrev Yg (a:List (Nat × AV)):List (Nat × AV):=(2,.adr 0 0 0)::a
theorem Q5W (c_:Cat) (arrows_:List Int) (r:List Int) (h:Q1M c_ arrows_=some r):Contract Try.prog 128 [.agg (c_.cells true),lI arrows_] (lI r):=by
 refine Qg (rvs:=[.tmp 4]) (rs:=[lI r]) Try.func128 rfl rfl rfl rfl (by simp [Try.f128]) fun F hN hP=>?_;unfold Q1M at h;refine Q0 (runQ hN fun K hK=>?_);simp;repeat refine sdQ ?_
 refine hK _ ?_;clear hK K;refine tn (Q5 (st':=⟨(1,lI arrows_)::Yg [],Y7 c_ [],1⟩) (wkQ8 [(0,0)]) (Q0 (runQ hN fun K hK=>?_)));replace ⟨a1,h⟩:=Q6 h;simp;repeat refine sdQ ?_
 refine hK _ ?_;clear hK K;refine tn (Q5 (st':=⟨(1,lI arrows_)::Yg [(5,.own 1 0 ((List.replicate ((c_.fr.length:Int).toNat) false).length))],Y7 c_ [(1,.row 1 (Bs (List.replicate ((c_.fr.length:Int).toNat) false)))],2⟩) (wkQ8 [(0,0),(1,1)]) (Q0 (Q0 (runQ hN fun K hK=>?_))));simp;repeat refine sdQ ?_
 refine hK _ (tn (Q5 (st':=⟨(1,lI arrows_)::Yg [(5,.own 1 0 ((List.replicate ((c_.fr.length:Int).toNat) false).length)),(6,iV 0)],Y7 c_ [(1,.row 1 (Bs (List.replicate ((c_.fr.length:Int).toNat) false)))],2⟩) (wkQ8 [(0,0),(1,1)]) ?_));clear hK K;replace ⟨e2,h,h2⟩:=bind_some h;refine Qv (fun b2:List Bool=>⟨[(5,.own 0 0 b2.length)],[(0,.row 1 (Bs b2))],1⟩) (fun b2=>b2=e2) ?_ ?_
 ·refine Q7 (QM h (fun s27:List Bool × Int=>⟨(1,lI arrows_)::Yg [(5,.own 1 0 s27.1.length),(6,iV s27.2)],Y7 c_ [(1,.row 1 (Bs s27.1))],2⟩) (wkQ8 [(0,0),(1,1)]) ?_);clear h;intro k27 s27 c27 h hk27;refine Q0 (Q0 (runQ hN fun K hK=>?_));simp;repeat refine sdQ ?_
  refine hK _ ?_;clear hK K;refine tn (Q8 rfl (fun g=>?_) fun g=>?_)
  ·have g28:s27.2<(arrows_.length:Int):=gQ;clear g;replace h:=if_l g28 h;refine Q9 (tn (Q0 ?_));replace ⟨e29,h,h29⟩:=bind_some h;refine Qv (fun b29:List Bool=>⟨(1,lI arrows_)::Yg [(5,.own 1 0 b29.length),(6,iV s27.2)],Y7 c_ [(1,.row 1 (Bs b29))],2⟩) (fun b29=>b29=e29) ?_ ?_
   ·refine Q7 (Q0 (runQ hN fun K hK=>?_));simp;(repeat refine sdQ ?_);refine hK _ (tn (Q5 (st':=⟨(1,lI arrows_)::Yg [(5,.own 1 0 s27.1.length),(6,iV s27.2),(7,iV 0)],Y7 c_ [(1,.row 1 (Bs s27.1))],2⟩) (wkQ8 [(0,0),(1,1)]) (Q7 ?_)));clear hK K;replace ⟨e40,he40,h40⟩:=bind_some h;refine QM he40 (fun s40:List Bool × Int=>⟨(1,lI arrows_)::Yg [(5,.own 1 0 s40.1.length),(6,iV s27.2),(7,iV s40.2)],Y7 c_ [(1,.row 1 (Bs s40.1))],2⟩) (wkQ8 [(0,0),(1,1)]) ?_;intro k40 s40 c40 h hk40;refine Q0 (Q0 (runQ hN fun K hK=>?_));simp;(repeat refine sdQ ?_);refine hK _ ?_;clear hK K;refine tn (Q8 rfl (fun g=>?_) fun g=>?_)
    ·have g41:s40.2<(c_.fr.length:Int):=gQ;clear g;replace h:=if_l g41 h;refine Q9 (tn (Q0 ?_));replace ⟨e42,h,h42⟩:=bind_some h;refine Qv (fun b42:List Bool=>⟨(1,lI arrows_)::Yg [(5,.own 1 0 b42.length),(6,iV s27.2),(7,iV s40.2)],Y7 c_ [(1,.row 1 (Bs b42))],2⟩) (fun b42=>b42=e42) ?_ ?_
     ·refine Q7 (Q0 (runQ hN fun K hK=>?_));replace ⟨a43,h⟩:=Q6 h;replace ⟨a44,h⟩:=Q6 h;replace ⟨a45,h⟩:=Q6 h;simp [at_I a43,at_I a44,at_I a45];(repeat refine sdQ ?_);refine hK _ ?_;clear hK K;refine tn (Q8 rfl (fun g=>?_) fun g=>?_)
      ·have g46:(ix c_.to (ix arrows_ s27.2))=(ix c_.fr s40.2):=gQ;clear g;replace h:=if_l g46 h;refine runQ hN fun K hK=>?_;replace ⟨a47,h⟩:=Q6 h;simp [at_I a47];(repeat with_reducible refine sdQ ?_);replace ⟨v48,hv48,h⟩:=bind_some h;refine Q1 (Q6F _ _ _ v48 hv48) (.cons (.aggL (.cons .val (.cons .lst (.cons .lst (.cons .lst (.cons .lst .nil)))))) (.cons .val (.cons .val .nil))) ?_;replace ⟨a49,h⟩:=Q6 h;simp [at_I a47,at_B a49];(repeat refine sdQ ?_);refine hK _ (bn ?_);clear hK K;exact jn (b:=s40.1.set v48.toNat true) (Option.some.inj h) (wkQ8 [(0,0),(1,1)])
      have g46:¬ ((ix c_.to (ix arrows_ s27.2))=(ix c_.fr s40.2)):=gQ;clear g;replace h:=if_r g46 h;refine Q9 (bn ?_);exact jn (b:=s40.1) (Option.some.inj h) (wkQ8 [(0,0),(1,1)])
     intro b42 hb42;have h:=h42;(try rw [← hb42] at h);clear h42;(try dsimp only at h);refine runQ hN fun K hK=>?_;replace ⟨a50,h⟩:=Q6 h;simp [QA a50];(repeat refine sdQ ?_);refine hK _ ?_;clear hK K;cases h;exact rn (s':=(b42,s40.2+1)) hk40 (wkQ8 [(0,0),(1,1)])
    have g41:¬ (s40.2<(c_.fr.length:Int)):=gQ;clear g;replace h:=if_r g41 h;refine Qr (tx (lx (bh (bn ?_))));cases h;have q:_=e40:=hk40;have h:=h40;rw [← q] at h;clear q;(try dsimp only at h);exact jn (b:=s40.1) (Option.some.inj h) (wkQ8 [(0,0),(1,1)])
   intro b29 hb29;have h:=h29;(try rw [← hb29] at h);clear h29;(try dsimp only at h);refine runQ hN fun K hK=>?_;replace ⟨a51,h⟩:=Q6 h;simp [QA a51];(repeat refine sdQ ?_);refine hK _ ?_;clear hK K;cases h;exact rn (s':=(b29,s27.2+1)) hk27 (wkQ8 [(0,0),(1,1)])
  have g28:¬ (s27.2<(arrows_.length:Int)):=gQ;clear g;replace h:=if_r g28 h;refine Qr (tx (lx (bh ?_)));cases h;exact jn (b:=s27.1) hk27 (wkQ8 [(1,0)])
 intro b2 hb2;have h:=h2;try rw [← hb2] at h
 clear h2;try dsimp only at h
 refine Q0 (runQ hN fun K hK=>?_);simp;repeat refine sdQ ?_
 refine hK _ ?_;clear hK K;refine tn (Q5 (st':=⟨[(5,.own 0 0 b2.length),(8,.own 1 0 0)],[(0,.row 1 (Bs b2)),(1,.mix 1 [])],2⟩) (wkQ8 [(0,0),(1,1)]) (Q0 (Q0 (runQ hN fun K hK=>?_))));simp;repeat refine sdQ ?_
 refine hK _ (tn (Q5 (st':=⟨[(5,.own 0 0 b2.length),(8,.own 1 0 0),(9,iV 0)],[(0,.row 1 (Bs b2)),(1,.mix 1 [])],2⟩) (wkQ8 [(0,0),(1,1)]) ?_));clear hK K;replace ⟨e52,h,h52⟩:=bind_some h;refine Qv (fun b52:List Int=>⟨[(8,.own 0 0 b52.length)],[(0,rI b52)],1⟩) (fun b52=>b52=e52) ?_ ?_
 ·refine Q7 (QM h (fun s59:List Int × Int=>⟨[(5,.own 0 0 b2.length),(8,.own 1 0 s59.1.length),(9,iV s59.2)],[(0,.row 1 (Bs b2)),(1,rI s59.1)],2⟩) (Q4B ⟨[(5,.own 0 0 b2.length),(8,.own 1 0 0),(9,iV 0)],[(0,.row 1 (Bs b2)),(1,rI [])],2⟩ (Wk.nils [] (by simp) (by simp) (by simp [nlA]) (by simp [entN,nlL,nlA,Cat.cells,UA,U1,IA,I1,LA,L1,BA,B1,EA,E1,E2,eB,eI,eL]) (by simp)) (wkQ8 [(0,0),(1,1)])) ?_);clear h;intro k59 s59 c59 h hk59;refine Q0 (Q0 (runQ hN fun K hK=>?_));simp;repeat refine sdQ ?_
  refine hK _ ?_;clear hK K;refine tn (Q8 rfl (fun g=>?_) fun g=>?_)
  ·have g60:s59.2<(b2.length:Int):=gQ;clear g;replace h:=if_l g60 h;refine Q9 (tn (Q0 ?_));replace ⟨e61,h,h61⟩:=bind_some h;refine Qv (fun b61:List Int=>⟨[(5,.own 0 0 b2.length),(8,.own 1 0 b61.length),(9,iV s59.2)],[(0,.row 1 (Bs b2)),(1,rI b61)],2⟩) (fun b61=>b61=e61) ?_ ?_
   ·refine Q7 (Q0 (runQ hN fun K hK=>?_));replace ⟨a62,h⟩:=Q6 h;simp [at_B a62];(repeat refine sdQ ?_);refine hK _ ?_;clear hK K;refine tn (Q8 rfl (fun g=>?_) fun g=>?_)
    ·have g63:(gx b2 s59.2)=true:=gQ;clear g;replace h:=if_l g63 h;refine runQ hN fun K hK=>?_;replace ⟨a64,h⟩:=Q6 h;(try simp only [List.length_append,List.length_cons,List.length_nil] at a64);simp [a64];(repeat refine sdQ ?_);refine hK _ (bn ?_);clear hK K;exact jn (b:=s59.1++[s59.2]) (Option.some.inj h) (wkQ8 [(0,0),(4,1)])
    have g63:¬ ((gx b2 s59.2)=true):=gQ;clear g;replace h:=if_r g63 h;refine Q9 (bn ?_);exact jn (b:=s59.1) (Option.some.inj h) (wkQ8 [(0,0),(1,1)])
   intro b61 hb61;have h:=h61;(try rw [← hb61] at h);clear h61;(try dsimp only at h);refine runQ hN fun K hK=>?_;replace ⟨a65,h⟩:=Q6 h;simp [QA a65];(repeat refine sdQ ?_);refine hK _ ?_;clear hK K;cases h;exact rn (s':=(b61,s59.2+1)) hk59 (wkQ8 [(0,0),(1,1)])
  have g60:¬ (s59.2<(b2.length:Int)):=gQ;clear g;replace h:=if_r g60 h;refine Qr (tx (lx (bh ?_)));cases h;exact jn (b:=s59.1) hk59 (wkQ8 [(1,0)])
 intro b52 hb52;have h:=h52;try rw [← hb52] at h
 clear h52;try dsimp only at h
 refine Q0 (runQ hN fun K hK=>?_);simp;repeat refine sdQ ?_
 refine hK _ (tn (Q5 (st':=⟨[(4,.own 0 0 b52.length)],[(0,rI b52)],1⟩) (wkQ8 [(0,0)]) (Qj ?_)));clear hK K;have hr:=Option.some.inj h;rw [← hr];refine ⟨_,(.tmp .nil),?_⟩;refine ⟨(.one rfl rfl .nil),[lI b52],[0],by simp [Cat.cells,UA,U1,IA,I1,LA,L1,BA,B1,EA,E1,E2,eB,eI,eL],by simp,(UpL.refl _)⟩
attribute [local simp] unk unA unE unT unC flat eL eI Qk Q13 Cat.cells
noncomputable def Q2h (c_:Cat) (x_:Int):Option (List Int) :=
 (QR (σ:=List Int × Int) (ε:=List Int) (fun s8 =>
  if s8.2<(c_.fr.length:Int) then
   (
    ass (0≤s8.2∧s8.2<(c_.fr.length:Int)) <|
    if (ix c_.fr s8.2)=x_ then
     ass ((s8.1++[s8.2]).length≤1073741824) <|
     some (s8.1++[s8.2])
    else
     some s8.1:Option (List Int)).bind fun b10 =>
   ass (B64 (s8.2+1)) <|
   some (Ctl.next (b10,s8.2+1))
  else
   some (Ctl.ret s8.1)) fuel ([],0)).bind fun b1 =>
 some b1
theorem Q4R (c_:Cat) (x_:Int) (r:List Int) (h:Q2h c_ x_=some r):Contract Try.prog 101 [.agg (c_.cells true),iV x_] (lI r):=by
 refine Qg (rvs:=[.tmp 4]) (rs:=[lI r]) Try.func101 rfl rfl rfl rfl (by simp [Try.f101]) fun F hN hP=>?_;unfold Q2h at h;refine Q0 (runQ hN fun K hK=>?_);simp;repeat refine sdQ ?_
 refine hK _ ?_;clear hK K;refine tn (Q5 (st':=⟨(1,iV x_)::Yg [],Y7 c_ [],1⟩) (wkQ8 [(0,0)]) (Q0 (runQ hN fun K hK=>?_)));simp;repeat refine sdQ ?_
 refine hK _ ?_;clear hK K;refine tn (Q5 (st':=⟨(1,iV x_)::Yg [(5,.own 1 0 0)],Y7 c_ [(1,.mix 1 [])],2⟩) (wkQ8 [(0,0),(1,1)]) (Q0 (Q0 (runQ hN fun K hK=>?_))));simp;repeat refine sdQ ?_
 refine hK _ (tn (Q5 (st':=⟨(1,iV x_)::Yg [(5,.own 1 0 0),(6,iV 0)],Y7 c_ [(1,.mix 1 [])],2⟩) (wkQ8 [(0,0),(1,1)]) ?_));clear hK K;replace ⟨e1,h,h1⟩:=bind_some h;refine Qv (fun b1:List Int=>⟨[(5,.own 0 0 b1.length)],[(0,rI b1)],1⟩) (fun b1=>b1=e1) ?_ ?_
 ·refine Q7 (QM h (fun s8:List Int × Int=>⟨(1,iV x_)::Yg [(5,.own 1 0 s8.1.length),(6,iV s8.2)],Y7 c_ [(1,rI s8.1)],2⟩) (Q4B ⟨(1,iV x_)::Yg [(5,.own 1 0 0),(6,iV 0)],Y7 c_ [(1,rI [])],2⟩ (Wk.nils [] (by simp) (by simp) (by simp [nlA]) (by simp [entN,nlL,nlA,Cat.cells,UA,U1,IA,I1,LA,L1,BA,B1,EA,E1,E2,eB,eI,eL]) (by simp)) (wkQ8 [(0,0),(1,1)])) ?_);clear h;intro k8 s8 c8 h hk8;refine Q0 (Q0 (runQ hN fun K hK=>?_));simp;repeat refine sdQ ?_
  refine hK _ ?_;clear hK K;refine tn (Q8 rfl (fun g=>?_) fun g=>?_)
  ·have g9:s8.2<(c_.fr.length:Int):=gQ;clear g;replace h:=if_l g9 h;refine Q9 (tn (Q0 ?_));replace ⟨e10,h,h10⟩:=bind_some h;refine Qv (fun b10:List Int=>⟨(1,iV x_)::Yg [(5,.own 1 0 b10.length),(6,iV s8.2)],Y7 c_ [(1,rI b10)],2⟩) (fun b10=>b10=e10) ?_ ?_
   ·refine Q7 (Q0 (runQ hN fun K hK=>?_));replace ⟨a11,h⟩:=Q6 h;simp [at_I a11];(repeat refine sdQ ?_);refine hK _ ?_;clear hK K;refine tn (Q8 rfl (fun g=>?_) fun g=>?_)
    ·have g12:(ix c_.fr s8.2)=x_:=gQ;clear g;replace h:=if_l g12 h;refine runQ hN fun K hK=>?_;replace ⟨a13,h⟩:=Q6 h;(try simp only [List.length_append,List.length_cons,List.length_nil] at a13);simp [a13];(repeat refine sdQ ?_);refine hK _ (bn ?_);clear hK K;exact jn (b:=s8.1++[s8.2]) (Option.some.inj h) (wkQ8 [(0,0),(3,1)])
    have g12:¬ ((ix c_.fr s8.2)=x_):=gQ;clear g;replace h:=if_r g12 h;refine Q9 (bn ?_);exact jn (b:=s8.1) (Option.some.inj h) (wkQ8 [(0,0),(1,1)])
   intro b10 hb10;have h:=h10;(try rw [← hb10] at h);clear h10;(try dsimp only at h);refine runQ hN fun K hK=>?_;replace ⟨a14,h⟩:=Q6 h;simp [QA a14];(repeat refine sdQ ?_);refine hK _ ?_;clear hK K;cases h;exact rn (s':=(b10,s8.2+1)) hk8 (wkQ8 [(0,0),(1,1)])
  have g9:¬ (s8.2<(c_.fr.length:Int)):=gQ;clear g;replace h:=if_r g9 h;refine Qr (tx (lx (bh ?_)));cases h;exact jn (b:=s8.1) hk8 (wkQ8 [(1,0)])
 intro b1 hb1;have h:=h1;try rw [← hb1] at h
 clear h1;try dsimp only at h
 refine Q0 (runQ hN fun K hK=>?_);simp;repeat refine sdQ ?_
 refine hK _ (tn (Q5 (st':=⟨[(4,.own 0 0 b1.length)],[(0,rI b1)],1⟩) (wkQ8 [(0,0)]) (Qj ?_)));clear hK K;have hr:=Option.some.inj h;rw [← hr];refine ⟨_,(.tmp .nil),?_⟩;refine ⟨(.one rfl rfl .nil),[lI b1],[0],by simp [Cat.cells,UA,U1,IA,I1,LA,L1,BA,B1,EA,E1,E2,eB,eI,eL],by simp,(UpL.refl _)⟩
attribute [local simp] unk unA unE unT unC flat eL eI Qk
noncomputable def Q1Y (a_:List Int) (b_:List Int):Option Bool :=
 (QR (σ:=Int) (ε:=Unit ⊕ Bool) (fun s11 =>
  (
   if s11<(a_.length:Int) then
    some (decide (s11<(b_.length:Int)))
   else
    some false:Option (Bool)).bind fun b12 =>
  if b12=true then
   ass (0≤s11∧s11<(a_.length:Int)) <|
   ass (0≤s11∧s11<(b_.length:Int)) <|
   if ¬ ((ix a_ s11)=(ix b_ s11)) then
    ass (0≤s11∧s11<(a_.length:Int)) <|
    ass (0≤s11∧s11<(b_.length:Int)) <|
    some (Ctl.ret (Sum.inr (decide ((ix a_ s11)<(ix b_ s11)))))
   else
    ass (B64 (s11+1)) <|
    some (Ctl.next (s11+1))
  else
   some (Ctl.ret (Sum.inl ()))) fuel 0).bind fun e1 =>
 match e1 with
 | .inl b1 =>
  some (decide ((a_.length:Int)<(b_.length:Int)))
 | .inr p1 =>
  some p1
theorem Q6D (a_:List Int) (b_:List Int) (r:Bool) (h:Q1Y a_ b_=some r):Contract Try.prog 129 [lI a_,lI b_] (.val (.bool r)):=by
 refine Qg (rvs:=[.tmp 4]) (rs:=[.val (.bool r)]) Try.func129 rfl rfl rfl rfl (by simp [Try.f129]) fun F hN hP=>?_;unfold Q1Y at h;refine Q0 (runQ hN fun K hK=>?_);simp;repeat refine sdQ ?_
 refine hK _ ?_;clear hK K;refine tn (Q5 (st':=⟨[(0,lI a_),(1,lI b_)],[],0⟩) (wkQ8 []) (Q0 (Q0 (runQ hN fun K hK=>?_))));simp;repeat refine sdQ ?_
 refine hK _ (tn (Q5 (st':=⟨[(0,lI a_),(1,lI b_),(5,iV 0)],[],0⟩) (wkQ8 []) ?_));clear hK K;replace ⟨e1,h,h1⟩:=bind_some h;refine Qv (fun b1:Unit=>⟨[(0,lI a_),(1,lI b_)],[],0⟩) (fun b1=>Sum.inl b1=e1) ?_ ?_
 ·refine Q7 (QM h (fun s11:Int=>⟨[(0,lI a_),(1,lI b_),(5,iV s11)],[],0⟩) (wkQ8 []) ?_);clear h;intro k11 s11 c11 h hk11;refine Q0 (Q0 ?_);replace ⟨e12,h,h12⟩:=bind_some h;refine Qv (fun b12:Bool=>⟨[(0,lI a_),(1,lI b_),(5,iV s11),(15,.val (.bool b12))],[],0⟩) (fun b12=>b12=e12) ?_ ?_
  ·refine runQ hN fun K hK=>?_;simp;(repeat with_reducible refine sdQ ?_);refine Q69 (fun g=>?_) (fun g=>?_)
   ·have g13:s11<(a_.length:Int):=gQ;clear g;replace h:=if_l g13 h;simp;(repeat refine sdQ ?_);refine hK _ ?_;exact jn (b:=decide (s11<(b_.length:Int))) (Option.some.inj h) (wkQ8 [])
   have g13:¬ (s11<(a_.length:Int)):=gQ;clear g;replace h:=if_r g13 h;simp;(repeat refine sdQ ?_);refine hK _ ?_;exact jn (b:=false) (Option.some.inj h) (wkQ8 [])
  intro b12 hb12;have h:=h12;try rw [← hb12] at h
  clear h12;try dsimp only at h
  refine Q8 rfl (fun g=>?_) fun g=>?_
  ·have g14:b12=true:=gQ;clear g;replace h:=if_l g14 h;refine Q9 (tn (Q0 (Q7 (Q0 (runQ hN fun K hK=>?_)))));replace ⟨a15,h⟩:=Q6 h;replace ⟨a16,h⟩:=Q6 h;simp [at_I a15,at_I a16];(repeat refine sdQ ?_);refine hK _ ?_;clear hK K;refine tn (Q8 rfl (fun g=>?_) fun g=>?_)
   ·have g17:¬ ((ix a_ s11)=(ix b_ s11)):=gQ;clear g;replace h:=if_l g17 h;refine Q0 (runQ hN fun K hK=>?_);replace ⟨a18,h⟩:=Q6 h;replace ⟨a19,h⟩:=Q6 h;simp [at_I a18,at_I a19];(repeat refine sdQ ?_);refine hK _ (tn (Q5 (st':=⟨[(4,.val (.bool (decide ((ix a_ s11)<(ix b_ s11)))))],[],0⟩) (wkQ8 []) (Qj (br (tr (lr (br (tr ?_))))))));clear hK K;cases h;have q:_=e1:=hk11;have h:=h1;rw [← q] at h;clear q;(try dsimp only at h);have hr:=Option.some.inj h;rw [← hr];refine ⟨_,(.tmp .nil),?_⟩;refine ⟨(.one rfl rfl .nil),[.val (.bool (decide ((ix a_ s11)<(ix b_ s11))))],[],by simp [UA,U1,IA,I1,LA,L1,BA,B1,EA,E1,E2,eB,eI,eL],by simp,(UpL.refl _)⟩
   have g17:¬ (¬ ((ix a_ s11)=(ix b_ s11))):=gQ;clear g;replace h:=if_r g17 h;refine Q9 (bn (tn (runQ hN fun K hK=>?_)));replace ⟨a20,h⟩:=Q6 h;simp [QA a20];(repeat refine sdQ ?_);refine hK _ ?_;clear hK K;cases h;exact rn (s':=s11+1) hk11 (wkQ8 [])
  have g14:¬ (b12=true):=gQ;clear g;replace h:=if_r g14 h;refine Qr (tx (lx (bh ?_)));cases h;exact jn (b:=()) hk11 (wkQ8 [])
 intro b1 hb1;have h:=h1;try rw [← hb1] at h
 clear h1;try dsimp only at h
 refine Q0 (runQ hN fun K hK=>?_);simp;repeat refine sdQ ?_
 refine hK _ (tn (Q5 (st':=⟨[(4,.val (.bool (decide ((a_.length:Int)<(b_.length:Int)))))],[],0⟩) (wkQ8 []) (Qj ?_)));clear hK K;have hr:=Option.some.inj h;rw [← hr];refine ⟨_,(.tmp .nil),?_⟩;refine ⟨(.one rfl rfl .nil),[.val (.bool (decide ((a_.length:Int)<(b_.length:Int))))],[],by simp [UA,U1,IA,I1,LA,L1,BA,B1,EA,E1,E2,eB,eI,eL],by simp,(UpL.refl _)⟩
attribute [local simp] unk unA unE unT unC flat
noncomputable def Q1s (list_:List (List Int)):Option (List (List Int)) :=
 ass (list_.length≤1073741824) <|
 (QR (σ:=List (List Int) × Int) (ε:=List (List Int)) (fun s31 =>
  if s31.2<(s31.1.length:Int) then
   (
    (QR (σ:=List (List Int) × Int) (ε:=List (List Int)) (fun s49 =>
     (
      if s49.2 > 0 then
       ass (0≤s49.2∧s49.2<(s49.1.length:Int)) <|
       ass (B64 (s49.2 - 1)) <|
       ass (0≤s49.2 - 1∧s49.2 - 1<(s49.1.length:Int)) <|
       (Q1Y (rx s49.1 s49.2) (rx s49.1 (s49.2 - 1))).bind fun v55 =>
       some v55
      else
       some false:Option (Bool)).bind fun b50 =>
     if b50=true then
      ass (0≤s49.2∧s49.2<(s49.1.length:Int)) <|
      ass (B64 (s49.2 - 1)) <|
      ass (0≤s49.2 - 1∧s49.2 - 1<(s49.1.length:Int)) <|
      ass (0≤s49.2∧s49.2<(s49.1.length:Int)) <|
      ass (B64 (s49.2 - 1)) <|
      ass (0≤s49.2 - 1∧s49.2 - 1<((s49.1.set s49.2.toNat (rx s49.1 (s49.2 - 1))).length:Int)) <|
      ass (B64 (s49.2 - 1)) <|
      some (Ctl.next ((s49.1.set s49.2.toNat (rx s49.1 (s49.2 - 1))).set ((s49.2 - 1).toNat) (rx s49.1 s49.2),s49.2 - 1))
     else
      some (Ctl.ret s49.1)) fuel (s31.1,s31.2)).bind fun p49 =>
    some p49:Option (List (List Int))).bind fun b33 =>
   ass (B64 (s31.2+1)) <|
   some (Ctl.next (b33,s31.2+1))
  else
   some (Ctl.ret s31.1)) fuel (list_,1)).bind fun b2 =>
 some b2
theorem Q5h (list_:List (List Int)) (r:List (List Int)) (h:Q1s list_=some r):FContract Try.prog true 116 [.lst true 1 (Ls list_)] (.lst true 1 (Ls r)):=by
 refine Q2D true (ts:=[2]) (rs:=[.lst true 1 (Ls r)]) Try.func116 rfl rfl rfl rfl (by simp [Try.f116]) fun F hN hP=>?_;unfold Q1s at h;refine Q0 (Ql [] mo (by rw [hN];decide) fun K hK=>?_);simp [-Int.pred_toNat,eL,eI,Qk];repeat refine sdQ ?_
 refine hK _ ?_;clear hK K;refine tn (Q5 (st':=⟨[(0,.lst true 1 (Ls list_))],[],0⟩) (wkQ8 []) (Q0 (Ql [9] mo (by rw [hN];decide) fun K hK=>?_)));replace ⟨a1,h⟩:=Q6 h;try simp only [List.length_append,List.length_cons,List.length_nil] at a1
 simp [-Int.pred_toNat,eL,eI,Qk,a1];repeat refine sdQ ?_
 refine hK _ ?_;clear hK K;refine tn (Q5 (st':=⟨[(3,.own 0 0 list_.length)],[(0,.mix 1 (Ls list_))],1⟩) (wkQ8 [(1,0)]) (Q0 (Q0 (Ql [] mo (by rw [hN];decide) fun K hK=>?_))));simp [-Int.pred_toNat,eL,eI,Qk];repeat refine sdQ ?_
 refine hK _ (tn (Q5 (st':=⟨[(3,.own 0 0 list_.length),(4,iV 1)],[(0,.mix 1 (Ls list_))],1⟩) (wkQ8 [(0,0)]) ?_));clear hK K;replace ⟨e2,h,h2⟩:=bind_some h;refine Qv (fun b2:List (List Int)=>⟨[(3,.own 0 0 b2.length)],[(0,.mix 1 (Ls b2))],1⟩) (fun b2=>b2=e2) ?_ ?_
 ·refine Q7 (QM h (fun s31:List (List Int) × Int=>⟨[(3,.own 0 0 s31.1.length),(4,iV s31.2)],[(0,.mix 1 (Ls s31.1))],1⟩) (wkQ8 [(0,0)]) ?_);clear h;intro k31 s31 c31 h hk31;refine Q0 (Q0 (Ql [] mo (by rw [hN];decide) fun K hK=>?_));simp [-Int.pred_toNat,eL,eI,Qk];repeat refine sdQ ?_
  refine hK _ ?_;clear hK K;refine tn (Q8 rfl (fun g=>?_) fun g=>?_)
  ·have g32:s31.2<(s31.1.length:Int):=gQ;clear g;replace h:=if_l g32 h;refine Q9 (tn (Q0 ?_));replace ⟨e33,h,h33⟩:=bind_some h;refine Qv (fun b33:List (List Int)=>⟨[(3,.own 0 0 b33.length),(4,iV s31.2)],[(0,.mix 1 (Ls b33))],1⟩) (fun b33=>b33=e33) ?_ ?_
   ·refine Q7 (Q0 (Ql [] mo (by rw [hN];decide) fun K hK=>?_));simp [-Int.pred_toNat,eL,eI,Qk];(repeat refine sdQ ?_);refine hK _ (tn (Q5 (st':=⟨[(3,.own 0 0 s31.1.length),(4,iV s31.2),(5,iV s31.2)],[(0,.mix 1 (Ls s31.1))],1⟩) (wkQ8 [(0,0)]) (Q7 ?_)));clear hK K;replace ⟨e49,he49,h49⟩:=bind_some h;refine QM he49 (fun s49:List (List Int) × Int=>⟨[(3,.own 0 0 s49.1.length),(4,iV s31.2),(5,iV s49.2)],[(0,.mix 1 (Ls s49.1))],1⟩) (wkQ8 [(0,0)]) ?_;intro k49 s49 c49 h hk49;refine Q0 (Q0 ?_);replace ⟨e50,h,h50⟩:=bind_some h;refine Qv (fun b50:Bool=>⟨[(3,.own 0 0 s49.1.length),(4,iV s31.2),(5,iV s49.2),(30,.val (.bool b50))],[(0,.mix 1 (Ls s49.1))],1⟩) (fun b50=>b50=e50) ?_ ?_
    ·refine Ql [] mo (by rw [hN];decide) fun K hK=>?_;simp [-Int.pred_toNat,eL,eI,Qk];(repeat with_reducible refine sdQ ?_);refine Q3K (fun g=>?_) (fun g=>?_)
     ·have g51:s49.2 > 0:=gQ;clear g;replace h:=if_l g51 h;replace ⟨a52,h⟩:=Q6 h;replace ⟨a53,h⟩:=Q6 h;replace ⟨a54,h⟩:=Q6 h;simp [-Int.pred_toNat,eL,eI,Qk,at_L a52,QA a53,at_L a54];(repeat with_reducible refine sdQ ?_);replace ⟨v55,hv55,h⟩:=bind_some h;refine QH (fz:=[]) (Q6D _ _ v55 hv55) (.cons .lst (.cons .lst .nil)) ?_;simp [-Int.pred_toNat,unk,unA,unE,unT,unC,flat,eL,eI,Qk,at_L a52,at_L a54];(repeat refine sdQ ?_);refine hK _ ?_;exact jn (b:=v55) (Option.some.inj h) (wkQ8 [(0,0)])
     have g51:¬ (s49.2 > 0):=gQ;clear g;replace h:=if_r g51 h;simp [-Int.pred_toNat,eL,eI,Qk];(repeat refine sdQ ?_);refine hK _ ?_;exact jn (b:=false) (Option.some.inj h) (wkQ8 [(0,0)])
    intro b50 hb50;have h:=h50;(try rw [← hb50] at h);clear h50;(try dsimp only at h);refine Q8 rfl (fun g=>?_) fun g=>?_
    ·have g56:b50=true:=gQ;clear g;replace h:=if_l g56 h;refine Q9 (tn (Q0 (Q7 (Q0 (Ql [] mo (by rw [hN];decide) fun K hK=>?_)))));replace ⟨a57,h⟩:=Q6 h;simp [-Int.pred_toNat,eL,eI,Qk,at_L a57];(repeat refine sdQ ?_);refine hK _ ?_;clear hK K;refine tn (Q5 (st':=⟨[(3,.own 0 0 s49.1.length),(4,iV s31.2),(5,iV s49.2),(6,lI (rx s49.1 s49.2))],[(0,.mix 1 (Ls s49.1))],1⟩) (wkQ8 [(0,0)]) (Q0 (Ql [] mo (by rw [hN];decide) fun K hK=>?_)));replace ⟨a58,h⟩:=Q6 h;replace ⟨a59,h⟩:=Q6 h;replace ⟨a60,h⟩:=Q6 h;simp [-Int.pred_toNat,eL,eI,Qk,QA a58,at_L a59,at_L a60];(repeat refine sdQ ?_);refine hK _ ?_;clear hK K;refine tn (Q5 (st':=⟨[(3,.own 0 0 ((s49.1.set s49.2.toNat (rx s49.1 (s49.2 - 1))).length)),(4,iV s31.2),(5,iV s49.2),(6,lI (rx s49.1 s49.2))],[(0,.mix 1 (Ls (s49.1.set s49.2.toNat (rx s49.1 (s49.2 - 1)))))],1⟩) (wkQ8 [(0,0)]) (Ql [] mo (by rw [hN];decide) fun K hK=>?_));replace ⟨a61,h⟩:=Q6 h;replace ⟨a62,h⟩:=Q6 h;simp [-Int.pred_toNat,eL,eI,Qk,QA a61,at_L a62];(repeat refine sdQ ?_);refine hK _ ?_;clear hK K;refine bn (tn (Q5 (st':=⟨[(3,.own 0 0 (((s49.1.set s49.2.toNat (rx s49.1 (s49.2 - 1))).set ((s49.2 - 1).toNat) (rx s49.1 s49.2)).length)),(4,iV s31.2),(5,iV s49.2)],[(0,.mix 1 (Ls ((s49.1.set s49.2.toNat (rx s49.1 (s49.2 - 1))).set ((s49.2 - 1).toNat) (rx s49.1 s49.2))))],1⟩) (wkQ8 [(0,0)]) (Ql [] mo (by rw [hN];decide) fun K hK=>?_)));replace ⟨a63,h⟩:=Q6 h;simp [-Int.pred_toNat,eL,eI,Qk,QA a63];(repeat refine sdQ ?_);refine hK _ ?_;clear hK K;cases h;exact rn (s':=((s49.1.set s49.2.toNat (rx s49.1 (s49.2 - 1))).set ((s49.2 - 1).toNat) (rx s49.1 s49.2),s49.2 - 1)) hk49 (wkQ8 [(0,0)])
    have g56:¬ (b50=true):=gQ;clear g;replace h:=if_r g56 h;refine Qr (tx (lx (bh (bn ?_))));cases h;have q:_=e49:=hk49;have h:=h49;rw [← q] at h;clear q;(try dsimp only at h);exact jn (b:=s49.1) (Option.some.inj h) (wkQ8 [(0,0)])
   intro b33 hb33;have h:=h33;(try rw [← hb33] at h);clear h33;(try dsimp only at h);refine Ql [] mo (by rw [hN];decide) fun K hK=>?_;replace ⟨a64,h⟩:=Q6 h;simp [-Int.pred_toNat,eL,eI,Qk,QA a64];(repeat refine sdQ ?_);refine hK _ ?_;clear hK K;cases h;exact rn (s':=(b33,s31.2+1)) hk31 (wkQ8 [(0,0)])
  have g32:¬ (s31.2<(s31.1.length:Int)):=gQ;clear g;replace h:=if_r g32 h;refine Qr (tx (lx (bh ?_)));cases h;exact jn (b:=s31.1) hk31 (wkQ8 [(0,0)])
 intro b2 hb2;have h:=h2;try rw [← hb2] at h
 clear h2;try dsimp only at h
 refine Q0 (Ql [] mo (by rw [hN];decide) fun K hK=>?_);simp [-Int.pred_toNat,eL,eI,Qk];repeat refine sdQ ?_
 refine hK _ (tn (Q5 (st':=⟨[(2,.own 0 0 b2.length)],[(0,.mix 1 (Ls b2))],1⟩) (wkQ8 [(0,0)]) (Qj ?_)));clear hK K;have hr:=Option.some.inj h;rw [← hr];exact (.two (.smix rfl (by simp) (Q1m (by simp))) .nil)
section
attribute [local simp] Qc Qw Qm QN Qu
theorem Cat.Is.Ai {c:Cat} (h:c.Is) {x:Int} (hx:0≤x∧x<c.n):Ar c (ix c.id x) x x:=by
 have h1:=h.1.li;obtain ⟨i,rfl⟩:=Int.eq_ofNat_of_zero_le hx.1;have h2:=h.1.ids i (by omega);exact ⟨h.1.id' (by omega) (by omega),h2.1,h2.2⟩
theorem Cat.Is.Af {c:Cat} (h:c.Is) {f:Int} (hf:0≤f∧f<(c.fr.length:Int)):Ar c f (ix c.fr f) (ix c.to f)∧(0≤ix c.fr f∧ix c.fr f<c.n)∧(0≤ix c.to f∧ix c.to f<c.n):=by
 have h1:=h.1.li;have h2:=h.1.fr' hf.1 hf.2;have h3:=h.1.to' hf.1 (by have:=h.1.lt;omega);exact ⟨⟨hf,rfl,rfl⟩,by omega,by omega⟩
end
section
attribute [local simp] Qc Qw Qm QN Qu
theorem Cat.Is.assoc {c:Cat} (hc:c.Is) {f g h w x y z:Int} (a:Ar c f w x) (b:Ar c g x y) (d:Ar c h y z):ix (rx c.cs (ix (rx c.cs f) g)) h=ix (rx c.cs f) (ix (rx c.cs g) h):=by
 obtain ⟨i,rfl⟩:=Int.eq_ofNat_of_zero_le a.1.1;obtain ⟨j,rfl⟩:=Int.eq_ofNat_of_zero_le b.1.1;obtain ⟨k,rfl⟩:=Int.eq_ofNat_of_zero_le d.1.1;have:=hc.2.2 i (by have:=a.1;omega) j (by have:=b.1;omega) k (by have:=d.1;omega);exact this (by rw [a.2.2,b.2.1]) (by rw [b.2.2,d.2.1])
theorem Cat.Is.idl {c:Cat} (hc:c.Is) {f x y:Int} (a:Ar c f x y):ix (rx c.cs (ix c.id x)) f=f∧ix (rx c.cs f) (ix c.id y)=f:=by
 obtain ⟨i,rfl⟩:=Int.eq_ofNat_of_zero_le a.1.1;have:=hc.2.1 i (by have:=a.1;omega);unfold Cat.un at this;rw [a.2.1,a.2.2] at this;exact this
end
attribute [local simp] unk unA unE unT unC flat eL eI Qk
noncomputable def Q1a (list_:List (List Int)) (x_:List Int):Option Int :=
 (QR (σ:=Int) (ε:=Unit ⊕ Int) (fun s7 =>
  if s7<(list_.length:Int) then
   ass (0≤s7∧s7<(list_.length:Int)) <|
   (Q2q (rx list_ s7) x_).bind fun v10 =>
   if v10=true then
    some (Ctl.ret (Sum.inr s7))
   else
    ass (B64 (s7+1)) <|
    some (Ctl.next (s7+1))
  else
   some (Ctl.ret (Sum.inl ()))) fuel 0).bind fun e1 =>
 match e1 with
 | .inl b1 =>
  some (-1)
 | .inr p1 =>
  some p1
theorem Q3Q (list_:List (List Int)) (x_:List Int) (r:Int) (h:Q1a list_ x_=some r):Contract Try.prog 94 [.lst true 1 (Ls list_),lI x_] (iV r):=by
 refine Qg (rvs:=[.tmp 4]) (rs:=[iV r]) Try.func94 rfl rfl rfl rfl (by simp [Try.f94]) fun F hN hP=>?_;unfold Q1a at h;refine Q0 (runQ hN fun K hK=>?_);simp;repeat refine sdQ ?_
 refine hK _ ?_;clear hK K;refine tn (Q5 (st':=⟨[(0,.lst true 1 (Ls list_)),(1,lI x_)],[],0⟩) (wkQ8 []) (Q0 (Q0 (runQ hN fun K hK=>?_))));simp;repeat refine sdQ ?_
 refine hK _ (tn (Q5 (st':=⟨[(0,.lst true 1 (Ls list_)),(1,lI x_),(5,iV 0)],[],0⟩) (wkQ8 []) ?_));clear hK K;replace ⟨e1,h,h1⟩:=bind_some h;refine Qv (fun b1:Unit=>⟨[],[],0⟩) (fun b1=>Sum.inl b1=e1) ?_ ?_
 ·refine Q7 (QM h (fun s7:Int=>⟨[(0,.lst true 1 (Ls list_)),(1,lI x_),(5,iV s7)],[],0⟩) (wkQ8 []) ?_);clear h;intro k7 s7 c7 h hk7;refine Q0 (Q0 (runQ hN fun K hK=>?_));simp;repeat refine sdQ ?_
  refine hK _ ?_;clear hK K;refine tn (Q8 rfl (fun g=>?_) fun g=>?_)
  ·have g8:s7<(list_.length:Int):=gQ;clear g;replace h:=if_l g8 h;refine Q9 (tn (Q0 (Q7 (Q0 (runQ hN fun K hK=>?_)))));replace ⟨a9,h⟩:=Q6 h;simp [at_L a9];(repeat with_reducible refine sdQ ?_);replace ⟨v10,hv10,h⟩:=bind_some h;refine Q1 (Q6E _ _ v10 hv10) (.cons .lst (.cons .lst .nil)) ?_;simp [at_L a9];(repeat refine sdQ ?_);refine hK _ ?_;clear hK K;refine tn (Q5 (st':=⟨[(0,.lst true 1 (Ls list_)),(1,lI x_),(5,iV s7),(17,.val (.bool v10))],[],0⟩) (wkQ8 []) (Q8 rfl (fun g=>?_) fun g=>?_))
   ·have g11:v10=true:=gQ;clear g;replace h:=if_l g11 h;refine Q0 (runQ hN fun K hK=>?_);simp;(repeat refine sdQ ?_);refine hK _ (tn (Q5 (st':=⟨[(4,iV s7)],[],0⟩) (wkQ8 []) (Qj (br (tr (lr (br (tr ?_))))))));clear hK K;cases h;have q:_=e1:=hk7;have h:=h1;rw [← q] at h;clear q;(try dsimp only at h);have hr:=Option.some.inj h;rw [← hr];refine ⟨_,(.tmp .nil),?_⟩;refine ⟨(.one rfl rfl .nil),[iV s7],[],by simp [UA,U1,IA,I1,LA,L1,BA,B1,EA,E1,E2,eB,eI,eL],by simp,(UpL.refl _)⟩
   have g11:¬ (v10=true):=gQ;clear g;replace h:=if_r g11 h;refine Q9 (bn (tn (runQ hN fun K hK=>?_)));replace ⟨a12,h⟩:=Q6 h;simp [QA a12];(repeat refine sdQ ?_);refine hK _ ?_;clear hK K;cases h;exact rn (s':=s7+1) hk7 (wkQ8 [])
  have g8:¬ (s7<(list_.length:Int)):=gQ;clear g;replace h:=if_r g8 h;refine Qr (tx (lx (bh ?_)));cases h;exact jn (b:=()) hk7 (wkQ8 [])
 intro b1 hb1;have h:=h1;try rw [← hb1] at h
 clear h1;try dsimp only at h
 refine Q0 (runQ hN fun K hK=>?_);simp;repeat refine sdQ ?_
 refine hK _ (tn (Q5 (st':=⟨[(4,iV (-1))],[],0⟩) (wkQ8 []) (Qj ?_)));clear hK K;have hr:=Option.some.inj h;rw [← hr];refine ⟨_,(.tmp .nil),?_⟩;refine ⟨(.one rfl rfl .nil),[iV (-1)],[],by simp [UA,U1,IA,I1,LA,L1,BA,B1,EA,E1,E2,eB,eI,eL],by simp,(UpL.refl _)⟩
attribute [local simp] unk unA unE unT unC flat eL eI Qk Q13 Cat.cells
noncomputable def QL (k:Nat) (q0_:Cat) (q1_:List Int) (q2_:List Int) (q3_:List (List Int)):Option (List (List Int)):=match k with
 | 0=>none
 | k+1 =>
  (
   (Q1a q3_ q2_).bind fun v3 =>
   if v3 ≥ 0 then
    some true
   else
    some (decide ((q3_.length:Int) > 16)):Option (Bool)).bind fun b2 =>
  if b2=true then
   some q3_
  else
   ass ((q3_++[q2_]).length≤1073741824) <|
   (QR (σ:=List (List Int) × Int) (ε:=List (List Int)) (fun s19 =>
    if s19.2<(q1_.length:Int) then
     (
      ass (0≤s19.2∧s19.2<(q1_.length:Int)) <|
      (Q2S q2_ (ix q1_ s19.2)).bind fun v23 =>
      if ¬ (v23=true) then
       (Q2T q2_).bind fun v25 =>
       ass (0≤s19.2∧s19.2<(q1_.length:Int)) <|
       ass ((v25++[ix q1_ s19.2]).length≤1073741824) <|
       (Q1M q0_ (v25++[ix q1_ s19.2])).bind fun v28 =>
       (QL k q0_ q1_ v28 s19.1).bind fun v29 =>
       some v29
      else
       some s19.1:Option (List (List Int))).bind fun b21 =>
     ass (B64 (s19.2+1)) <|
     some (Ctl.next (b21,s19.2+1))
    else
     some (Ctl.ret s19.1)) fuel (q3_++[q2_],0)).bind fun b7 =>
   some b7
@[simp] abbrev Yo (a:Cat) (b:List (Nat × AV)):List (Nat × AV):=(4,.rptr (Cat.cells true a))::b
theorem Q3X:∀ (k:Nat) (q0_:Cat) (q1_:List Int) (q2_:List Int) (q3_:List (List Int)) (vR:List (List Int)) (h:QL k q0_ q1_ q2_ q3_=some vR),ICon Try.prog 115 [.agg (Cat.cells true q0_),.own 0 0 q1_.length,lI q2_,.own 1 0 q3_.length] (fun id=>look id [(0,rI q1_),(1,.mix 1 (Ls q3_))]) 2 { v:=.own 2 0 vR.length,set:=[],del:=[1],new:=[(2,.mix 1 (Ls vR))],cnt:=1 }:=by
 intro k
 induction k with
 | zero =>
  intro q0_ q1_ q2_ q3_ vR h;simp [QL] at h
 | succ k ih =>
  intro q0_ q1_ q2_ q3_ vR h;refine Q4g (ts:=[8]) (H:=[(0,rI q1_),(1,.mix 1 (Ls q3_))]) Try.func115 rfl rfl rfl (by simp [Try.f115]) (by simp) (fineI (by simp)) (newI (by rfl)) fun F hN hP=>?_;unfold QL at h;try dsimp only at h
  refine Q0 (Ql [4] mo (by rw [hN];decide) fun K hK=>?_);simp;repeat refine sdQ ?_
  refine hK _ (tn (Q5 (st':=⟨(1,.own 0 0 q1_.length)::(2,lI q2_)::(3,.own 1 0 q3_.length)::Yo q0_ [],[(0,rI q1_),(1,.mix 1 (Ls q3_))],2⟩) (Wk.rP _ [(0,0),(1,1)] hP (by rfl) (by simp [hhOk,back,Cat.cells,UA,U1,IA,I1,LA,L1,BA,B1,EA,E1,E2,eB,eI,eL])) (Q0 (Q0 ?_))));clear hK K;replace ⟨e2,h,h2⟩:=bind_some h;refine Qv (fun b2:Bool=>⟨(1,.own 0 0 q1_.length)::(2,lI q2_)::(3,.own 1 0 q3_.length)::Yo q0_ [(18,.val (.bool b2))],[(0,rI q1_),(1,.mix 1 (Ls q3_))],2⟩) (fun b2=>b2=e2) ?_ ?_
  ·refine Ql [] mo (by rw [hN];decide) fun K hK=>?_;simp;(repeat with_reducible refine sdQ ?_);replace ⟨v3,hv3,h⟩:=bind_some h;refine QH (fz:=[]) (Q3Q _ _ v3 hv3) (.cons (.smix rfl (by simp) (Q1m (by simp [Cat.cells,Q13]))) (.cons .lst .nil)) ?_;simp;(repeat with_reducible refine sdQ ?_);refine Q3K (fun g=>?_) (fun g=>?_)
   ·have g4:¬ (v3 ≥ 0):=gQ;clear g;replace h:=if_r g4 h;simp;(repeat refine sdQ ?_);refine hK _ ?_;exact jn (b:=decide ((q3_.length:Int) > 16)) (Option.some.inj h) (Wk.rP _ [(0,0),(1,1)] hP (by rfl) (by simp [hhOk,back,Cat.cells,UA,U1,IA,I1,LA,L1,BA,B1,EA,E1,E2,eB,eI,eL]))
   have g4:v3 ≥ 0:=gQ;clear g;replace h:=if_l g4 h;simp;(repeat refine sdQ ?_);refine hK _ ?_;exact jn (b:=true) (Option.some.inj h) (Wk.rP _ [(0,0),(1,1)] hP (by rfl) (by simp [hhOk,back,Cat.cells,UA,U1,IA,I1,LA,L1,BA,B1,EA,E1,E2,eB,eI,eL]))
  intro b2 hb2;have h:=h2;try rw [← hb2] at h
  clear h2;try dsimp only at h
  refine Q8 rfl (fun g=>?_) fun g=>?_
  ·have g5:b2=true:=gQ;clear g;replace h:=if_l g5 h;refine Q0 (Ql [] mo (by rw [hN];decide) fun K hK=>?_);simp;(repeat refine sdQ ?_);refine hK _ (tn (Q5 (st':=⟨[(8,.own 1 0 q3_.length)],[(0,rI q1_),(1,.mix 1 (Ls q3_))],2⟩) (Wk.rP _ [(0,0),(1,1)] hP (by rfl) (by simp [hhOk,back,Cat.cells,UA,U1,IA,I1,LA,L1,BA,B1,EA,E1,E2,eB,eI,eL])) (Qj (tr ?_))));clear hK K;cases h;first|refine iw_r (st':=⟨[(8,.own 2 0 q3_.length)],[(0,rI q1_),(2,.mix 1 (Ls q3_))],3⟩) ?_ ?_|refine iw_n (st':=⟨[(8,.own 2 0 q3_.length)],[(0,rI q1_),(2,.mix 1 (Ls q3_))],3⟩) ?_ ?_
   ·exact Wk.rQ _ [(0,0),(1,2)] hP (by rfl) (by simp [hhOk,back,Cat.cells,UA,U1,IA,I1,LA,L1,BA,B1,EA,E1,E2,eB,eI,eL])
   exact ⟨by simp [QF],by simp,by simp [Cat.cells]⟩
  have g5:¬ (b2=true):=gQ;clear g;replace h:=if_r g5 h;refine Q9 (tn (Q0 (Ql [23] mo (by rw [hN];decide) fun K hK=>?_)));replace ⟨a6,h⟩:=Q6 h;try simp only [List.length_append,List.length_cons,List.length_nil] at a6
  simp [a6];repeat refine sdQ ?_
  refine hK _ ?_;clear hK K;refine tn (Q5 (st':=⟨(1,.own 0 0 q1_.length)::(2,lI q2_)::(3,.own 2 0 ((q3_++[q2_]).length))::Yo q0_ [],[(0,rI q1_),(2,.mix 1 (Ls (q3_++[q2_])))],3⟩) (Wk.rP _ [(0,0),(3,2),(1,1)] hP (by rfl) (by simp [hhOk,back,Cat.cells,UA,U1,IA,I1,LA,L1,BA,B1,EA,E1,E2,eB,eI,eL])) (Q0 (Q0 (Ql [] mo (by rw [hN];decide) fun K hK=>?_))));simp;repeat refine sdQ ?_
  refine hK _ (tn (Q5 (st':=⟨(1,.own 0 0 q1_.length)::(2,lI q2_)::(3,.own 2 0 ((q3_++[q2_]).length))::Yo q0_ [(9,iV 0)],[(0,rI q1_),(2,.mix 1 (Ls (q3_++[q2_])))],3⟩) (Wk.rP _ [(0,0),(2,2),(1,1)] hP (by rfl) (by simp [hhOk,back,Cat.cells,UA,U1,IA,I1,LA,L1,BA,B1,EA,E1,E2,eB,eI,eL])) ?_));clear hK K;replace ⟨e7,h,h7⟩:=bind_some h;refine Qv (fun b7:List (List Int)=>⟨[(3,.own 2 0 b7.length)],[(0,rI q1_),(2,.mix 1 (Ls b7))],3⟩) (fun b7=>b7=e7) ?_ ?_
  ·refine Q7 (QM h (fun s19:List (List Int) × Int=>⟨(1,.own 0 0 q1_.length)::(2,lI q2_)::(3,.own 2 0 s19.1.length)::Yo q0_ [(9,iV s19.2)],[(0,rI q1_),(2,.mix 1 (Ls s19.1))],3⟩) (Wk.rP _ [(0,0),(2,2),(1,1)] hP (by rfl) (by simp [hhOk,back,Cat.cells,UA,U1,IA,I1,LA,L1,BA,B1,EA,E1,E2,eB,eI,eL])) ?_);clear h;intro k19 s19 c19 h hk19;refine Q0 (Q0 (Ql [] mo (by rw [hN];decide) fun K hK=>?_));simp;(repeat refine sdQ ?_);refine hK _ ?_;clear hK K;refine tn (Q5 (st':=⟨(1,.own 0 0 q1_.length)::(2,lI q2_)::(3,.own 2 0 s19.1.length)::Yo q0_ [(9,iV s19.2),(27,.val (.bool (decide (s19.2<(q1_.length:Int)))))],[(0,rI q1_),(2,.mix 1 (Ls s19.1))],3⟩) (Wk.rP _ [(0,0),(2,2),(1,1)] hP (by rfl) (by simp [hhOk,back,Cat.cells,UA,U1,IA,I1,LA,L1,BA,B1,EA,E1,E2,eB,eI,eL])) (Q8 rfl (fun g=>?_) fun g=>?_))
   ·have g20:s19.2<(q1_.length:Int):=gQ;clear g;replace h:=if_l g20 h;refine Q9 (tn (Q0 ?_));replace ⟨e21,h,h21⟩:=bind_some h;refine Qv (fun b21:List (List Int)=>⟨(1,.own 0 0 q1_.length)::(2,lI q2_)::(3,.own 2 0 b21.length)::Yo q0_ [(9,iV s19.2)],[(0,rI q1_),(2,.mix 1 (Ls b21))],3⟩) (fun b21=>b21=e21) ?_ ?_
    ·refine Q7 (Q0 (Ql [] mo (by rw [hN];decide) fun K hK=>?_));replace ⟨a22,h⟩:=Q6 h;simp [at_I a22];(repeat with_reducible refine sdQ ?_);replace ⟨v23,hv23,h⟩:=bind_some h;refine QH (fz:=[]) (Q7I _ _ v23 hv23) (.cons .lst (.cons .val .nil)) ?_;simp [at_I a22];(repeat refine sdQ ?_);refine hK _ ?_;clear hK K;refine tn (Q5 (st':=⟨(1,.own 0 0 q1_.length)::(2,lI q2_)::(3,.own 2 0 s19.1.length)::Yo q0_ [(9,iV s19.2),(36,.val (.bool (!v23)))],[(0,rI q1_),(2,.mix 1 (Ls s19.1))],3⟩) (Wk.rP _ [(0,0),(2,2),(1,1)] hP (by rfl) (by simp [hhOk,back,Cat.cells,UA,U1,IA,I1,LA,L1,BA,B1,EA,E1,E2,eB,eI,eL])) (Q8 rfl (fun g=>?_) fun g=>?_))
     ·have g24:¬ (v23=true):=gQ;clear g;replace h:=if_l g24 h;refine w_runXQ false [] [69,128] [4] (frz_c ⟨_,rfl⟩ frz_n) mo (by rw [hN];decide) fun K hK=>?_;simp;(repeat with_reducible refine sdQ ?_);replace ⟨v25,hv25,h⟩:=bind_some h;refine QH (fz:=[]) (Q7J _ v25 hv25) (.cons .lst .nil) ?_;replace ⟨a26,h⟩:=Q6 h;replace ⟨a27,h⟩:=Q6 h;(try simp only [List.length_append,List.length_cons,List.length_nil] at a27);simp [at_I a26,a27];(repeat with_reducible refine sdQ ?_);replace ⟨v28,hv28,h⟩:=bind_some h;refine Q29 (fz:=[]) false (Contract.toF1 (Q5W _ _ v28 hv28)) (PurK.ofL (.cons (.aggL (.cons .val (.cons .lst (.cons .lst (.cons .lst (.cons .lst .nil)))))) (.cons (.whole (by simp [IA,I1,LA,L1]) (by simp) (by simp)) .nil))) ?_;simp [at_I a26];(repeat with_reducible refine sdQ ?_);replace ⟨v29,hv29,h⟩:=bind_some h;refine Q3Y (fz:=[]) (ICon.frameL (e:={ v:=.own 7 0 v29.length,set:=[],del:=[2],new:=[(7,.mix 1 (Ls v29))],cnt:=1 }) (ih _ _ _ _ v29 hv29) [(0,0),(1,2)] (by rfl) (by simp) (by simp [rl,rlL,rlLL,rlE,rlE',back,mxt,look,trm,List.range,List.range.loop,QF,Cat.cells]) (by simp [rl,rlL,rlLL,rlE,rlE',back,mxt,look,trm,List.range,List.range.loop,QF,Cat.cells]) (by simp [Q32]) (by rfl) (by simp [rl,rlL,rlLL,rlE,rlE',back,mxt,look,trm,List.range,List.range.loop,QF,Cat.cells]) (by simp [rl,rlL,rlLL,rlE,rlE',back,mxt,look,trm,List.range,List.range.loop,QF,Cat.cells]) (by simp [rl,rlL,rlLL,rlE,rlE',back,mxt,look,trm,List.range,List.range.loop,QF,Cat.cells]) (by simp [rl,rlL,rlLL,rlE,rlE',back,mxt,look,trm,List.range,List.range.loop,QF,Cat.cells]) (by simp [Q32]) (by rfl) (fineI (by simp))) ?_;simp [at_I a26];(repeat refine sdQ ?_);refine hK _ (bn ?_);clear hK K;exact jn (b:=v29) (Option.some.inj h) (Wk.rP _ [(0,0),(7,2),(1,1)] hP (by rfl) (by simp [hhOk,back,Cat.cells,UA,U1,IA,I1,LA,L1,BA,B1,EA,E1,E2,eB,eI,eL]))
     have g24:¬ (¬ (v23=true)):=gQ;clear g;replace h:=if_r g24 h;refine Q9 (bn ?_);exact jn (b:=s19.1) (Option.some.inj h) (Wk.rP _ [(0,0),(2,2),(1,1)] hP (by rfl) (by simp [hhOk,back,Cat.cells,UA,U1,IA,I1,LA,L1,BA,B1,EA,E1,E2,eB,eI,eL]))
    intro b21 hb21;have h:=h21;(try rw [← hb21] at h);clear h21;(try dsimp only at h);refine Ql [] mo (by rw [hN];decide) fun K hK=>?_;replace ⟨a30,h⟩:=Q6 h;simp [QA a30];(repeat refine sdQ ?_);refine hK _ ?_;clear hK K;cases h;exact rn (s':=(b21,s19.2+1)) hk19 (Wk.rP _ [(0,0),(2,2),(1,1)] hP (by rfl) (by simp [hhOk,back,Cat.cells,UA,U1,IA,I1,LA,L1,BA,B1,EA,E1,E2,eB,eI,eL]))
   have g20:¬ (s19.2<(q1_.length:Int)):=gQ;clear g;replace h:=if_r g20 h;refine Qr (tx (lx (bh ?_)));cases h;exact jn (b:=s19.1) hk19 (Wk.rP _ [(0,0),(2,2),(1,1)] hP (by rfl) (by simp [hhOk,back,Cat.cells,UA,U1,IA,I1,LA,L1,BA,B1,EA,E1,E2,eB,eI,eL]))
  intro b7 hb7;have h:=h7;try rw [← hb7] at h
  clear h7;try dsimp only at h
  refine Q0 (Ql [] mo (by rw [hN];decide) fun K hK=>?_);simp;repeat refine sdQ ?_
  refine hK _ (tn (Q5 (st':=⟨[(8,.own 2 0 b7.length)],[(0,rI q1_),(2,.mix 1 (Ls b7))],3⟩) (Wk.rP _ [(0,0),(2,2),(1,1)] hP (by rfl) (by simp [hhOk,back,Cat.cells,UA,U1,IA,I1,LA,L1,BA,B1,EA,E1,E2,eB,eI,eL])) (Qj ?_)));clear hK K;have hq:=Option.some.inj h;clear h;subst hq;first|refine iw_r (st':=⟨[(8,.own 2 0 b7.length)],[(0,rI q1_),(2,.mix 1 (Ls b7))],3⟩) ?_ ?_|refine iw_n (st':=⟨[(8,.own 2 0 b7.length)],[(0,rI q1_),(2,.mix 1 (Ls b7))],3⟩) ?_ ?_
  ·exact Wk.rP _ [(0,0),(2,2),(1,1)] hP (by rfl) (by simp [hhOk,back,Cat.cells,UA,U1,IA,I1,LA,L1,BA,B1,EA,E1,E2,eB,eI,eL])
  exact ⟨by simp [QF],by simp,by simp [Cat.cells]⟩
attribute [local simp] unk unA unE unT unC flat eL eI Qk
noncomputable def Qz (t_:List Int) (c0_:List Int):Option Bool :=
 (Q2R c0_ t_).bind fun v1 =>
 some v1
theorem Q20 (t_:List Int) (c0_:List Int) (r:Bool) (h:Qz t_ c0_=some r):Contract Try.prog 120 [lI t_,.rptr [lI c0_]] (.val (.bool r)):=by
 refine Qg (rvs:=[.tmp 3]) (rs:=[.val (.bool r)]) Try.func120 rfl rfl rfl rfl (by simp [Try.f120]) fun F hN hP=>?_;unfold Qz at h;refine Q0 (runQ hN fun K hK=>?_);simp;repeat refine sdQ ?_
 refine hK _ ?_;clear hK K;refine tn (Q5 (st':=⟨[(0,lI t_),(1,.rptr [lI c0_])],[],0⟩) (wkQ8 []) (Q0 (runQ hN fun K hK=>?_)));simp;repeat with_reducible refine sdQ ?_
 replace ⟨v1,hv1,h⟩:=bind_some h;refine Q1 (Q7a _ _ v1 hv1) (.cons .lst (.cons .lst .nil)) ?_;simp;repeat refine sdQ ?_
 refine hK _ (tn (Q5 (st':=⟨[(3,.val (.bool v1))],[],0⟩) (wkQ8 []) (Qj ?_)));clear hK K;have hr:=Option.some.inj h;rw [← hr];refine ⟨_,(.tmp .nil),?_⟩;refine ⟨(.one rfl rfl .nil),[.val (.bool v1)],[],by simp [UA,U1,IA,I1,LA,L1,BA,B1,EA,E1,E2,eB,eI,eL],by simp,(UpL.refl _)⟩
attribute [local simp] unk unA unE unT unC flat eL eI Qk
noncomputable def Q4 (p0_:List (List Int)) (p1_0:List Int):Option Int :=
 (QR (σ:=Int) (ε:=Unit ⊕ Int) (fun s7 =>
  if s7<(p0_.length:Int) then
   ass (0≤s7∧s7<(p0_.length:Int)) <|
   (Qz (rx p0_ s7) p1_0).bind fun v10 =>
   if v10=true then
    some (Ctl.ret (Sum.inr s7))
   else
    ass (B64 (s7+1)) <|
    some (Ctl.next (s7+1))
  else
   some (Ctl.ret (Sum.inl ()))) fuel 0).bind fun e1 =>
 match e1 with
 | .inl b1 =>
  some (-1)
 | .inr p1 =>
  some p1
@[simp] abbrev Yj (a:List (List Int)) (b:List Int) (c:List (Nat × AV)):List (Nat × AV):=(0,.lst true 1 (Ls a))::(1,.fn 120 [.rptr [lI b]])::c
theorem Qq (p0_:List (List Int)) (p1_0:List Int) (r:Int) (h:Q4 p0_ p1_0=some r):Contract Try.prog 123 [.lst true 1 (Ls p0_),.fn 120 [.rptr [lI p1_0]]] (iV r):=by
 refine Qg (rvs:=[.tmp 4]) (rs:=[iV r]) Try.func123 rfl rfl rfl rfl (by simp [Try.f123]) fun F hN hP=>?_;unfold Q4 at h;refine Q0 (runQ hN fun K hK=>?_);simp;repeat refine sdQ ?_
 refine hK _ ?_;clear hK K;refine tn (Q5 (st':=⟨Yj p0_ p1_0 [],[],0⟩) (wkQ8 []) (Q0 (Q0 (runQ hN fun K hK=>?_))));simp;repeat refine sdQ ?_
 refine hK _ (tn (Q5 (st':=⟨Yj p0_ p1_0 [(7,iV (p0_.length:Int)),(8,iV 0)],[],0⟩) (wkQ8 []) ?_));clear hK K;replace ⟨e1,h,h1⟩:=bind_some h;refine Qv (fun b1:Unit=>⟨[],[],0⟩) (fun b1=>Sum.inl b1=e1) ?_ ?_
 ·refine Q7 (QM h (fun s7:Int=>⟨Yj p0_ p1_0 [(7,iV (p0_.length:Int)),(8,iV s7)],[],0⟩) (wkQ8 []) ?_);clear h;intro k7 s7 c7 h hk7;refine Q0 (runQ hN fun K hK=>?_);simp;repeat refine sdQ ?_
  refine hK _ ?_;clear hK K;refine tn (Q0 (Q8 rfl (fun g=>?_) fun g=>?_))
  ·have g8:s7<(p0_.length:Int):=gQ;clear g;replace h:=if_l g8 h;refine Q9 (tn (Q0 (Q7 (Q0 (runQ hN fun K hK=>?_)))));simp;(repeat refine sdQ ?_);refine hK _ ?_;clear hK K;refine tn (Q5 (st':=⟨Yj p0_ p1_0 [(5,iV s7),(7,iV (p0_.length:Int)),(8,iV s7)],[],0⟩) (wkQ8 []) (Q0 (runQ hN fun K hK=>?_)));replace ⟨a9,h⟩:=Q6 h;simp [at_L a9];(repeat with_reducible refine sdQ ?_);replace ⟨v10,hv10,h⟩:=bind_some h;refine Q1 (Q20 _ _ v10 hv10) (.cons .lst (.cons .rptr .nil)) ?_;simp [at_L a9];(repeat refine sdQ ?_);refine hK _ ?_;clear hK K;refine tn (Q5 (st':=⟨Yj p0_ p1_0 [(5,iV s7),(7,iV (p0_.length:Int)),(8,iV s7),(16,.val (.bool v10))],[],0⟩) (wkQ8 []) (Q8 rfl (fun g=>?_) fun g=>?_))
   ·have g11:v10=true:=gQ;clear g;replace h:=if_l g11 h;refine Q0 (runQ hN fun K hK=>?_);simp;(repeat refine sdQ ?_);refine hK _ (tn (Q5 (st':=⟨[(4,iV s7)],[],0⟩) (wkQ8 []) (Qj (br (tr (lr (br (tr ?_))))))));clear hK K;cases h;have q:_=e1:=hk7;have h:=h1;rw [← q] at h;clear q;(try dsimp only at h);have hr:=Option.some.inj h;rw [← hr];refine ⟨_,(.tmp .nil),?_⟩;refine ⟨(.one rfl rfl .nil),[iV s7],[],by simp [UA,U1,IA,I1,LA,L1,BA,B1,EA,E1,E2,eB,eI,eL],by simp,(UpL.refl _)⟩
   have g11:¬ (v10=true):=gQ;clear g;replace h:=if_r g11 h;refine Q9 (bn (tn (runQ hN fun K hK=>?_)));replace ⟨a12,h⟩:=Q6 h;simp [QA a12];(repeat refine sdQ ?_);refine hK _ ?_;clear hK K;cases h;exact rn (s':=s7+1) hk7 (wkQ8 [])
  have g8:¬ (s7<(p0_.length:Int)):=gQ;clear g;replace h:=if_r g8 h;refine Qr (tx (lx (bh ?_)));cases h;exact jn (b:=()) hk7 (wkQ8 [])
 intro b1 hb1;have h:=h1;try rw [← hb1] at h
 clear h1;try dsimp only at h
 refine Q0 (runQ hN fun K hK=>?_);simp;repeat refine sdQ ?_
 refine hK _ (tn (Q5 (st':=⟨[(4,iV (-1))],[],0⟩) (wkQ8 []) (Qj ?_)));clear hK K;have hr:=Option.some.inj h;rw [← hr];refine ⟨_,(.tmp .nil),?_⟩;refine ⟨(.one rfl rfl .nil),[iV (-1)],[],by simp [UA,U1,IA,I1,LA,L1,BA,B1,EA,E1,E2,eB,eI,eL],by simp,(UpL.refl _)⟩
attribute [local simp] unk unA unE unT unC flat eL eI Qk
noncomputable def Q2 (p0_:List (List Int)) (p1_0:List Int):Option Bool :=
 (Q4 p0_ p1_0).bind fun v1 =>
 some (decide (v1 ≥ 0))
theorem Qn (p0_:List (List Int)) (p1_0:List Int) (r:Bool) (h:Q2 p0_ p1_0=some r):Contract Try.prog 119 [.lst true 1 (Ls p0_),.fn 120 [.rptr [lI p1_0]]] (.val (.bool r)):=by
 refine Qg (rvs:=[.tmp 4]) (rs:=[.val (.bool r)]) Try.func119 rfl rfl rfl rfl (by simp [Try.f119]) fun F hN hP=>?_;unfold Q2 at h;refine Q0 (runQ hN fun K hK=>?_);simp;repeat refine sdQ ?_
 refine hK _ ?_;clear hK K;refine tn (Q5 (st':=⟨Yj p0_ p1_0 [],[],0⟩) (wkQ8 []) (Q0 (runQ hN fun K hK=>?_)));simp;repeat with_reducible refine sdQ ?_
 replace ⟨v1,hv1,h⟩:=bind_some h;refine Q1 (Qq _ _ v1 hv1) (.cons .lst (.cons (.fnL (by simp) (.cons .rptr .nil)) .nil)) ?_;simp;repeat refine sdQ ?_
 refine hK _ (tn (Q5 (st':=⟨[(4,.val (.bool (decide (v1 ≥ 0))))],[],0⟩) (wkQ8 []) (Qj ?_)));clear hK K;have hr:=Option.some.inj h;rw [← hr];refine ⟨_,(.tmp .nil),?_⟩;refine ⟨(.one rfl rfl .nil),[.val (.bool (decide (v1 ≥ 0)))],[],by simp [UA,U1,IA,I1,LA,L1,BA,B1,EA,E1,E2,eB,eI,eL],by simp,(UpL.refl _)⟩
attribute [local simp] unk unA unE unT unC flat eL eI Qk Q13 Cat.cells
noncomputable def Q1D (c_:Cat) (x_:Int):Option (List (List Int) × Bool) :=
 (Q2h c_ x_).bind fun v1 =>
 (QL 100 c_ v1 [] []).bind fun v2 =>
 (Q1s v2).bind fun v3 =>
 some (v3,decide ((v2.length:Int)≤16))
theorem Q7K (c_:Cat) (x_:Int) (r:List (List Int) × Bool) (h:Q1D c_ x_=some r):FContract Try.prog true 93 [.agg (c_.cells true),iV x_] (.tup [.lst true 1 (Ls r.1),.val (.bool r.2)]):=by
 refine Q2v true (ts:=[4,5]) (rs:=[.lst true 1 (Ls r.1),.val (.bool r.2)]) Try.func93 rfl rfl rfl rfl (by simp [Try.f93]) fun F hN hP hW=>?_;unfold Q1D at h;refine Q0 (Ql [2] mo (by rw [hN];decide) fun K hK=>?_);simp;repeat refine sdQ ?_
 refine hK _ ?_;clear hK K;refine tn (Q5 (st':=⟨[(1,iV x_),(2,.rptr (Cat.cells true c_))],[],0⟩) (wkQ8 []) (Q0 (w_runXR false [] [101] mo (by rw [hN];decide) fun K hK=>?_)));simp;repeat with_reducible refine sdQ ?_
 replace ⟨v1,hv1,h⟩:=bind_some h;refine QH (fz:=[]) (Q4R _ _ v1 hv1) (.cons (.aggL (.cons .val (.cons .lst (.cons .lst (.cons .lst (.cons .lst .nil)))))) (.cons .val .nil)) ?_;simp;repeat with_reducible refine sdQ ?_
 replace ⟨v2,hv2,h⟩:=bind_some h;refine Q3Y (fz:=[]) (ICon.preL (.eq (.eq (.nl (u:=true) (sz:=1) (.eq .nil)))) (ICon.frameL (e:={ v:=.own 3 0 v2.length,set:=[],del:=[2],new:=[(3,.mix 1 (Ls v2))],cnt:=1 }) (Q3X 100 _ _ _ _ v2 hv2) [(0,0),(1,2)] (by rfl) (by simp) (by simp [rl,rlL,rlLL,rlE,rlE',back,mxt,look,trm,List.range,List.range.loop,QF,Cat.cells]) (by simp [rl,rlL,rlLL,rlE,rlE',back,mxt,look,trm,List.range,List.range.loop,QF,Cat.cells]) (by simp [Q32]) (by rfl) (by simp [rl,rlL,rlLL,rlE,rlE',back,mxt,look,trm,List.range,List.range.loop,QF,Cat.cells]) (by simp [rl,rlL,rlLL,rlE,rlE',back,mxt,look,trm,List.range,List.range.loop,QF,Cat.cells]) (by simp [rl,rlL,rlLL,rlE,rlE',back,mxt,look,trm,List.range,List.range.loop,QF,Cat.cells]) (by simp [rl,rlL,rlLL,rlE,rlE',back,mxt,look,trm,List.range,List.range.loop,QF,Cat.cells]) (by simp [Q32]) (by rfl) (fineI (by simp)))) ?_;simp;repeat refine sdQ ?_
 refine hK _ ?_;clear hK K;refine tn (Q5 (st':=⟨[(6,.own 0 0 v2.length)],[(0,.mix 1 (Ls v2))],1⟩) (wkQ8 [(3,0)]) (Q0 (Q5 (st':=⟨[(6,.lst true 1 (Ls v2))],[],1⟩) (Wk.frzL hW (j:=0) rfl (Q1m (by simp [Cat.cells,eL,Q13])) (by simp [St.get,look]) rfl (by simp [look])) (Ql [] mo (by rw [hN];decide) fun K hK=>?_))));simp;repeat with_reducible refine sdQ ?_
 replace ⟨v3,hv3,h⟩:=bind_some h;refine Q29 (fz:=[]) true (Q5h _ v3 hv3) (PurK.ofN (.cons .lst .nil)) ?_;simp;repeat refine sdQ ?_
 refine hK _ (tn (Q5 (st':=⟨[(4,.lst true 1 (Ls v3)),(5,.val (.bool (decide ((v2.length:Int)≤16))))],[],0⟩) (wkQ8 []) (Qj ?_)));clear hK K;have hr:=Option.some.inj h;rw [← hr];exact (.two .lst (.two .val .nil))
attribute [local simp] unk unA unE unT unC flat eL eI Qk
noncomputable def Q3E (list_:List Int) (n_:Int):Option Bool :=
 (QR (σ:=Int) (ε:=Unit ⊕ Bool) (fun s6 =>
  if s6<(list_.length:Int) then
   ass (0≤s6∧s6<(list_.length:Int)) <|
   if (ix list_ s6)=n_ then
    some (Ctl.ret (Sum.inr true))
   else
    ass (B64 (s6+1)) <|
    some (Ctl.next (s6+1))
  else
   some (Ctl.ret (Sum.inl ()))) fuel 0).bind fun e1 =>
 match e1 with
 | .inl b1 =>
  some false
 | .inr p1 =>
  some p1
theorem w_i_has (list_:List Int) (n_:Int) (r:Bool) (h:Q3E list_ n_=some r):Contract Try.prog 125 [lI list_,iV n_] (.val (.bool r)):=by
 refine Qg (rvs:=[.tmp 4]) (rs:=[.val (.bool r)]) Try.func125 rfl rfl rfl rfl (by simp [Try.f125]) fun F hN hP=>?_;unfold Q3E at h;refine Q0 (runQ hN fun K hK=>?_);simp;repeat refine sdQ ?_
 refine hK _ ?_;clear hK K;refine tn (Q5 (st':=⟨[(0,lI list_),(1,iV n_)],[],0⟩) (wkQ8 []) (Q0 (Q0 (runQ hN fun K hK=>?_))));simp;repeat refine sdQ ?_
 refine hK _ (tn (Q5 (st':=⟨[(1,iV n_),(7,lI list_),(8,iV (list_.length:Int)),(9,iV 0)],[],0⟩) (wkQ8 []) ?_));clear hK K;replace ⟨e1,h,h1⟩:=bind_some h;refine Qv (fun b1:Unit=>⟨[],[],0⟩) (fun b1=>Sum.inl b1=e1) ?_ ?_
 ·refine Q7 (QM h (fun s6:Int=>⟨[(1,iV n_),(7,lI list_),(8,iV (list_.length:Int)),(9,iV s6)],[],0⟩) (wkQ8 []) ?_);clear h;intro k6 s6 c6 h hk6;refine Q0 (runQ hN fun K hK=>?_);simp;repeat refine sdQ ?_
  refine hK _ ?_;clear hK K;refine tn (Q0 (Q8 rfl (fun g=>?_) fun g=>?_))
  ·have g7:s6<(list_.length:Int):=gQ;clear g;replace h:=if_l g7 h;refine Q9 (tn (Q0 (Q7 (Q0 (runQ hN fun K hK=>?_)))));replace ⟨a8,h⟩:=Q6 h;simp [at_I a8];(repeat refine sdQ ?_);refine hK _ ?_;clear hK K;refine tn (Q5 (st':=⟨[(1,iV n_),(6,iV (ix list_ s6)),(7,lI list_),(8,iV (list_.length:Int)),(9,iV s6)],[],0⟩) (wkQ8 []) (Q0 (runQ hN fun K hK=>?_)));simp;(repeat refine sdQ ?_);refine hK _ ?_;clear hK K;refine tn (Q8 rfl (fun g=>?_) fun g=>?_)
   ·have g9:(ix list_ s6)=n_:=gQ;clear g;replace h:=if_l g9 h;refine Q0 (runQ hN fun K hK=>?_);simp;(repeat refine sdQ ?_);refine hK _ (tn (Q5 (st':=⟨[(4,.val (.bool true))],[],0⟩) (wkQ8 []) (Qj (br (tr (lr (br (tr ?_))))))));clear hK K;cases h;have q:_=e1:=hk6;have h:=h1;rw [← q] at h;clear q;(try dsimp only at h);have hr:=Option.some.inj h;rw [← hr];refine ⟨_,(.tmp .nil),?_⟩;refine ⟨(.one rfl rfl .nil),[.val (.bool true)],[],by simp [UA,U1,IA,I1,LA,L1,BA,B1,EA,E1,E2,eB,eI,eL],by simp,(UpL.refl _)⟩
   have g9:¬ ((ix list_ s6)=n_):=gQ;clear g;replace h:=if_r g9 h;refine Q9 (bn (tn (runQ hN fun K hK=>?_)));replace ⟨a10,h⟩:=Q6 h;simp [QA a10];(repeat refine sdQ ?_);refine hK _ ?_;clear hK K;cases h;exact rn (s':=s6+1) hk6 (wkQ8 [])
  have g7:¬ (s6<(list_.length:Int)):=gQ;clear g;replace h:=if_r g7 h;refine Qr (tx (lx (bh ?_)));cases h;exact jn (b:=()) hk6 (wkQ8 [])
 intro b1 hb1;have h:=h1;try rw [← hb1] at h
 clear h1;try dsimp only at h
 refine Q0 (runQ hN fun K hK=>?_);simp;repeat refine sdQ ?_
 refine hK _ (tn (Q5 (st':=⟨[(4,.val (.bool false))],[],0⟩) (wkQ8 []) (Qj ?_)));clear hK K;have hr:=Option.some.inj h;rw [← hr];refine ⟨_,(.tmp .nil),?_⟩;refine ⟨(.one rfl rfl .nil),[.val (.bool false)],[],by simp [UA,U1,IA,I1,LA,L1,BA,B1,EA,E1,E2,eB,eI,eL],by simp,(UpL.refl _)⟩
attribute [local simp] unk unA unE unT unC flat eL eI Qk Q13 Cat.cells
noncomputable def QZ (c_:Cat) (a_:Int) (s_:List Int):Option (List Int) :=
 ass (0≤a_∧a_<(c_.to.length:Int)) <|
 (QE c_ (ix c_.to a_)).bind fun v2 =>
 (QR (σ:=List Int × Int) (ε:=List Int) (fun s12 =>
  if s12.2<(v2.length:Int) then
   (
    ass (0≤s12.2∧s12.2<(v2.length:Int)) <|
    (QI c_ a_ (ix v2 s12.2)).bind fun v16 =>
    (Q3E s_ v16).bind fun v17 =>
    if v17=true then
     ass ((s12.1++[ix v2 s12.2]).length≤1073741824) <|
     some (s12.1++[ix v2 s12.2])
    else
     some s12.1:Option (List Int)).bind fun b14 =>
   ass (B64 (s12.2+1)) <|
   some (Ctl.next (b14,s12.2+1))
  else
   some (Ctl.ret s12.1)) fuel ([],0)).bind fun b3 =>
 some b3
@[simp] abbrev Ye (a:List Int) (b:List (Nat × AV)):List (Nat × AV):=(19,.own 1 0 a.length)::(20,iV (a.length:Int))::b
theorem Q3H (c_:Cat) (a_:Int) (s_:List Int) (r:List Int) (h:QZ c_ a_ s_=some r):Contract Try.prog 100 [.rptr (c_.cells true),iV a_,lI s_] (lI r):=by
 refine Qg (rvs:=[.tmp 6]) (rs:=[lI r]) Try.func100 rfl rfl rfl rfl (by simp [Try.f100]) fun F hN hP=>?_;unfold QZ at h;refine Q0 (runQ hN fun K hK=>?_);simp;repeat refine sdQ ?_
 refine hK _ ?_;clear hK K;refine tn (Q5 (st':=⟨Y3 c_ [(1,iV a_),(2,lI s_)],[],0⟩) (wkQ8 []) (Q0 (runQ hN fun K hK=>?_)));simp;repeat refine sdQ ?_
 refine hK _ ?_;clear hK K;refine tn (Q5 (st':=⟨Y3 c_ [(1,iV a_),(2,lI s_),(7,.own 0 0 0)],[(0,.mix 1 [])],1⟩) (wkQ8 [(0,0)]) (Q0 (Q0 (runQ hN fun K hK=>?_))));replace ⟨a1,h⟩:=Q6 h;simp [at_I a1];repeat with_reducible refine sdQ ?_
 replace ⟨v2,hv2,h⟩:=bind_some h;refine Q1 (Q1v _ _ v2 hv2) (.cons (.preT (by simp [Cat.cells])) (.cons .val .nil)) ?_;simp [at_I a1];repeat refine sdQ ?_
 refine hK _ (tn (Q5 (st':=⟨Y3 c_ ((1,iV a_)::(2,lI s_)::(7,.own 0 0 0)::Ye v2 [(21,iV 0)]),[(0,.mix 1 []),(1,rI v2)],2⟩) (wkQ8 [(0,0),(1,1)]) ?_));clear hK K;replace ⟨e3,h,h3⟩:=bind_some h;refine Qv (fun b3:List Int=>⟨[(7,.own 0 0 b3.length)],[(0,rI b3)],1⟩) (fun b3=>b3=e3) ?_ ?_
 ·refine Q7 (QM h (fun s12:List Int × Int=>⟨Y3 c_ ((1,iV a_)::(2,lI s_)::(7,.own 0 0 s12.1.length)::Ye v2 [(21,iV s12.2)]),[(0,rI s12.1),(1,rI v2)],2⟩) (Q4B ⟨Y3 c_ ((1,iV a_)::(2,lI s_)::(7,.own 0 0 0)::Ye v2 [(21,iV 0)]),[(0,rI []),(1,rI v2)],2⟩ (Wk.nils [] (by simp) (by simp) (by simp [nlA]) (by simp [entN,nlL,nlA,Cat.cells,UA,U1,IA,I1,LA,L1,BA,B1,EA,E1,E2,eB,eI,eL]) (by simp)) (wkQ8 [(0,0),(1,1)])) ?_);clear h;intro k12 s12 c12 h hk12;refine Q0 (runQ hN fun K hK=>?_);simp;repeat refine sdQ ?_
  refine hK _ ?_;clear hK K;refine tn (Q0 (Q8 rfl (fun g=>?_) fun g=>?_))
  ·have g13:s12.2<(v2.length:Int):=gQ;clear g;replace h:=if_l g13 h;refine Q9 (tn (Q0 ?_));replace ⟨e14,h,h14⟩:=bind_some h;refine Qv (fun b14:List Int=>⟨Y3 c_ ((1,iV a_)::(2,lI s_)::(7,.own 0 0 b14.length)::Ye v2 [(21,iV s12.2)]),[(0,rI b14),(1,rI v2)],2⟩) (fun b14=>b14=e14) ?_ ?_
   ·refine Q7 (Q0 (runQ hN fun K hK=>?_));replace ⟨a15,h⟩:=Q6 h;simp [at_I a15];(repeat refine sdQ ?_);refine hK _ ?_;clear hK K;refine tn (Q5 (st':=⟨Y3 c_ ((1,iV a_)::(2,lI s_)::(7,.own 0 0 s12.1.length)::(9,iV (ix v2 s12.2))::Ye v2 [(21,iV s12.2)]),[(0,rI s12.1),(1,rI v2)],2⟩) (wkQ8 [(0,0),(1,1)]) (Q0 (runQ hN fun K hK=>?_)));simp;(repeat with_reducible refine sdQ ?_);replace ⟨v16,hv16,h⟩:=bind_some h;refine Q1 (Q2i _ _ _ v16 hv16) (.cons (.preT (by simp [Cat.cells])) (.cons .val (.cons .val .nil))) ?_;simp;(repeat with_reducible refine sdQ ?_);replace ⟨v17,hv17,h⟩:=bind_some h;refine Q1 (w_i_has _ _ v17 hv17) (.cons .lst (.cons .val .nil)) ?_;simp;(repeat refine sdQ ?_);refine hK _ ?_;clear hK K;refine tn (Q5 (st':=⟨Y3 c_ ((1,iV a_)::(2,lI s_)::(7,.own 0 0 s12.1.length)::(9,iV (ix v2 s12.2))::Ye v2 [(21,iV s12.2),(30,.val (.bool v17))]),[(0,rI s12.1),(1,rI v2)],2⟩) (wkQ8 [(0,0),(1,1)]) (Q8 rfl (fun g=>?_) fun g=>?_))
    ·have g18:v17=true:=gQ;clear g;replace h:=if_l g18 h;refine runQ hN fun K hK=>?_;replace ⟨a19,h⟩:=Q6 h;(try simp only [List.length_append,List.length_cons,List.length_nil] at a19);simp [a19];(repeat refine sdQ ?_);refine hK _ (bn ?_);clear hK K;exact jn (b:=s12.1++[ix v2 s12.2]) (Option.some.inj h) (wkQ8 [(3,0),(1,1)])
    have g18:¬ (v17=true):=gQ;clear g;replace h:=if_r g18 h;refine Q9 (bn ?_);exact jn (b:=s12.1) (Option.some.inj h) (wkQ8 [(0,0),(1,1)])
   intro b14 hb14;have h:=h14;(try rw [← hb14] at h);clear h14;(try dsimp only at h);refine runQ hN fun K hK=>?_;replace ⟨a20,h⟩:=Q6 h;simp [QA a20];(repeat refine sdQ ?_);refine hK _ ?_;clear hK K;cases h;exact rn (s':=(b14,s12.2+1)) hk12 (wkQ8 [(0,0),(1,1)])
  have g13:¬ (s12.2<(v2.length:Int)):=gQ;clear g;replace h:=if_r g13 h;refine Qr (tx (lx (bh ?_)));cases h;exact jn (b:=s12.1) hk12 (wkQ8 [(0,0)])
 intro b3 hb3;have h:=h3;try rw [← hb3] at h
 clear h3;try dsimp only at h
 refine Q0 (runQ hN fun K hK=>?_);simp;repeat refine sdQ ?_
 refine hK _ (tn (Q5 (st':=⟨[(6,.own 0 0 b3.length)],[(0,rI b3)],1⟩) (wkQ8 [(0,0)]) (Qj ?_)));clear hK K;have hr:=Option.some.inj h;rw [← hr];refine ⟨_,(.tmp .nil),?_⟩;refine ⟨(.one rfl rfl .nil),[lI b3],[0],by simp [Cat.cells,UA,U1,IA,I1,LA,L1,BA,B1,EA,E1,E2,eB,eI,eL],by simp,(UpL.refl _)⟩
attribute [local simp] unk unA unE unT unC flat eL eI Qk
noncomputable def Qt (t_:List Int) (c0_:List Int):Option Bool :=
 (Q2R c0_ t_).bind fun v1 =>
 some v1
theorem Q1Q (t_:List Int) (c0_:List Int) (r:Bool) (h:Qt t_ c0_=some r):Contract Try.prog 124 [lI t_,.rptr [lI c0_]] (.val (.bool r)):=by
 refine Qg (rvs:=[.tmp 3]) (rs:=[.val (.bool r)]) Try.func124 rfl rfl rfl rfl (by simp [Try.f124]) fun F hN hP=>?_;unfold Qt at h;refine Q0 (runQ hN fun K hK=>?_);simp;repeat refine sdQ ?_
 refine hK _ ?_;clear hK K;refine tn (Q5 (st':=⟨[(0,lI t_),(1,.rptr [lI c0_])],[],0⟩) (wkQ8 []) (Q0 (runQ hN fun K hK=>?_)));simp;repeat with_reducible refine sdQ ?_
 replace ⟨v1,hv1,h⟩:=bind_some h;refine Q1 (Q7a _ _ v1 hv1) (.cons .lst (.cons .lst .nil)) ?_;simp;repeat refine sdQ ?_
 refine hK _ (tn (Q5 (st':=⟨[(3,.val (.bool v1))],[],0⟩) (wkQ8 []) (Qj ?_)));clear hK K;have hr:=Option.some.inj h;rw [← hr];refine ⟨_,(.tmp .nil),?_⟩;refine ⟨(.one rfl rfl .nil),[.val (.bool v1)],[],by simp [UA,U1,IA,I1,LA,L1,BA,B1,EA,E1,E2,eB,eI,eL],by simp,(UpL.refl _)⟩
attribute [local simp] unk unA unE unT unC flat eL eI Qk
noncomputable def Q3 (p0_:List (List Int)) (p1_0:List Int):Option Int :=
 (QR (σ:=Int) (ε:=Unit ⊕ Int) (fun s7 =>
  if s7<(p0_.length:Int) then
   ass (0≤s7∧s7<(p0_.length:Int)) <|
   (Qt (rx p0_ s7) p1_0).bind fun v10 =>
   if v10=true then
    some (Ctl.ret (Sum.inr s7))
   else
    ass (B64 (s7+1)) <|
    some (Ctl.next (s7+1))
  else
   some (Ctl.ret (Sum.inl ()))) fuel 0).bind fun e1 =>
 match e1 with
 | .inl b1 =>
  some (-1)
 | .inr p1 =>
  some p1
theorem Qo (p0_:List (List Int)) (p1_0:List Int) (r:Int) (h:Q3 p0_ p1_0=some r):Contract Try.prog 123 [.lst true 1 (Ls p0_),.fn 124 [.rptr [lI p1_0]]] (iV r):=by
 refine Qg (rvs:=[.tmp 4]) (rs:=[iV r]) Try.func123 rfl rfl rfl rfl (by simp [Try.f123]) fun F hN hP=>?_;unfold Q3 at h;refine Q0 (runQ hN fun K hK=>?_);simp;repeat refine sdQ ?_
 refine hK _ ?_;clear hK K;refine tn (Q5 (st':=⟨[(0,.lst true 1 (Ls p0_)),(1,.fn 124 [.rptr [lI p1_0]])],[],0⟩) (wkQ8 []) (Q0 (Q0 (runQ hN fun K hK=>?_))));simp;repeat refine sdQ ?_
 refine hK _ (tn (Q5 (st':=⟨[(0,.lst true 1 (Ls p0_)),(1,.fn 124 [.rptr [lI p1_0]]),(7,iV (p0_.length:Int)),(8,iV 0)],[],0⟩) (wkQ8 []) ?_));clear hK K;replace ⟨e1,h,h1⟩:=bind_some h;refine Qv (fun b1:Unit=>⟨[],[],0⟩) (fun b1=>Sum.inl b1=e1) ?_ ?_
 ·refine Q7 (QM h (fun s7:Int=>⟨[(0,.lst true 1 (Ls p0_)),(1,.fn 124 [.rptr [lI p1_0]]),(7,iV (p0_.length:Int)),(8,iV s7)],[],0⟩) (wkQ8 []) ?_);clear h;intro k7 s7 c7 h hk7;refine Q0 (runQ hN fun K hK=>?_);simp;repeat refine sdQ ?_
  refine hK _ ?_;clear hK K;refine tn (Q0 (Q8 rfl (fun g=>?_) fun g=>?_))
  ·have g8:s7<(p0_.length:Int):=gQ;clear g;replace h:=if_l g8 h;refine Q9 (tn (Q0 (Q7 (Q0 (runQ hN fun K hK=>?_)))));simp;(repeat refine sdQ ?_);refine hK _ ?_;clear hK K;refine tn (Q5 (st':=⟨[(0,.lst true 1 (Ls p0_)),(1,.fn 124 [.rptr [lI p1_0]]),(5,iV s7),(7,iV (p0_.length:Int)),(8,iV s7)],[],0⟩) (wkQ8 []) (Q0 (runQ hN fun K hK=>?_)));replace ⟨a9,h⟩:=Q6 h;simp [at_L a9];(repeat with_reducible refine sdQ ?_);replace ⟨v10,hv10,h⟩:=bind_some h;refine Q1 (Q1Q _ _ v10 hv10) (.cons .lst (.cons .rptr .nil)) ?_;simp [at_L a9];(repeat refine sdQ ?_);refine hK _ ?_;clear hK K;refine tn (Q5 (st':=⟨[(0,.lst true 1 (Ls p0_)),(1,.fn 124 [.rptr [lI p1_0]]),(5,iV s7),(7,iV (p0_.length:Int)),(8,iV s7),(16,.val (.bool v10))],[],0⟩) (wkQ8 []) (Q8 rfl (fun g=>?_) fun g=>?_))
   ·have g11:v10=true:=gQ;clear g;replace h:=if_l g11 h;refine Q0 (runQ hN fun K hK=>?_);simp;(repeat refine sdQ ?_);refine hK _ (tn (Q5 (st':=⟨[(4,iV s7)],[],0⟩) (wkQ8 []) (Qj (br (tr (lr (br (tr ?_))))))));clear hK K;cases h;have q:_=e1:=hk7;have h:=h1;rw [← q] at h;clear q;(try dsimp only at h);have hr:=Option.some.inj h;rw [← hr];refine ⟨_,(.tmp .nil),?_⟩;refine ⟨(.one rfl rfl .nil),[iV s7],[],by simp [UA,U1,IA,I1,LA,L1,BA,B1,EA,E1,E2,eB,eI,eL],by simp,(UpL.refl _)⟩
   have g11:¬ (v10=true):=gQ;clear g;replace h:=if_r g11 h;refine Q9 (bn (tn (runQ hN fun K hK=>?_)));replace ⟨a12,h⟩:=Q6 h;simp [QA a12];(repeat refine sdQ ?_);refine hK _ ?_;clear hK K;cases h;exact rn (s':=s7+1) hk7 (wkQ8 [])
  have g8:¬ (s7<(p0_.length:Int)):=gQ;clear g;replace h:=if_r g8 h;refine Qr (tx (lx (bh ?_)));cases h;exact jn (b:=()) hk7 (wkQ8 [])
 intro b1 hb1;have h:=h1;try rw [← hb1] at h
 clear h1;try dsimp only at h
 refine Q0 (runQ hN fun K hK=>?_);simp;repeat refine sdQ ?_
 refine hK _ (tn (Q5 (st':=⟨[(4,iV (-1))],[],0⟩) (wkQ8 []) (Qj ?_)));clear hK K;have hr:=Option.some.inj h;rw [← hr];refine ⟨_,(.tmp .nil),?_⟩;refine ⟨(.one rfl rfl .nil),[iV (-1)],[],by simp [UA,U1,IA,I1,LA,L1,BA,B1,EA,E1,E2,eB,eI,eL],by simp,(UpL.refl _)⟩
attribute [local simp] unk unA unE unT unC flat eL eI Qk Qf XClassifier.cells
noncomputable def QV (k_:XClassifier) (x_:Int) (s_:List Int):Option Int :=
 ass (0≤x_∧x_<(k_.sieves_.length:Int)) <|
 (Q3 (gx k_.sieves_ x_) s_).bind fun v2 =>
 some v2
@[simp] abbrev Ya (a:XClassifier) (b:List (Nat × AV)):List (Nat × AV):=(0,.rptr (XClassifier.cells true a))::b
theorem Q2K (k_:XClassifier) (x_:Int) (s_:List Int) (r:Int) (h:QV k_ x_ s_=some r):Contract Try.prog 99 [.rptr (k_.cells true),iV x_,lI s_] (iV r):=by
 refine Qg (rvs:=[.tmp 6]) (rs:=[iV r]) Try.func99 rfl rfl rfl rfl (by simp [Try.f99]) fun F hN hP=>?_;unfold QV at h;refine Q0 (runQ hN fun K hK=>?_);simp;repeat refine sdQ ?_
 refine hK _ ?_;clear hK K;refine tn (Q5 (st':=⟨Ya k_ [(1,iV x_),(5,.adr 0 0 0)],[(0,.mix 1 [[lI s_]])],1⟩) (wkQ8 [(0,0)]) (Q0 (Ql [] mo (by rw [hN];decide) fun K hK=>?_)));replace ⟨a1,h⟩:=Q6 h;simp [at_E (c:=eL) a1];repeat with_reducible refine sdQ ?_
 replace ⟨v2,hv2,h⟩:=bind_some h;refine QH (fz:=[]) (Qo _ _ v2 hv2) (.cons .lst (.cons (.fnL (by simp) (.cons (.field rfl (by simp [XClassifier.cells]) (.cons .lst .nil)) .nil)) .nil)) ?_;simp [at_E (c:=eL) a1];repeat refine sdQ ?_
 refine hK _ (tn (Q5 (st':=⟨[(6,iV v2)],[],0⟩) (wkQ8 []) (Qj ?_)));clear hK K;have hr:=Option.some.inj h;rw [← hr];refine ⟨_,(.tmp .nil),?_⟩;refine ⟨(.one rfl rfl .nil),[iV v2],[],by simp [XClassifier.cells,UA,U1,IA,I1,LA,L1,BA,B1,EA,E1,E2,eB,eI,eL,Qx _ Qf _ (fun _=>rfl)],by simp,(UpL.refl _)⟩
attribute [local simp] unk unA unE unT unC flat eL eI Qk Q13 Cat.cells
noncomputable def Q1n (c_:Cat):Option (List (List (List Int)) × Bool) :=
 (QR (σ:=List (List (List Int)) × Int) (ε:=(List (List (List Int))) ⊕ (List (List (List Int)) × Bool)) (fun s7 =>
  if s7.2<c_.n then
   (Q1D c_ s7.2).bind fun v9 =>
   if ¬ (v9.2=true) then
    some (Ctl.ret (Sum.inr ([],false)))
   else
    ass ((s7.1++[v9.1]).length≤1073741824) <|
    ass (B64 (s7.2+1)) <|
    some (Ctl.next (s7.1++[v9.1],s7.2+1))
  else
   some (Ctl.ret (Sum.inl s7.1))) fuel ([],0)).bind fun e1 =>
 match e1 with
 | .inl b1 =>
  some (b1,true)
 | .inr p1 =>
  some p1
@[simp] abbrev Yi (a:Cat) (b:List (Nat × AV)):List (Nat × AV):=(1,.rptr (Cat.cells true a))::b
theorem Q5X (c_:Cat) (r:List (List (List Int)) × Bool) (h:Q1n c_=some r):FContract Try.prog true 55 [.agg (c_.cells true)] (.tup [.lst true 1 (Es eL r.1),.val (.bool r.2)]):=by
 refine Q2D true (ts:=[2,3]) (rs:=[.lst true 1 (Es eL r.1),.val (.bool r.2)]) Try.func55 rfl rfl rfl rfl (by simp [Try.f55]) fun F hN hP=>?_;unfold Q1n at h;refine Q0 (Ql [1] mo (by rw [hN];decide) fun K hK=>?_);simp;repeat refine sdQ ?_
 refine hK _ ?_;clear hK K;refine tn (Q5 (st':=⟨Yi c_ [],[],0⟩) (wkQ8 []) (Q0 (Ql [] mo (by rw [hN];decide) fun K hK=>?_)));simp;repeat refine sdQ ?_
 refine hK _ ?_;clear hK K;refine tn (Q5 (st':=⟨Yi c_ [(4,.own 0 0 0)],[(0,.mix 1 [])],1⟩) (wkQ8 [(0,0)]) (Q0 (Q0 (Ql [] mo (by rw [hN];decide) fun K hK=>?_))));simp;repeat refine sdQ ?_
 refine hK _ (tn (Q5 (st':=⟨Yi c_ [(4,.own 0 0 0),(5,iV 0)],[(0,.mix 1 [])],1⟩) (wkQ8 [(0,0)]) ?_));clear hK K;replace ⟨e1,h,h1⟩:=bind_some h;refine Qv (fun b1:List (List (List Int))=>⟨[(4,.own 0 0 b1.length)],[(0,.mix 1 (Es eL b1))],1⟩) (fun b1=>Sum.inl b1=e1) ?_ ?_
 ·refine Q7 (QM h (fun s7:List (List (List Int)) × Int=>⟨Yi c_ [(4,.own 0 0 s7.1.length),(5,iV s7.2)],[(0,.mix 1 (Es eL s7.1))],1⟩) (wkQ8 [(0,0)]) ?_);clear h;intro k7 s7 c7 h hk7;refine Q0 (Q0 (Ql [] mo (by rw [hN];decide) fun K hK=>?_));simp;repeat refine sdQ ?_
  refine hK _ ?_;clear hK K;refine tn (Q8 rfl (fun g=>?_) fun g=>?_)
  ·have g8:s7.2<c_.n:=gQ;clear g;replace h:=if_l g8 h;refine Q9 (tn (Q0 (Q7 (Q0 (Ql [] mo (by rw [hN];decide) fun K hK=>?_)))));simp;(repeat with_reducible refine sdQ ?_);replace ⟨v9,hv9,h⟩:=bind_some h;refine Q29 (fz:=[]) true (Q7K _ _ v9 hv9) (PurK.ofN (.cons (.aggL (.cons .val (.cons .lst (.cons .lst (.cons .lst (.cons .lst .nil)))))) (.cons .val .nil))) ?_;simp;(repeat refine sdQ ?_);refine hK _ ?_;clear hK K;refine tn (Q5 (st':=⟨Yi c_ [(4,.own 0 0 s7.1.length),(5,iV s7.2),(6,.lst true 1 (Ls v9.1)),(7,.val (.bool v9.2))],[(0,.mix 1 (Es eL s7.1))],1⟩) (wkQ8 [(0,0)]) (Q0 (Q0 (Ql [] mo (by rw [hN];decide) fun K hK=>?_))));simp;(repeat refine sdQ ?_);refine hK _ ?_;clear hK K;refine tn (Q8 rfl (fun g=>?_) fun g=>?_)
   ·have g10:¬ (v9.2=true):=gQ;clear g;replace h:=if_l g10 h;refine Q0 (Ql [] mo (by rw [hN];decide) fun K hK=>?_);simp;(repeat refine sdQ ?_);refine hK _ (tn (Q5 (st':=⟨[(2,nS),(3,.val (.bool false))],[],0⟩) (wkQ8 []) (Qj (tr (br (tr (lr (br (tr ?_)))))))));clear hK K;cases h;have q:_=e1:=hk7;have h:=h1;rw [← q] at h;clear q;(try dsimp only at h);have hr:=Option.some.inj h;rw [← hr];exact (.two .nil (.two .val .nil))
   have g10:¬ (¬ (v9.2=true)):=gQ;clear g;replace h:=if_r g10 h;refine Q9 (tn (Ql [26] mo (by rw [hN];decide) fun K hK=>?_));replace ⟨a11,h⟩:=Q6 h;(try simp only [List.length_append,List.length_cons,List.length_nil] at a11);simp [a11];(repeat refine sdQ ?_);refine hK _ ?_;clear hK K;refine bn (tn (Q5 (st':=⟨Yi c_ [(4,.own 0 0 ((s7.1++[v9.1]).length)),(5,iV s7.2)],[(0,.mix 1 (Es eL (s7.1++[v9.1])))],1⟩) (wkQ8 [(2,0)]) (Ql [] mo (by rw [hN];decide) fun K hK=>?_)));replace ⟨a12,h⟩:=Q6 h;simp [QA a12];(repeat refine sdQ ?_);refine hK _ ?_;clear hK K;cases h;exact rn (s':=(s7.1++[v9.1],s7.2+1)) hk7 (wkQ8 [(0,0)])
  have g8:¬ (s7.2<c_.n):=gQ;clear g;replace h:=if_r g8 h;refine Qr (tx (lx (bh ?_)));cases h;exact jn (b:=s7.1) hk7 (wkQ8 [(0,0)])
 intro b1 hb1;have h:=h1;try rw [← hb1] at h
 clear h1;try dsimp only at h
 refine Q0 (Ql [] mo (by rw [hN];decide) fun K hK=>?_);simp;repeat refine sdQ ?_
 refine hK _ (tn (Q5 (st':=⟨[(2,.own 0 0 b1.length),(3,.val (.bool true))],[(0,.mix 1 (Es eL b1))],1⟩) (wkQ8 [(0,0)]) (Qj ?_)));clear hK K;have hr:=Option.some.inj h;rw [← hr];exact (.two (.smix rfl (by simp) (Q1m (by simp [eL,Cat.cells,Q13]))) (.two .val .nil))
attribute [local simp] unk unA unE unT unC flat eL eI Qk Q13 Cat.cells
noncomputable def QY (s_:List Int) (c_:Cat) (x_:Int):Option Bool :=
 ass (0≤x_∧x_<(c_.id.length:Int)) <|
 (Q3E s_ (ix c_.id x_)).bind fun v2 =>
 some v2
theorem Q2Y (s_:List Int) (c_:Cat) (x_:Int) (r:Bool) (h:QY s_ c_ x_=some r):Contract Try.prog 165 [lI s_,.rptr (c_.cells true),iV x_] (.val (.bool r)):=by
 refine Qg (rvs:=[.tmp 6]) (rs:=[.val (.bool r)]) Try.func165 rfl rfl rfl rfl (by simp [Try.f165]) fun F hN hP=>?_;unfold QY at h;refine Q0 (runQ hN fun K hK=>?_);simp;repeat refine sdQ ?_
 refine hK _ ?_;clear hK K;refine tn (Q5 (st':=⟨(0,lI s_)::Yi c_ [(2,iV x_)],[],0⟩) (wkQ8 []) (Q0 (runQ hN fun K hK=>?_)));replace ⟨a1,h⟩:=Q6 h;simp [at_I a1];repeat with_reducible refine sdQ ?_
 replace ⟨v2,hv2,h⟩:=bind_some h;refine Q1 (w_i_has _ _ v2 hv2) (.cons .lst (.cons .val .nil)) ?_;simp [at_I a1];repeat refine sdQ ?_
 refine hK _ (tn (Q5 (st':=⟨[(6,.val (.bool v2))],[],0⟩) (wkQ8 []) (Qj ?_)));clear hK K;have hr:=Option.some.inj h;rw [← hr];refine ⟨_,(.tmp .nil),?_⟩;refine ⟨(.one rfl rfl .nil),[.val (.bool v2)],[],by simp [Cat.cells,UA,U1,IA,I1,LA,L1,BA,B1,EA,E1,E2,eB,eI,eL],by simp,(UpL.refl _)⟩
attribute [local simp] unk unA unE unT unC flat eL eI Qk Q13 Cat.cells
noncomputable def Q4r (c_:Cat) (x_:Int) (s_:List Int):Option Bool :=
 (
  (QY s_ c_ x_).bind fun v2 =>
  some v2:Option (Bool)).bind fun b1 =>
 some b1
theorem w_i_all (c_:Cat) (x_:Int) (s_:List Int) (r:Bool) (h:Q4r c_ x_ s_=some r):Contract Try.prog 102 [.rptr (c_.cells true),iV x_,.ifs 129 1 (Is s_)] (.val (.bool r)):=by
 refine Qg (rvs:=[.tmp 6]) (rs:=[.val (.bool r)]) Try.func102 rfl rfl rfl rfl (by simp [Try.f102]) fun F hN hP=>?_;unfold Q4r at h;refine Q0 (runQ hN fun K hK=>?_);simp;repeat refine sdQ ?_
 refine hK _ ?_;clear hK K;refine tn (Q5 (st':=⟨Y3 c_ [(1,iV x_),(2,.ifs 129 1 (Is s_))],[],0⟩) (wkQ8 []) (Q0 (Ql [] mo (by rw [hN];decide) fun K hK=>?_)));simp;repeat refine sdQ ?_
 refine hK _ (tn (Q5 (st':=⟨Y3 c_ [(1,iV x_),(7,.ifs 129 1 (Is s_)),(8,.val (.bool true))],[],0⟩) (wkQ8 []) (Q0 ?_)));clear hK K;replace ⟨e1,h,h1⟩:=bind_some h;refine Qv (fun b1:Bool=>⟨[(6,.val (.bool b1))],[],0⟩) (fun b1=>b1=e1) ?_ ?_
 ·refine Ql [] mo (by rw [hN];decide) fun K hK=>?_;simp;repeat with_reducible refine sdQ ?_
  replace ⟨v2,hv2,h⟩:=bind_some h;refine callI_fro (fz:=[]) false (Contract.toFv (Q2Y _ _ _ v2 hv2)) (PurK.ofL (.cons .lst (.cons (.preT (by simp [Cat.cells])) (.cons .val .nil)))) ?_;simp;repeat refine sdQ ?_
  refine hK _ ?_;exact jn (b:=v2) (Option.some.inj h) (wkQ8 [])
 intro b1 hb1;have h:=h1;try rw [← hb1] at h
 clear h1;try dsimp only at h
 refine Qj ?_;have hr:=Option.some.inj h;rw [← hr];refine ⟨_,(.tmp .nil),?_⟩;refine ⟨(.one rfl rfl .nil),[.val (.bool b1)],[],by simp [Cat.cells,UA,U1,IA,I1,LA,L1,BA,B1,EA,E1,E2,eB,eI,eL],by simp,(UpL.refl _)⟩
attribute [local simp] unk unA unE unT unC flat eL eI Qk Q13 Qf Cat.cells XClassifier.cells
noncomputable def QS (k_:XClassifier):Option (List Int) :=
 (QR (σ:=List Int × Int) (ε:=List Int) (fun s21 =>
  if s21.2<(k_.sieves_.length:Int) then
   (
    ass (0≤s21.2∧s21.2<(k_.sieves_.length:Int)) <|
    (QR (σ:=List Int × Int) (ε:=List Int) (fun s32 =>
     if s32.2<((gx k_.sieves_ s21.2).length:Int) then
      (
       ass (0≤s32.2∧s32.2<((gx k_.sieves_ s21.2).length:Int)) <|
       (Q4r k_.sets_.s s21.2 (rx (gx k_.sieves_ s21.2) s32.2)).bind fun v36 =>
       if v36=true then
        ass ((s32.1++[s32.2]).length≤1073741824) <|
        some (s32.1++[s32.2])
       else
        some s32.1:Option (List Int)).bind fun b34 =>
      ass (B64 (s32.2+1)) <|
      some (Ctl.next (b34,s32.2+1))
     else
      some (Ctl.ret s32.1)) fuel (s21.1,0)).bind fun p32 =>
    some p32:Option (List Int)).bind fun b23 =>
   ass (B64 (s21.2+1)) <|
   some (Ctl.next (b23,s21.2+1))
  else
   some (Ctl.ret s21.1)) fuel ([],0)).bind fun b1 =>
 some b1
@[simp] abbrev Y5 (a:XClassifier) (b:List Int × Int) (c:List (Nat × AV)):List (Nat × AV):=(12,.lst true 1 (Es eL a.sieves_))::(13,iV (a.sieves_.length:Int))::(14,iV b.2)::(19,.lst true 1 (Ls (gx a.sieves_ b.2)))::(20,iV ((gx a.sieves_ b.2).length:Int))::c
@[simp] abbrev Yc (a:XClassifier) (b:List (Nat × AV)):List (Nat × AV):=(12,.lst true 1 (Es eL a.sieves_))::(13,iV (a.sieves_.length:Int))::b
theorem Q3a (k_:XClassifier) (r:List Int) (h:QS k_=some r):Contract Try.prog 60 [.rptr (k_.cells true)] (lI r):=by
 refine Qg (rvs:=[.tmp 2]) (rs:=[lI r]) Try.func60 rfl rfl rfl rfl (by simp [Try.f60]) fun F hN hP=>?_;unfold QS at h;refine Q0 (runQ hN fun K hK=>?_);simp;repeat refine sdQ ?_
 refine hK _ ?_;clear hK K;refine tn (Q5 (st':=⟨Ya k_ [],[],0⟩) (wkQ8 []) (Q0 (runQ hN fun K hK=>?_)));simp;repeat refine sdQ ?_
 refine hK _ ?_;clear hK K;refine tn (Q5 (st':=⟨Ya k_ [(3,.own 0 0 0)],[(0,.mix 1 [])],1⟩) (wkQ8 [(0,0)]) (Q0 (Q0 (runQ hN fun K hK=>?_))));simp;repeat refine sdQ ?_
 refine hK _ (tn (Q5 (st':=⟨Ya k_ ((3,.own 0 0 0)::Yc k_ [(14,iV 0)]),[(0,.mix 1 [])],1⟩) (wkQ8 [(0,0)]) ?_));clear hK K;replace ⟨e1,h,h1⟩:=bind_some h;refine Qv (fun b1:List Int=>⟨[(3,.own 0 0 b1.length)],[(0,rI b1)],1⟩) (fun b1=>b1=e1) ?_ ?_
 ·refine Q7 (QM h (fun s21:List Int × Int=>⟨Ya k_ ((3,.own 0 0 s21.1.length)::Yc k_ [(14,iV s21.2)]),[(0,rI s21.1)],1⟩) (Q4B ⟨Ya k_ ((3,.own 0 0 0)::Yc k_ [(14,iV 0)]),[(0,rI [])],1⟩ (Wk.nils [] (by simp) (by simp) (by simp [nlA]) (by simp [entN,nlL,nlA,Cat.cells,XClassifier.cells,UA,U1,IA,I1,LA,L1,BA,B1,EA,E1,E2,eB,eI,eL,Qx _ Qf _ (fun _=>rfl)]) (by simp)) (wkQ8 [(0,0)])) ?_);clear h;intro k21 s21 c21 h hk21;refine Q0 (runQ hN fun K hK=>?_);simp;repeat refine sdQ ?_
  refine hK _ ?_;clear hK K;refine tn (Q0 (Q8 rfl (fun g=>?_) fun g=>?_))
  ·have g22:s21.2<(k_.sieves_.length:Int):=gQ;clear g;replace h:=if_l g22 h;refine Q9 (tn (Q0 ?_));replace ⟨e23,h,h23⟩:=bind_some h;refine Qv (fun b23:List Int=>⟨Ya k_ ((3,.own 0 0 b23.length)::Yc k_ [(14,iV s21.2)]),[(0,rI b23)],1⟩) (fun b23=>b23=e23) ?_ ?_
   ·refine Q7 (Q0 (runQ hN fun K hK=>?_));replace ⟨a24,h⟩:=Q6 h;simp [at_E (c:=eL) a24];(repeat refine sdQ ?_);refine hK _ ?_;clear hK K;refine tn (Q5 (st':=⟨Ya k_ ((3,.own 0 0 s21.1.length)::(4,iV s21.2)::(5,.lst true 1 (Ls (gx k_.sieves_ s21.2)))::Yc k_ [(14,iV s21.2)]),[(0,rI s21.1)],1⟩) (wkQ8 [(0,0)]) (Q0 (runQ hN fun K hK=>?_)));simp;(repeat refine sdQ ?_);refine hK _ (tn (Q5 (st':=⟨Ya k_ ((3,.own 0 0 s21.1.length)::(4,iV s21.2)::Y5 k_ s21 [(21,iV 0)]),[(0,rI s21.1)],1⟩) (wkQ8 [(0,0)]) (Q7 ?_)));clear hK K;replace ⟨e32,he32,h32⟩:=bind_some h;refine QM he32 (fun s32:List Int × Int=>⟨Ya k_ ((3,.own 0 0 s32.1.length)::(4,iV s21.2)::Y5 k_ s21 [(21,iV s32.2)]),[(0,rI s32.1)],1⟩) (wkQ8 [(0,0)]) ?_;intro k32 s32 c32 h hk32;refine Q0 (runQ hN fun K hK=>?_);simp;(repeat refine sdQ ?_);refine hK _ ?_;clear hK K;refine tn (Q0 (Q8 rfl (fun g=>?_) fun g=>?_))
    ·have g33:s32.2<((gx k_.sieves_ s21.2).length:Int):=gQ;clear g;replace h:=if_l g33 h;refine Q9 (tn (Q0 ?_));replace ⟨e34,h,h34⟩:=bind_some h;refine Qv (fun b34:List Int=>⟨Ya k_ ((3,.own 0 0 b34.length)::(4,iV s21.2)::Y5 k_ s21 [(21,iV s32.2)]),[(0,rI b34)],1⟩) (fun b34=>b34=e34) ?_ ?_
     ·refine Q7 (Q0 (runQ hN fun K hK=>?_));replace ⟨a35,h⟩:=Q6 h;simp [at_L a35];(repeat refine sdQ ?_);refine hK _ ?_;clear hK K;refine tn (Q5 (st':=⟨Ya k_ ((3,.own 0 0 s32.1.length)::(4,iV s21.2)::(6,iV s32.2)::(7,lI (rx (gx k_.sieves_ s21.2) s32.2))::Y5 k_ s21 [(21,iV s32.2)]),[(0,rI s32.1)],1⟩) (wkQ8 [(0,0)]) (Q0 (Ql [] mo (by rw [hN];decide) fun K hK=>?_)));simp;(repeat with_reducible refine sdQ ?_);replace ⟨v36,hv36,h⟩:=bind_some h;refine QH (fz:=[]) (w_i_all _ _ _ v36 hv36) (.cons (.preT (by simp [Cat.cells,XClassifier.cells])) (.cons .val (.cons .ifs .nil))) ?_;simp;(repeat refine sdQ ?_);refine hK _ ?_;clear hK K;refine tn (Q5 (st':=⟨Ya k_ ((3,.own 0 0 s32.1.length)::(4,iV s21.2)::(6,iV s32.2)::Y5 k_ s21 [(21,iV s32.2),(33,.val (.bool v36))]),[(0,rI s32.1)],1⟩) (wkQ8 [(0,0)]) (Q8 rfl (fun g=>?_) fun g=>?_))
      ·have g37:v36=true:=gQ;clear g;replace h:=if_l g37 h;refine runQ hN fun K hK=>?_;replace ⟨a38,h⟩:=Q6 h;(try simp only [List.length_append,List.length_cons,List.length_nil] at a38);simp [a38];(repeat refine sdQ ?_);refine hK _ (bn ?_);clear hK K;exact jn (b:=s32.1++[s32.2]) (Option.some.inj h) (wkQ8 [(2,0)])
      have g37:¬ (v36=true):=gQ;clear g;replace h:=if_r g37 h;refine Q9 (bn ?_);exact jn (b:=s32.1) (Option.some.inj h) (wkQ8 [(0,0)])
     intro b34 hb34;have h:=h34;(try rw [← hb34] at h);clear h34;(try dsimp only at h);refine runQ hN fun K hK=>?_;replace ⟨a39,h⟩:=Q6 h;simp [QA a39];(repeat refine sdQ ?_);refine hK _ ?_;clear hK K;cases h;exact rn (s':=(b34,s32.2+1)) hk32 (wkQ8 [(0,0)])
    have g33:¬ (s32.2<((gx k_.sieves_ s21.2).length:Int)):=gQ;clear g;replace h:=if_r g33 h;refine Qr (tx (lx (bh (bn ?_))));cases h;have q:_=e32:=hk32;have h:=h32;rw [← q] at h;clear q;(try dsimp only at h);exact jn (b:=s32.1) (Option.some.inj h) (wkQ8 [(0,0)])
   intro b23 hb23;have h:=h23;(try rw [← hb23] at h);clear h23;(try dsimp only at h);refine runQ hN fun K hK=>?_;replace ⟨a40,h⟩:=Q6 h;simp [QA a40];(repeat refine sdQ ?_);refine hK _ ?_;clear hK K;cases h;exact rn (s':=(b23,s21.2+1)) hk21 (wkQ8 [(0,0)])
  have g22:¬ (s21.2<(k_.sieves_.length:Int)):=gQ;clear g;replace h:=if_r g22 h;refine Qr (tx (lx (bh ?_)));cases h;exact jn (b:=s21.1) hk21 (wkQ8 [(0,0)])
 intro b1 hb1;have h:=h1;try rw [← hb1] at h
 clear h1;try dsimp only at h
 refine Q0 (runQ hN fun K hK=>?_);simp;repeat refine sdQ ?_
 refine hK _ (tn (Q5 (st':=⟨[(2,.own 0 0 b1.length)],[(0,rI b1)],1⟩) (wkQ8 [(0,0)]) (Qj ?_)));clear hK K;have hr:=Option.some.inj h;rw [← hr];refine ⟨_,(.tmp .nil),?_⟩;refine ⟨(.one rfl rfl .nil),[lI b1],[0],by simp [Cat.cells,XClassifier.cells,UA,U1,IA,I1,LA,L1,BA,B1,EA,E1,E2,eB,eI,eL,Qx _ Qf _ (fun _=>rfl)],by simp,(UpL.refl _)⟩
attribute [local simp] unk unA unE unT unC flat eL eI Qk Q13 Cat.cells
noncomputable def Q1Z (c_:Cat) (lists_:List (List (List Int))):Option (List Int) :=
 (QR (σ:=List Int × Int) (ε:=List Int) (fun s8 =>
  if s8.2<(lists_.length:Int) then
   ass (0≤s8.2∧s8.2<(lists_.length:Int)) <|
   (Q2h c_ s8.2).bind fun v11 =>
   (Q1a (gx lists_ s8.2) v11).bind fun v12 =>
   ass ((s8.1++[v12]).length≤1073741824) <|
   ass (B64 (s8.2+1)) <|
   some (Ctl.next (s8.1++[v12],s8.2+1))
  else
   some (Ctl.ret s8.1)) fuel ([],0)).bind fun b1 =>
 some b1
theorem Q6G (c_:Cat) (lists_:List (List (List Int))) (r:List Int) (h:Q1Z c_ lists_=some r):Contract Try.prog 59 [.agg (c_.cells true),.lst true 1 (Es eL lists_)] (lI r):=by
 refine Qg (rvs:=[.tmp 4]) (rs:=[lI r]) Try.func59 rfl rfl rfl rfl (by simp [Try.f59]) fun F hN hP=>?_;unfold Q1Z at h;refine Q0 (runQ hN fun K hK=>?_);simp;repeat refine sdQ ?_
 refine hK _ ?_;clear hK K;refine tn (Q5 (st':=⟨(1,.lst true 1 (Es eL lists_))::Yg [],Y7 c_ [],1⟩) (wkQ8 [(0,0)]) (Q0 (runQ hN fun K hK=>?_)));simp;repeat refine sdQ ?_
 refine hK _ ?_;clear hK K;refine tn (Q5 (st':=⟨(1,.lst true 1 (Es eL lists_))::Yg [(5,.own 1 0 0)],Y7 c_ [(1,.mix 1 [])],2⟩) (wkQ8 [(0,0),(1,1)]) (Q0 (Q0 (runQ hN fun K hK=>?_))));simp;repeat refine sdQ ?_
 refine hK _ (tn (Q5 (st':=⟨(1,.lst true 1 (Es eL lists_))::Yg [(5,.own 1 0 0),(6,iV 0)],Y7 c_ [(1,.mix 1 [])],2⟩) (wkQ8 [(0,0),(1,1)]) ?_));clear hK K;replace ⟨e1,h,h1⟩:=bind_some h;refine Qv (fun b1:List Int=>⟨[(5,.own 0 0 b1.length)],[(0,rI b1)],1⟩) (fun b1=>b1=e1) ?_ ?_
 ·refine Q7 (QM h (fun s8:List Int × Int=>⟨(1,.lst true 1 (Es eL lists_))::Yg [(5,.own 1 0 s8.1.length),(6,iV s8.2)],Y7 c_ [(1,rI s8.1)],2⟩) (Q4B ⟨(1,.lst true 1 (Es eL lists_))::Yg [(5,.own 1 0 0),(6,iV 0)],Y7 c_ [(1,rI [])],2⟩ (Wk.nils [] (by simp) (by simp) (by simp [nlA]) (by simp [entN,nlL,nlA,Cat.cells,UA,U1,IA,I1,LA,L1,BA,B1,EA,E1,E2,eB,eI,eL]) (by simp)) (wkQ8 [(0,0),(1,1)])) ?_);clear h;intro k8 s8 c8 h hk8;refine Q0 (Q0 (runQ hN fun K hK=>?_));simp;repeat refine sdQ ?_
  refine hK _ ?_;clear hK K;refine tn (Q8 rfl (fun g=>?_) fun g=>?_)
  ·have g9:s8.2<(lists_.length:Int):=gQ;clear g;replace h:=if_l g9 h;refine Q9 (tn (Q0 (Q7 (runQ hN fun K hK=>?_))));replace ⟨a10,h⟩:=Q6 h;simp [at_E (c:=eL) a10];(repeat with_reducible refine sdQ ?_);replace ⟨v11,hv11,h⟩:=bind_some h;refine Q1 (Q4R _ _ v11 hv11) (.cons (.aggL (.cons .val (.cons .lst (.cons .lst (.cons .lst (.cons .lst .nil)))))) (.cons .val .nil)) ?_;simp [at_E (c:=eL) a10];(repeat with_reducible refine sdQ ?_);replace ⟨v12,hv12,h⟩:=bind_some h;refine Q1 (Q3Q _ _ v12 hv12) (.cons .lst (.cons .w .nil)) ?_;replace ⟨a13,h⟩:=Q6 h;(try simp only [List.length_append,List.length_cons,List.length_nil] at a13);simp [at_E (c:=eL) a10,a13];(repeat refine sdQ ?_);refine hK _ ?_;clear hK K;refine bn (tn (Q5 (st':=⟨(1,.lst true 1 (Es eL lists_))::Yg [(5,.own 1 0 ((s8.1++[v12]).length)),(6,iV s8.2)],Y7 c_ [(1,rI (s8.1++[v12]))],2⟩) (wkQ8 [(0,0),(5,1)]) (runQ hN fun K hK=>?_)));replace ⟨a14,h⟩:=Q6 h;simp [QA a14];(repeat refine sdQ ?_);refine hK _ ?_;clear hK K;cases h;exact rn (s':=(s8.1++[v12],s8.2+1)) hk8 (wkQ8 [(0,0),(1,1)])
  have g9:¬ (s8.2<(lists_.length:Int)):=gQ;clear g;replace h:=if_r g9 h;refine Qr (tx (lx (bh ?_)));cases h;exact jn (b:=s8.1) hk8 (wkQ8 [(1,0)])
 intro b1 hb1;have h:=h1;try rw [← hb1] at h
 clear h1;try dsimp only at h
 refine Q0 (runQ hN fun K hK=>?_);simp;repeat refine sdQ ?_
 refine hK _ (tn (Q5 (st':=⟨[(4,.own 0 0 b1.length)],[(0,rI b1)],1⟩) (wkQ8 [(0,0)]) (Qj ?_)));clear hK K;have hr:=Option.some.inj h;rw [← hr];refine ⟨_,(.tmp .nil),?_⟩;refine ⟨(.one rfl rfl .nil),[lI b1],[0],by simp [Cat.cells,UA,U1,IA,I1,LA,L1,BA,B1,EA,E1,E2,eB,eI,eL],by simp,(UpL.refl _)⟩
attribute [local simp] unk unA unE unT unC flat eL eI Qk Q13 Cat.cells
noncomputable def QK (c_:Cat):Option (List Int × Int) :=
 (Q2g c_).bind fun v1 =>
 if ¬ (v1=true) then
  some ([],1)
 else
  (Q1n c_).bind fun v3 =>
  if ¬ (v3.2=true) then
   some ([],3)
  else
   (Q1Z c_ v3.1).bind fun v5 =>
   some (v5,0)
theorem Q3v (c_:Cat) (r:List Int × Int) (h:QK c_=some r):Contract Try.prog 23 [.agg (c_.cells true)] (.tup [lI r.1,iV r.2]):=by
 refine Qg (rvs:=[.tmp 2,.tmp 3]) (rs:=[lI r.1,iV r.2]) Try.func23 rfl rfl rfl rfl (by simp [Try.f23]) fun F hN hP=>?_;unfold QK at h;refine Q0 (runQ hN fun K hK=>?_);simp;repeat refine sdQ ?_
 refine hK _ ?_;clear hK K;refine tn (Q5 (st':=⟨Yf [],Y7 c_ [],1⟩) (wkQ8 [(0,0)]) (Q0 (Q0 (runQ hN fun K hK=>?_))));simp;repeat with_reducible refine sdQ ?_
 replace ⟨v1,hv1,h⟩:=bind_some h;refine Q1 (w_s_l02Is _ v1 hv1) (.cons (.aggL (.cons .val (.cons .lst (.cons .lst (.cons .lst (.cons .lst .nil)))))) .nil) ?_;simp;repeat refine sdQ ?_
 refine hK _ ?_;clear hK K;refine tn (Q5 (st':=⟨Yf [(8,.val (.bool (!v1)))],Y7 c_ [],1⟩) (wkQ8 [(0,0)]) (Q8 rfl (fun g=>?_) fun g=>?_))
 ·have g2:¬ (v1=true):=gQ;clear g;replace h:=if_l g2 h;refine Q0 (runQ hN fun K hK=>?_);simp;repeat refine sdQ ?_
  refine hK _ (tn (Q5 (st':=⟨[(2,nS),(3,iV 1)],[],0⟩) (wkQ8 []) (Qj (tr ?_))));clear hK K;have hr:=Option.some.inj h;rw [← hr];refine ⟨_,(.tmp (.tmp .nil)),?_⟩;refine ⟨(.one rfl rfl (.one rfl rfl .nil)),[nS,iV 1],[],by simp [Cat.cells,UA,U1,IA,I1,LA,L1,BA,B1,EA,E1,E2,eB,eI,eL],by simp,(.cons .nil (.cons .refl .nil))⟩
 have g2:¬ (¬ (v1=true)):=gQ;clear g;replace h:=if_r g2 h;refine Q9 (tn (Q0 (Ql [] mo (by rw [hN];decide) fun K hK=>?_)));simp;repeat with_reducible refine sdQ ?_
 replace ⟨v3,hv3,h⟩:=bind_some h;refine Q29 (fz:=[]) true (Q5X _ v3 hv3) (PurK.ofN (.cons (.aggL (.cons .val (.cons .lst (.cons .lst (.cons .lst (.cons .lst .nil)))))) .nil)) ?_;simp;repeat refine sdQ ?_
 refine hK _ ?_;clear hK K;refine tn (Q5 (st':=⟨Yf [(4,.lst true 1 (Es eL v3.1)),(5,.val (.bool v3.2))],Y7 c_ [],1⟩) (wkQ8 [(0,0)]) (Q0 (Q0 (runQ hN fun K hK=>?_))));simp;repeat refine sdQ ?_
 refine hK _ ?_;clear hK K;refine tn (Q8 rfl (fun g=>?_) fun g=>?_)
 ·have g4:¬ (v3.2=true):=gQ;clear g;replace h:=if_l g4 h;refine Q0 (runQ hN fun K hK=>?_);simp;repeat refine sdQ ?_
  refine hK _ (tn (Q5 (st':=⟨[(2,nS),(3,iV 3)],[],0⟩) (wkQ8 []) (Qj (tr ?_))));clear hK K;have hr:=Option.some.inj h;rw [← hr];refine ⟨_,(.tmp (.tmp .nil)),?_⟩;refine ⟨(.one rfl rfl (.one rfl rfl .nil)),[nS,iV 3],[],by simp [Cat.cells,UA,U1,IA,I1,LA,L1,BA,B1,EA,E1,E2,eB,eI,eL],by simp,(.cons .nil (.cons .refl .nil))⟩
 have g4:¬ (¬ (v3.2=true)):=gQ;clear g;replace h:=if_r g4 h;refine Q9 (tn (Q0 (runQ hN fun K hK=>?_)));simp;repeat with_reducible refine sdQ ?_
 replace ⟨v5,hv5,h⟩:=bind_some h;refine Q1 (Q6G _ _ v5 hv5) (.cons (.aggL (.cons .val (.cons .lst (.cons .lst (.cons .lst (.cons .lst .nil)))))) (.cons .lst .nil)) ?_;simp;repeat refine sdQ ?_
 refine hK _ (tn (Q5 (st':=⟨[(2,.own 0 0 v5.length),(3,iV 0)],[(0,rI v5)],1⟩) (wkQ8 [(1,0)]) (Qj ?_)));clear hK K;have hr:=Option.some.inj h;rw [← hr];refine ⟨_,(.tmp (.tmp .nil)),?_⟩;refine ⟨(.one rfl rfl (.one rfl rfl .nil)),[lI v5,iV 0],[0],by simp [Cat.cells,UA,U1,IA,I1,LA,L1,BA,B1,EA,E1,E2,eB,eI,eL],by simp,(UpL.refl _)⟩
end Go.Vc.T
