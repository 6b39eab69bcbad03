/- A part of the proof: a verified generator of conditions, and what each function of the program does. -/
import Derived.Test.YtefancoclgkmhaaS7
set_option maxRecDepth 100000
set_option maxHeartbeats 4000000
set_option linter.unusedSimpArgs false
set_option linter.unusedVariables false

namespace Go.Vc.T
open Go Go.Vc Go.Proofs
section
attribute [local simp] Qf QG Qu Q15 QD
def Es {α:Type} (c:α→List AV) (xs:List α):List (List AV):=xs.map c
def gx {α:Type} [Inhabited α] (xs:List α) (j:Int):α:=xs.getD j.toNat default
def eB (b:Bool):List AV:=[.val (.bool b)]
def eI (b:Int):List AV:=[iV b]
def eL (x:List (List Int)):List AV:=[.lst true 1 (Ls x)]
section
variable {α:Type} {c:α→List AV}
@[simp] theorem Es_length (xs:List α):(Es c xs).length=xs.length:=by simp [Es]
@[simp] theorem Es_nil:Es c []=[]:=rfl
theorem Es_append (xs ys:List α):Es c (xs++ys)=Es c xs++Es c ys:=by simp [Es]
theorem Es_set' (xs:List α) (i:Nat) (x:α):Es c (xs.set i x)=(Es c xs).set i (c x):=by simp [Es,List.map_set]
theorem at_E [Inhabited α] {xs:List α} {j:Int} (h:0≤j∧j<(xs.length:Int)):(Es c xs)[j.toNat]? = some (c (gx xs j)):=by
 have h2:j.toNat<xs.length:=by omega
 simp [Es,gx,List.getD_eq_getElem?_getD,h2]
end
@[simp] theorem Cs_E (xs:List Cat):Cs xs=Es (Cat.cells true) xs:=rfl
@[simp] theorem Fs_E (xs:List Fn):Fs xs=Es (Fn.cells true) xs:=rfl
@[simp] theorem Ls_nil':Ls []=[]:=rfl
theorem Ls_append (xs ys:List (List Int)):Ls (xs++ys)=Ls xs++Ls ys:=by simp [Ls]
@[simp] theorem Ls_rep0 (n:Nat):Ls (List.replicate n [])=List.replicate n [AV.lst true 1 []]:=by simp [Ls]
theorem at_I {xs:List Int} {j:Int} (h:0≤j∧j<(xs.length:Int)):(Is xs)[j.toNat]? = some [iV (ix xs j)]:=by
 have h2:j.toNat<xs.length:=by omega
 simp [Is,ix,List.getD_eq_getElem?_getD,h2]
theorem at_L {xs:List (List Int)} {j:Int} (h:0≤j∧j<(xs.length:Int)):(Ls xs)[j.toNat]? = some [lI (rx xs j)]:=by
 have h2:j.toNat<xs.length:=by omega
 simp [Ls,rx,List.getD_eq_getElem?_getD,h2]
@[simp] theorem Is_takeE (xs:List Int) (k:Nat):List.take k (Is xs)=Is (xs.take k):=by simp [Is,List.map_take]
@[simp] theorem Ls_takeA (xs:List (List Int)):List.take xs.length (Ls xs)=Ls xs:=List.take_of_length_le (by simp)
@[simp] theorem Us_takeA (xs:List Int):List.take xs.length (Us xs)=Us xs:=List.take_of_length_le (by simp)
@[simp] theorem u8_min:IntKind.u8.min=0:=rfl
@[simp] theorem u8_max:IntKind.u8.max=255:=rfl
@[simp] theorem Es_takeA {α:Type} {c:α→List AV} (xs:List α):List.take xs.length (Es c xs)=Es c xs:=List.take_of_length_le (by simp)
@[simp] theorem Bs_nil':Bs []=[]:=rfl
theorem Bs_append (xs ys:List Bool):Bs (xs++ys)=Bs xs++Bs ys:=by simp [Bs]
theorem IA (xs ys:List Int):Is (xs++ys)=Is xs++Is ys:=Is_append xs ys
theorem I1 (x:Int) (xs:List Int):Is (x :: xs)=[iV x] :: Is xs:=rfl
theorem LA (xs ys:List (List Int)):Ls (xs++ys)=Ls xs++Ls ys:=Ls_append xs ys
theorem L1 (x:List Int) (xs:List (List Int)):Ls (x :: xs)=[lI x] :: Ls xs:=rfl
theorem BA (xs ys:List Bool):Bs (xs++ys)=Bs xs++Bs ys:=Bs_append xs ys
theorem B1 (x:Bool) (xs:List Bool):Bs (x :: xs)=[.val (.bool x)] :: Bs xs:=rfl
theorem EA {α:Type} {c:α→List AV} (xs ys:List α):Es c (xs++ys)=Es c xs++Es c ys:=Es_append xs ys
theorem E1 {α:Type} {c:α→List AV} (x:α) (xs:List α):Es c (x :: xs)=c x :: Es c xs:=rfl
theorem E2 {α:Type} {c:α→List AV} (xs:List α) (i:Nat) (x:α):Es c (xs.set i x)=(Es c xs).set i (c x):=Es_set' xs i x
theorem rlLL_c {α:Type} {m:List (Nat × Nat)} {c:α→List AV} (h:∀ x,rlL m (c x)=c x):∀ xs:List α,rlLL m (xs.map c)=xs.map c:=by
 intro xs
 induction xs with
 | nil=>rfl
 | cons a r ih=>simp only [List.map_cons,rlLL,h,ih]
@[simp] theorem Q9 {α:Type} (m:List (Nat × Nat)) (c:α→List AV) (xs:List α) (h:∀ x,rlL m (c x)=c x):rlLL m (Es c xs)=Es c xs:=rlLL_c h xs
@[simp] theorem rlLL_append (m:List (Nat × Nat)) (xs ys:List (List AV)):rlLL m (xs++ys)=rlLL m xs++rlLL m ys:=by
 induction xs with
 | nil=>rfl
 | cons a r ih=>simp only [List.cons_append,rlLL,ih]
theorem Ls_st {xss:List (List Int)} {i:Nat} {x:List Int}:(Ls xss).set i (((Ls xss).getD i []).set 0 (lI x))=Ls (xss.set i x):=by
 by_cases h:i<xss.length
 ·rw [← Ls_set];congr 1;simp [Ls,List.getD_eq_getElem?_getD,h]
 rw [List.set_eq_of_length_le (by simp;omega),List.set_eq_of_length_le (by omega)]
end
section
attribute [local simp] Qf QG Qu Q15 QD
section
variable {α:Type} {c:α→List AV}
def EL (c:α→List AV) (xs:List (ByteArray × List α)):List (Value × Option (List (List AV))):=xs.map fun p=>(.string p.1,some (Es c p.2))
def EF (c:α→List AV) (sz:Nat) (xs:List (ByteArray × List α)):List (Value × AV):=xs.map fun p=>(.string p.1,.lst true sz (Es c p.2))
@[simp] theorem EL_nil:EL c []=[]:=rfl
theorem EL_frz {sz:Nat} (xs:List (ByteArray × List α)):(EL c xs).map (fun p=>(p.1,AV.lst true sz (p.2.getD [])))=EF c sz xs:=by simp [EL,EF]
theorem EL_full (xs:List (ByteArray × List α)):∀ p∈EL c xs,p.2 ≠ none:=by
 intro p hp;obtain ⟨q,_,rfl⟩:=List.mem_map.1 hp;simp
theorem Q75 {β γ:Type} (f:β→γ) (k:ByteArray):∀ xs:List (ByteArray × β),Q2S (.string k) (xs.map fun p=>(Value.string p.1,f p.2))=(Q1J k xs).map f:=by
 intro xs
 induction xs with
 | nil=>rfl
 | cons p r ih =>
  obtain ⟨a,v⟩:=p;simp only [List.map_cons,Q2S,Q1J]
  by_cases h:a=k
  ·subst h;simp
  rw [if_neg (fun h'=>h (by cases h';rfl)),if_neg h];exact ih
theorem kset_map {β γ:Type} (f:β→γ) (k:ByteArray) (v:β):∀ xs:List (ByteArray × β),kset (.string k) (f v) (xs.map fun p=>(Value.string p.1,f p.2))=(tset k v xs).map fun p=>(Value.string p.1,f p.2):=by
 intro xs
 induction xs with
 | nil=>rfl
 | cons p r ih =>
  obtain ⟨a,x⟩:=p;simp only [List.map_cons,kset,tset]
  by_cases h:a=k
  ·subst h;simp
  rw [if_neg (fun h'=>h (by cases h';rfl)),if_neg h];simp only [List.map_cons];rw [ih]
theorem kcont_EL (k:ByteArray) (xs:List (ByteArray × List α)):kcont (.string k) (EL c xs)=some (Es c ((Q1J k xs).getD [])):=by
 unfold kcont EL;rw [Q75 (fun x:List α=>some (Es c x))];cases Q1J k xs<;>simp [Es]
theorem kset_EL (k:ByteArray) (v:List α) (xs:List (ByteArray × List α)):kset (.string k) (some (Es c v)) (EL c xs)=EL c (tset k v xs):=kset_map (fun x:List α=>some (Es c x)) k v xs
theorem kfind_EF {sz:Nat} (k:ByteArray) (xs:List (ByteArray × List α)):(Q2S (.string k) (EF c sz xs)).getD (.lst true sz []) = .lst true sz (Es c ((Q1J k xs).getD [])):=by
 unfold EF;rw [Q75 (fun x:List α=>AV.lst true sz (Es c x))];cases Q1J k xs<;>simp [Es]
@[simp] theorem EL_length (xs:List (ByteArray × List α)):(EL c xs).length=xs.length:=by simp [EL]
theorem Q76 (k:Value) (ks:List (Value × Option (List (List AV)))):(Q4k k ks).length=ks.length:=by
 unfold Q4k;cases hf:Q2S k ks with
 | none=>rfl
 | some y =>
  simp only
  induction ks generalizing y with
  | nil=>simp [Q2S] at hf
  | cons p r ih =>
   obtain ⟨a,z⟩:=p
   by_cases ha:a=k
   ·simp [kset,ha]
   simp only [kset,if_neg ha,List.length_cons];simp only [Q2S,if_neg ha] at hf;rw [ih _ hf]
end
section
variable {P:Program} {op:Op} {ev:Operand→AV} {h:HP} {n:Nat} {α:Type} {c:α→List AV} {xs:List (ByteArray × List α)} {kv:ByteArray} {t:TypeId} {x k y:Operand} {id m sz:Nat}
theorem sem_takeE (ho:op = .lookup t x k false) (hx:ev x = .mp id) (hh:h id=some (.mapE (.ext (Q2q .str sz (EL c xs))) [])) (hm:mty P t=some (.str,.slice none 0 0)) (hk:ev k = .val (.string kv)) (hn:id<n) :
  SemOp P op ev h n { v:=.own n 0 ((Q1J kv xs).getD []).length,set:=[(id,.mapE (.ext (Q2q .str sz (Q4k (.string kv) (EL c xs)))) [])],new:=[(n,.mix sz (Es c ((Q1J kv xs).getD [])))],cnt:=1 }:=by
 have:=sem_take (kv:=.string kv) ho hx hh hm (by rw [hk];rfl) rfl (kcont_EL kv xs) hn;simpa [Es] using this
theorem sem_putE {z:Value} {ys:List α} (ho:op = .mapUpdate t x k y) (hx:ev x = .mp id) (hh:h id=some (.mapE (.ext (Q2q .str sz (Q4k (.string kv) (EL c xs)))) [])) (hm:mty P t=some (.str,z)) (hk:ev k = .val (.string kv))
  (hy:ev y = .own m 0 ys.length) (hmm:h m=some (.mix sz (Es c ys))) (hro:∀ x,∀ a∈c x,AV.ro a=true) (hlen:xs.length<1099511627776) (hn:id<n) (hmn:m<n) :
  SemOp P op ev h n { v:=.bot,set:=[(id,.mapE (.ext (Q2q .str sz (EL c (tset kv ys xs)))) [])],del:=[m] }:=by
 have:=sem_put (kv:=.string kv) (es:=Es c ys) ho hx hh hm (by rw [hk];rfl) rfl (by rw [hy];simp [Es]) hmm (fun r hr a ha=>by
  obtain ⟨q,_,rfl⟩:=List.mem_map.1 hr;exact hro q a ha) (by rw [Q76];simpa using hlen) hn hmn
 rw [kset_take,kset_EL] at this;exact this
theorem Q9e (ho:op = .lookup t x k false) (hx:ev x = .mp id) (hh:h id=some (.mapE (.ext (Q6K .str (EF c sz xs))) [])) (hm:mty P t=some (.str,.slice none 0 0)) (hk:ev k = .val (.string kv)) :
  SemOp P op ev h n { v:=.lst true sz (Es c ((Q1J kv xs).getD [])) }:=by
 have:=sem_lookF (sz:=sz) (kv:=.string kv) (n:=n) ho hx hh hm (by rw [hk];rfl) rfl;rw [kfind_EF] at this;exact this
theorem Q9d (ho:op = .call ⟨.builtin .clear,#[x],#[t]⟩) (hx:ev x = .mp id) (hh:h id=some (.mapE (.ext (Q6K .str (EF c sz xs))) [])) (hu:(P.underlying t).isSome=true) (hn:id<n) :
  SemOp P op ev h n { v:=.tup [],set:=[(id,.mapE .str [])] }:=sem_clear ho hx hh hu rfl hn
end
theorem wk_newL {F:Fx} {st st':St} {α:Type} (c:α→List AV) {j sz:Nat} (hj:look j st.h=some (.mapE .str [])) (hs:∀ q∈st'.s,st.get q.1=q.2∨q.2 = .bot) (hn:st'.n=st.n)
  (hh:∀ q∈st'.h,(q.1=j∧q.2 = .mapE (.ext (Q2q .str sz (EL c []))) [])∨(look q.1 st.h=some q.2∧(match q.2 with|.ali _ _ _ _=>False|_=>True))):Wk F st st' :=
 Wk.kind hj (fun w g bk h=>mapL_new rfl w g bk h) hs hn hh
theorem wk_frzE {F:Fx} {st st':St} (hW:∀ b,¬ F.C.wrb b) {α:Type} {c:α→List AV} {xs:List (ByteArray × List α)} {j sz:Nat} (hj:look j st.h=some (.mapE (.ext (Q2q .str sz (EL c xs))) []))
  (hs:∀ q∈st'.s,st.get q.1=q.2∨q.2 = .bot) (hn:st'.n=st.n)
  (hh:∀ q∈st'.h,(q.1=j∧q.2 = .mapE (.ext (Q6K .str (EF c sz xs))) [])∨(q.1 ≠ j∧look q.1 st.h=some q.2∧(match q.2 with|.ali _ _ _ _=>False|_=>True))):Wk F st st' :=
 Wk.frzM hW hj (EL_full xs) hs hn fun q hq=>by rw [EL_frz];exact hh q hq
end
section
attribute [local simp] Qf QG Qu Q15 QD
def QK (x:Cat):List AV:=[.rptr (x.cells true)]
def Q1r (x:Fn):List AV:=[.rptr (x.cells true)]
instance:Inhabited Cat:=⟨⟨0,[],[],[],[]⟩⟩
instance:Inhabited Fn:=⟨⟨default,default,[],[]⟩⟩
structure Cone where
 a:Int
 l:List Int
def Cone.cells (u:Bool) (f:Cone):List AV:=[iV f.a,.lst u 1 (Is f.l)]
instance:Inhabited Cone:=⟨⟨default,default⟩⟩
def Q2n (x:Cone):List AV:=[.rptr (x.cells true)]
structure Ends where
 a:Int
 b:Int
def Ends.cells (u:Bool) (f:Ends):List AV:=[iV f.a,iV f.b]
structure XL07State where
 f_:Fn
 g_:Fn
 iso_:Bool
 most_:Int
 found_:List (List Int)
def XL07State.cells (u:Bool) (f:XL07State):List AV:=[iV f.f_.s.n,.lst u 1 (Is f.f_.s.fr),.lst u 1 (Is f.f_.s.to),.lst u 1 (Is f.f_.s.id),.lst u 1 (Ls f.f_.s.cs),iV f.f_.t.n,.lst u 1 (Is f.f_.t.fr),.lst u 1 (Is f.f_.t.to),.lst u 1 (Is f.f_.t.id),.lst u 1 (Ls f.f_.t.cs),.lst u 1 (Is f.f_.ob),.lst u 1 (Is f.f_.ar),iV f.g_.s.n,.lst u 1 (Is f.g_.s.fr),.lst u 1 (Is f.g_.s.to),.lst u 1 (Is f.g_.s.id),.lst u 1 (Ls f.g_.s.cs),iV f.g_.t.n,.lst u 1 (Is f.g_.t.fr),.lst u 1 (Is f.g_.t.to),.lst u 1 (Is f.g_.t.id),.lst u 1 (Ls f.g_.t.cs),.lst u 1 (Is f.g_.ob),.lst u 1 (Is f.g_.ar),.val (.bool f.iso_),iV f.most_,.lst u 1 (Ls f.found_)]
instance:Inhabited XL07State:=⟨⟨default,default,default,default,default⟩⟩
def Qk (x:XL07State):List AV:=[.rptr (x.cells true)]
structure XMoved where
 d_:Fn
 image_:Fn
 f_:Fn
 all_:List Cone
 more_:List Cone
def XMoved.cells (u:Bool) (f:XMoved):List AV:=[iV f.d_.s.n,.lst u 1 (Is f.d_.s.fr),.lst u 1 (Is f.d_.s.to),.lst u 1 (Is f.d_.s.id),.lst u 1 (Ls f.d_.s.cs),iV f.d_.t.n,.lst u 1 (Is f.d_.t.fr),.lst u 1 (Is f.d_.t.to),.lst u 1 (Is f.d_.t.id),.lst u 1 (Ls f.d_.t.cs),.lst u 1 (Is f.d_.ob),.lst u 1 (Is f.d_.ar),iV f.image_.s.n,.lst u 1 (Is f.image_.s.fr),.lst u 1 (Is f.image_.s.to),.lst u 1 (Is f.image_.s.id),.lst u 1 (Ls f.image_.s.cs),iV f.image_.t.n,.lst u 1 (Is f.image_.t.fr),.lst u 1 (Is f.image_.t.to),.lst u 1 (Is f.image_.t.id),.lst u 1 (Ls f.image_.t.cs),.lst u 1 (Is f.image_.ob),.lst u 1 (Is f.image_.ar),.rptr (Fn.cells true f.f_),.lst u 2 (Es (Cone.cells true) f.all_),.lst u 2 (Es (Cone.cells true) f.more_)]
instance:Inhabited XMoved:=⟨⟨default,default,default,default,default⟩⟩
def QF (x:XMoved):List AV:=[.rptr (x.cells true)]
end
section
attribute [local simp] Qf QG Qu Q15 QD
@[simp] theorem bf_99_9:byS Try.prog 99 9=some 5:=by kernel_rfl
@[simp] theorem ef_55:elm Try.prog 55=some 60:=by kernel_rfl
@[simp] theorem ef_93:elm Try.prog 93=some 45:=by kernel_rfl
@[simp] theorem ef_99:elm Try.prog 99=some 5:=by kernel_rfl
@[simp] theorem ef_117:elm Try.prog 117=some 82:=by kernel_rfl
@[simp] theorem ff_27_0:fld Try.prog 27 0=some (0,5,true):=by kernel_rfl
@[simp] theorem ff_27_1:fld Try.prog 27 1=some (5,5,true):=by kernel_rfl
@[simp] theorem ff_27_2:fld Try.prog 27 2=some (10,1,false):=by kernel_rfl
@[simp] theorem ff_27_3:fld Try.prog 27 3=some (11,1,false):=by kernel_rfl
@[simp] theorem ff_33_0:fld Try.prog 33 0=some (0,5,true):=by kernel_rfl
@[simp] theorem ff_33_1:fld Try.prog 33 1=some (5,5,true):=by kernel_rfl
@[simp] theorem ff_33_2:fld Try.prog 33 2=some (10,1,false):=by kernel_rfl
@[simp] theorem ff_33_3:fld Try.prog 33 3=some (11,1,false):=by kernel_rfl
@[simp] theorem ff_60_0:fld Try.prog 60 0=some (0,1,false):=by kernel_rfl
@[simp] theorem ff_60_1:fld Try.prog 60 1=some (1,1,false):=by kernel_rfl
@[simp] theorem ff_67_0:fld Try.prog 67 0=some (0,12,true):=by kernel_rfl
@[simp] theorem ff_67_1:fld Try.prog 67 1=some (12,12,true):=by kernel_rfl
@[simp] theorem ff_67_2:fld Try.prog 67 2=some (24,1,false):=by kernel_rfl
@[simp] theorem ff_67_3:fld Try.prog 67 3=some (25,1,false):=by kernel_rfl
@[simp] theorem ff_67_4:fld Try.prog 67 4=some (26,1,false):=by kernel_rfl
@[simp] theorem ff_115_0:fld Try.prog 115 0=some (0,12,true):=by kernel_rfl
@[simp] theorem ff_115_1:fld Try.prog 115 1=some (12,12,true):=by kernel_rfl
@[simp] theorem ff_115_2:fld Try.prog 115 2=some (24,1,false):=by kernel_rfl
@[simp] theorem ff_115_3:fld Try.prog 115 3=some (25,1,false):=by kernel_rfl
@[simp] theorem ff_115_4:fld Try.prog 115 4=some (26,1,false):=by kernel_rfl
@[simp] theorem kf_2:intk Try.prog 2=some .i64:=by kernel_rfl
@[simp] theorem kf_5:intk Try.prog 5=some .u8:=by kernel_rfl
@[simp] theorem mf_65:mty Try.prog 65=some (.str,.slice none 0 0):=by kernel_rfl
@[simp] theorem pf_33:Q3E Try.prog 33=some [(0,5),(5,5),(10,1),(11,1)]:=by kernel_rfl
@[simp] theorem pf_60:Q3E Try.prog 60=some [(0,1),(1,1)]:=by kernel_rfl
@[simp] theorem pf_67:Q3E Try.prog 67=some [(0,12),(12,12),(24,1),(25,1),(26,1)]:=by kernel_rfl
@[simp] theorem pf_115:Q3E Try.prog 115=some [(0,12),(12,12),(24,1),(25,1),(26,1)]:=by kernel_rfl
@[simp] theorem tf_3:tyi Try.prog 3=some ⟨false,1,8,[.int .i64 0]⟩:=by kernel_rfl
@[simp] theorem tf_5:tyi Try.prog 5=some ⟨false,1,1,[.int .u8 0]⟩:=by kernel_rfl
@[simp] theorem tf_22:tyi Try.prog 22=some ⟨false,1,24,[.slice none 0 0]⟩:=by kernel_rfl
@[simp] theorem tf_31:tyi Try.prog 31=some ⟨true,5,104,[.int .i64 0,.slice none 0 0,.slice none 0 0,.slice none 0 0,.slice none 0 0]⟩:=by kernel_rfl
@[simp] theorem Q5x:tyi Try.prog 33=some ⟨true,12,256,[.int .i64 0,.slice none 0 0,.slice none 0 0,.slice none 0 0,.slice none 0 0,.int .i64 0,.slice none 0 0,.slice none 0 0,.slice none 0 0,.slice none 0 0,.slice none 0 0,.slice none 0 0]⟩:=by kernel_rfl
@[simp] theorem tf_45:tyi Try.prog 45=some ⟨false,1,8,[.pointer none]⟩:=by kernel_rfl
@[simp] theorem tf_55:tyi Try.prog 55=some ⟨false,1,24,[.slice none 0 0]⟩:=by kernel_rfl
@[simp] theorem tf_60:tyi Try.prog 60=some ⟨true,2,32,[.int .i64 0,.slice none 0 0]⟩:=by kernel_rfl
@[simp] theorem tf_67:tyi Try.prog 67=some ⟨true,27,568,[.int .i64 0,.slice none 0 0,.slice none 0 0,.slice none 0 0,.slice none 0 0,.int .i64 0,.slice none 0 0,.slice none 0 0,.slice none 0 0,.slice none 0 0,.slice none 0 0,.slice none 0 0,.int .i64 0,.slice none 0 0,.slice none 0 0,.slice none 0 0,.slice none 0 0,.int .i64 0,.slice none 0 0,.slice none 0 0,.slice none 0 0,.slice none 0 0,.slice none 0 0,.slice none 0 0,.pointer none,.slice none 0 0,.slice none 0 0]⟩:=by kernel_rfl
@[simp] theorem tf_82:tyi Try.prog 82=some ⟨false,1,8,[.pointer none]⟩:=by kernel_rfl
@[simp] theorem tf_111:tyi Try.prog 111=some ⟨false,1,8,[.nilFunc]⟩:=by kernel_rfl
@[simp] theorem tf_115:tyi Try.prog 115=some ⟨true,27,552,[.int .i64 0,.slice none 0 0,.slice none 0 0,.slice none 0 0,.slice none 0 0,.int .i64 0,.slice none 0 0,.slice none 0 0,.slice none 0 0,.slice none 0 0,.slice none 0 0,.slice none 0 0,.int .i64 0,.slice none 0 0,.slice none 0 0,.slice none 0 0,.slice none 0 0,.int .i64 0,.slice none 0 0,.slice none 0 0,.slice none 0 0,.slice none 0 0,.slice none 0 0,.slice none 0 0,.bool false,.int .i64 0,.slice none 0 0]⟩:=by kernel_rfl
@[simp] theorem tf_120:tyi Try.prog 120=some ⟨false,1,8,[.nilFunc]⟩:=by kernel_rfl
theorem un_65:(Try.prog.underlying 65).isSome=true:=by kernel_rfl
end
section
attribute [local simp] Qf QG Qu Q15 QD
theorem toCat (u:Bool) (c:Cat) (hc:c.ok):Contract Try.prog 16 [.agg (c.cells u)] (.agg (c.cells true)):=c18 c u hc
theorem cszCat (u:Bool) (c:Cat) (l:Int) (h1:0≤l) (h2:l≤1048576):Contract Try.prog 12 [.agg (c.cells u),iV l] (iV (Q3n l c)):=c13 u c l h1 h2
theorem Q24 {l:Int} {f:Cat} (h:l≤1048576):Q3n l f≤1048576:=szCat_le h
theorem Fn.ok_size {f:Fn} (h:f.ok):f.size≤2199031644160:=by
 obtain ⟨hs,ht,hob,har⟩:=h;have s_s:=Cat.ok_size hs;have s_t:=Cat.ok_size ht;simp only [Fn.size];omega
theorem eqFn (u v:Bool) (f:Fn):Contract Try.prog 9 [.agg (f.cells u),.agg (f.cells v)] (.val (.bool true)):=by
 refine Qa (rs:=[.val (.bool true)]) Try.func9 rfl rfl rfl rfl (by simp [Try.f9]) fun F hN hP=>?_;refine srQ hN fun K hK=>?_;simp [Fn.cells];refine hK _ ?_;clear hK K;refine Q0 (srQ hN fun K hK=>?_);simp;refine Q1 (c26 u v f.s) (.cons (.aggL Cat.pur) (.cons (.aggL Cat.pur) .nil)) ?_;simp [unk,unA,unE,flat];refine hK _ (Q6 rfl (fun h=>by simp at h) fun _=>?_);clear hK K;refine Q7 (Q0 (srQ hN fun K hK=>?_));simp;refine Q1 (c26 u v f.t) (.cons (.aggL Cat.pur) (.cons (.aggL Cat.pur) .nil)) ?_;simp [unk,unA,unE,flat];refine hK _ (Q6 rfl (fun h=>by simp at h) fun _=>?_);clear hK K;refine Q7 (Q0 (srQ hN fun K hK=>?_));simp;refine Q1 (c29 u v f.ob f.ob) (.cons .lst (.cons .lst .nil)) ?_;simp [unk,unA,unE,flat];refine hK _ (Q6 rfl (fun h=>by simp at h) fun _=>?_);clear hK K;refine Q7 (Q0 (srQ hN fun K hK=>?_));simp;refine Q1 (c29 u v f.ar f.ar) (.cons .lst (.cons .lst .nil)) ?_;simp [unk,unA,unE,flat];refine hK _ (Q6 rfl (fun h=>by simp at h) fun _=>?_);clear hK K;refine Q7 (srQ hN fun K hK=>?_);simp;refine hK _ ?_;clear hK K;refine Qe (Qh rfl rfl)
theorem toFn (u:Bool) (f:Fn) (hf:f.ok):Contract Try.prog 7 [.agg (f.cells u)] (.agg (f.cells true)):=by
 obtain ⟨hs,ht,hob,har⟩:=hf;refine Q1s Try.func7 rfl rfl Q5x rfl rfl (by simp [Try.f7]) fun F hN hP=>?_;refine srQ hN fun K hK=>?_;simp [Fn.cells];refine hK _ ?_;clear hK K;refine srQ hN fun K hK=>?_;simp;refine hK _ ?_;clear hK K;refine srQ hN fun K hK=>?_;simp;refine Q1 (toCat u f.s hs) (.cons (.aggL Cat.pur) .nil) ?_;simp [unk,unA,unE,flat,unC,Cat.cells];refine hK _ ?_;clear hK K;refine srQ hN fun K hK=>?_;simp;refine Q1 (toCat u f.t ht) (.cons (.aggL Cat.pur) .nil) ?_;simp [unk,unA,unE,flat,unC,Cat.cells];refine hK _ ?_;clear hK K;refine srQ hN fun K hK=>?_;simp;refine Q1 (c19 u f.ob hob) (.cons .lst .nil) ?_;simp [unk,unA,unE,flat];refine hK _ ?_;clear hK K;refine srQ hN fun K hK=>?_;simp;refine Q1 (c19 u f.ar har) (.cons .lst .nil) ?_;simp [unk,unA,unE,flat];refine hK _ ?_;clear hK K;refine srQ hN fun K hK=>?_;simp;refine hK _ (Qe ⟨_,_,_,_,_,rfl,rfl,by simp,by simp,?_⟩);clear hK K;exact ⟨.agg rfl .nil,[iV f.s.n,lI f.s.fr,lI f.s.to,lI f.s.id,.lst true 1 (Ls f.s.cs),iV f.t.n,lI f.t.fr,lI f.t.to,lI f.t.id,.lst true 1 (Ls f.t.cs),lI f.ob,lI f.ar],[4,5,6,7,9,10,11,12,13,14],by simp,by simp,UpL.refl _⟩
def szFn (l:Int) (f:Fn):Int:=nn (Q3n l f.s) fun a0=>nn (Q3n a0 f.t) fun a1=>nn (less a1 f.ob.length) fun a2=>nn (less a2 f.ar.length) fun a3=>a3
theorem szFn_le {l:Int} {f:Fn} (h:l≤1048576):szFn l f≤1048576:=Q7j (fun x0 h0 _=>Q7j (fun x1 h1 _=>Q7j (fun x2 h2 _=>Q7j (fun x3 h3 _=>by rw [← h3];exact Q2o (by rw [← h2];exact Q2o (by rw [← h1];exact Q24 (by rw [← h0];exact Q24 h)))) (by decide)) (by decide)) (by decide)) (by decide)
theorem szFn_ok {l:Int} {f:Fn} (hl:l≤1048576) (h:0≤szFn l f):f.ok:=by
 unfold szFn at h;obtain ⟨p0,q0,_⟩:=Q7k h;have b0:=Q24 (f:=f.s) hl;obtain ⟨p1,q1,_⟩:=Q7k q0;have b1:=Q24 (f:=f.t) b0;obtain ⟨p2,q2,_⟩:=Q7k q1;obtain ⟨e2,_⟩:=Q4w p2;have b2:=Q2o (n:=f.ob.length) b1;obtain ⟨p3,q3,_⟩:=Q7k q2;obtain ⟨e3,_⟩:=Q4w p3;have b3:=Q2o (n:=f.ar.length) b2;exact ⟨Q8P hl p0,Q8P b0 p1,by omega,by omega⟩
theorem cszFn (u:Bool) (f:Fn) (l:Int) (h1:0≤l) (h2:l≤1048576):Contract Try.prog 5 [.agg (f.cells u),iV l] (iV (szFn l f)):=by
 refine Qa (rs:=[iV (szFn l f)]) Try.func5 rfl rfl rfl rfl (by simp [Try.f5]) fun F hN hP=>?_;refine srQ hN fun K hK=>?_;simp [Fn.cells];refine hK _ ?_;clear hK K;refine srQ hN fun K hK=>?_;simp;refine Q1 (cszCat u f.s (l) h1 (h2)) (.cons (.aggL Cat.pur) (.cons .val .nil)) ?_;simp [unk,unA,unE,flat];refine hK _ ?_;clear hK K;refine Q0 (srQ hN fun K hK=>?_);simp;refine hK _ ?_;clear hK K;refine Q6 rfl (fun g1=>?_) fun g1=>?_
 ·simp at g1;refine srQ hN fun K hK=>?_;simp;refine hK _ (Qe (Qh rfl ?_));clear hK K;simp only [szFn,nn];rw [if_pos g1]
 simp at g1;refine Q7 (srQ hN fun K hK=>?_);simp;refine Q1 (cszCat u f.t (Q3n (l) f.s) g1 (Q24 (h2))) (.cons (.aggL Cat.pur) (.cons .val .nil)) ?_;simp [unk,unA,unE,flat];refine hK _ ?_;clear hK K;refine Q0 (srQ hN fun K hK=>?_);simp;refine hK _ ?_;clear hK K;refine Q6 rfl (fun g2=>?_) fun g2=>?_
 ·simp at g2;refine srQ hN fun K hK=>?_;simp;refine hK _ (Qe (Qh rfl ?_));clear hK K;simp only [szFn,nn];rw [if_neg (Int.not_lt.2 g1),if_pos g2]
 simp at g2;refine Q7 (srQ hN fun K hK=>?_);simp;refine Q1 (c14 u f.ob (Q3n (Q3n (l) f.s) f.t) g2 (Q24 (Q24 (h2)))) (.cons .lst (.cons .val .nil)) ?_;simp [unk,unA,unE,flat];refine hK _ ?_;clear hK K;refine Q0 (srQ hN fun K hK=>?_);simp;refine hK _ ?_;clear hK K;refine Q6 rfl (fun g3=>?_) fun g3=>?_
 ·simp at g3;refine srQ hN fun K hK=>?_;simp;refine hK _ (Qe (Qh rfl ?_));clear hK K;simp only [szFn,nn];rw [if_neg (Int.not_lt.2 g1),if_neg (Int.not_lt.2 g2),if_pos g3]
 simp at g3;refine Q7 (srQ hN fun K hK=>?_);simp;refine Q1 (c14 u f.ar (less (Q3n (Q3n (l) f.s) f.t) f.ob.length) g3 (Q2o (Q24 (Q24 (h2))))) (.cons .lst (.cons .val .nil)) ?_;simp [unk,unA,unE,flat];refine hK _ ?_;clear hK K;refine Q0 (srQ hN fun K hK=>?_);simp;refine hK _ ?_;clear hK K;refine Q6 rfl (fun g4=>?_) fun g4=>?_
 ·simp at g4;refine srQ hN fun K hK=>?_;simp;refine hK _ (Qe (Qh rfl ?_));clear hK K;simp only [szFn,nn];rw [if_neg (Int.not_lt.2 g1),if_neg (Int.not_lt.2 g2),if_neg (Int.not_lt.2 g3),if_pos g4]
 simp at g4;refine Q7 (srQ hN fun K hK=>?_);simp;refine hK _ (Qe (Qh rfl ?_));clear hK K;simp only [szFn,nn];rw [if_neg (Int.not_lt.2 g1),if_neg (Int.not_lt.2 g2),if_neg (Int.not_lt.2 g3),if_neg (Int.not_lt.2 g4)]
end
section
attribute [local simp] Qf QG Qu Q15 QD
noncomputable def Q28 (xs:List Int) (n:Int):Option (Bool) :=
 ass (B64 (n - 1)) <| some ((xs.all (inR n)))
theorem Q6a (xs:List Int) (n:Int) (r:Bool) (h:Q28 xs n=some r):Contract Try.prog 85 [lI xs,iV n] (.val (.bool r)):=by
 unfold Q28 at h;replace ⟨hn,h⟩:=Q2 h;cases h;exact c22 true xs n hn
noncomputable def Q29 (n:Int) (xs:List Int):Option (Bool) :=
 some ((xs.all (inR n)))
theorem Q6b (n:Int) (xs:List Int) (r:Bool) (h:Q29 n xs=some r):Contract Try.prog 40 [iV n,lI xs] (.val (.bool r)):=by
 unfold Q29 at h;cases h;exact c57 true xs n
noncomputable def QJ (xs:List Int):Option (List Int) :=
 ass (xs.length≤1048576) <| some (xs)
theorem Q1U (xs:List Int) (r:List Int) (h:QJ xs=some r):Contract Try.prog 53 [lI xs] (lI r):=by
 unfold QJ at h;replace ⟨hx,h⟩:=Q2 h;cases h;exact c58 true xs hx
noncomputable def Q1l (xs:List Int):Option (List Int) :=
 ass (xs.length≤1048576) <| some (xs)
theorem Q39 (xs:List Int) (r:List Int) (h:Q1l xs=some r):Contract Try.prog 75 [lI xs] (lI r):=by
 unfold Q1l at h;replace ⟨hx,h⟩:=Q2 h;cases h;exact c47 true xs hx
noncomputable def Qv (c:Cat):Option (Int) :=
 some (c.fr.length)
theorem Q1R (c:Cat) (r:Int) (h:Qv c=some r):Contract Try.prog 84 [.rptr (c.cells true)] (iV r):=by
 unfold Qv at h;cases h;have q:=c61 true c [];simp only [List.append_nil] at q;exact q
noncomputable def Q2w (c:Cat):Option (Cat) :=
 ass (c.ok) <| some (c)
@[simp] abbrev Y0L (a:Cat) (b:List (AV)):List (AV):=.agg (a.cells true)::b
theorem Q6d (c:Cat) (r:Cat) (h:Q2w c=some r):Contract Try.prog 52 (Y0L c []) (.agg (r.cells true)):=by
 unfold Q2w at h;replace ⟨hc,h⟩:=Q2 h;cases h;exact c41 true c hc
noncomputable def QT (c:Cat):Option (Cat) :=
 ass (c.ok) <| some (c)
theorem Q38 (c:Cat) (r:Cat) (h:QT c=some r):Contract Try.prog 78 [.rptr (c.cells true)] (.agg (r.cells true)):=by
 unfold QT at h;replace ⟨hc,h⟩:=Q2 h;cases h;have q:=c23 true c [] hc;simp only [List.append_nil] at q;exact q
noncomputable def Qp (c:Cat) (f:Int) (g:Int):Option (Int) :=
 ass (0≤f) <| ass (f<c.cs.length) <| ass (0≤g) <| ass (g<(rx c.cs f).length) <| some ((ix (rx c.cs f) g))
theorem Q1B (c:Cat) (f:Int) (g:Int) (r:Int) (h:Qp c f g=some r):Contract Try.prog 66 [.rptr (c.cells true),iV f,iV g] (iV r):=by
 unfold Qp at h;replace ⟨h1,h⟩:=Q2 h;replace ⟨h2,h⟩:=Q2 h;replace ⟨h3,h⟩:=Q2 h;replace ⟨h4,h⟩:=Q2 h;cases h;have q:=c69 true c [] f g h1 h2 h3 h4;simp only [List.append_nil] at q;exact q
noncomputable def Q1w (c:Cat):Option (Bool) :=
 some ((bo c.Is))
theorem Q7y (c:Cat) (r:Bool) (h:Q1w c=some r):Contract Try.prog 39 (Y0L c []) (.val (.bool r)):=by
 unfold Q1w at h;cases h;exact c55 true c
noncomputable def QH (c:Cat):Option (Bool) :=
 some ((bo c.Is))
theorem Q3o (c:Cat) (r:Bool) (h:QH c=some r):Contract Try.prog 83 [.rptr (c.cells true)] (.val (.bool r)):=by
 unfold QH at h;cases h;have q:=c60 true c [];simp only [List.append_nil] at q;exact q
noncomputable def Q1O (xs:List Int) (ys:List Int):Option (Bool) :=
 some ((decide (xs=ys)))
theorem Q8c (xs:List Int) (ys:List Int) (r:Bool) (h:Q1O xs ys=some r):Contract Try.prog 30 [lI xs,lI ys] (.val (.bool r)):=by
 unfold Q1O at h;cases h;exact n54 true true xs ys
noncomputable def Q3l (c:Cat) (d:Cat):Option (Bool) :=
 some ((bo (c=d)))
theorem Q8d (c:Cat) (d:Cat) (r:Bool) (h:Q3l c d=some r):Contract Try.prog 25 (Y0L c (Y0L d [])) (.val (.bool r)):=by
 unfold Q3l at h;cases h;exact n53 true true c d
noncomputable def Q1P (f:List Int) (g:List Int):Option (List Int) :=
 ass (f.length≤1048576) <| ass (∀ y∈f,0≤y∧y<(g.length:Int)) <| some ((Q1a f g))
theorem Q49 (f:List Int) (g:List Int) (r:List Int) (h:Q1P f g=some r):Contract Try.prog 42 [lI f,lI g] (lI r):=by
 unfold Q1P at h;replace ⟨hx,h⟩:=Q2 h;replace ⟨hg,h⟩:=Q2 h;cases h;exact n58 true true f g hx hg
noncomputable def Q3k (f:List Int) (g:List Int):Option (List Int) :=
 ass (f.length≤1048576) <| ass (∀ y∈f,0≤y∧y<(g.length:Int)) <| some ((Q1a f g))
theorem Q6I (f:List Int) (g:List Int) (r:List Int) (h:Q3k f g=some r):Contract Try.prog 50 [lI f,lI g] (lI r):=by
 unfold Q3k at h;replace ⟨hx,h⟩:=Q2 h;replace ⟨hg,h⟩:=Q2 h;cases h;exact n65 true true f g hx hg
noncomputable def QN (c:Cat) (d:Cat):Option (Bool) :=
 ass (c.cs.length≤1048576) <| some ((bo (c=d)))
theorem Q4Z (c:Cat) (d:Cat) (r:Bool) (h:QN c d=some r):Contract Try.prog 46 [.rptr (c.cells true),.rptr (d.cells true)] (.val (.bool r)):=by
 unfold QN at h;replace ⟨hl,h⟩:=Q2 h;cases h;have q:=n61 true true c d [] [] hl;simp only [List.append_nil] at q;exact q
noncomputable def Q4A (xs:List Int) (n:Int):Option (Bool) :=
 some ((bo (n∈xs)))
theorem Q9u (xs:List Int) (n:Int) (r:Bool) (h:Q4A xs n=some r):Contract Try.prog 99 [lI xs,iV n] (.val (.bool r)):=by
 unfold Q4A at h;cases h;exact iq72 true xs n
end
section
attribute [local simp] Qf QG Qu Q15 QD
@[simp] theorem ass_true {α:Type} {k:Option α}:ass True k=k:=Q3 trivial
theorem bo_tt (p:Prop):(bo p=true)=p:=by simp [bo]
theorem QE {p:Prop} (h:p):bo p=true:=by simp [bo,h]
theorem Qw {p:Prop} (h:¬ p):bo p=false:=by simp [bo,h]
theorem bo_iff2 {p q:Prop} (h:p↔q):bo p=bo q:=by simp [bo,h]
theorem loop_go {σ ε:Type} {body:σ→Option (Ctl σ ε)} (g:Nat→σ) (m:Nat):∀ (k:Nat),m≤k→(∀ i,i<m→body (g i)=some (.next (g (i+1))))→Qx body k (g 0)=Qx body (k - m) (g m):=by
 induction m with
 | zero=>intro k _ _;rfl
 | succ m ih =>
  intro k hk h;rw [ih k (by omega) fun i hi=>h i (by omega)];obtain ⟨j,hj⟩:∃ j,k - m=j+1:=⟨k - m - 1,by omega⟩;rw [hj,show k - (m+1)=j by omega];simp only [Qx,h m (by omega)]
theorem Q6w {σ ε:Type} {body:σ→Option (Ctl σ ε)} (g:Nat→σ) (n:Nat) {e:ε} {s0:σ} (h0:s0=g 0) (hn:n<4611686018427387904) (h:∀ i,i<n→body (g i)=some (.next (g (i+1)))) (he:body (g n)=some (.ret e)):Qx body fuel s0=some e:=by
 subst h0;rw [loop_go g n fuel (by unfold fuel;omega) h];obtain ⟨j,hj⟩:∃ j,fuel - n=j+1:=⟨fuel - n - 1,by unfold fuel;omega⟩;rw [hj];simp only [Qx,he]
theorem loop_chk {ε:Type} {body:Int→Option (Ctl Int ε)} (n:Nat) (p:Nat→Prop) {eb eg:ε} (hn:n<4611686018427387904) (h1:∀ i:Nat,i<n→p i→body (i:Int)=some (.next ((i:Int)+1))) (h2:∀ i:Nat,i<n→¬ p i→body (i:Int)=some (.ret eb)) (h3:body (n:Int)=some (.ret eg)) :
  Qx body fuel 0=some (@ite _ (∀ i:Nat,i<n→p i) (Classical.propDecidable _) eg eb):=by
 by_cases hall:∀ i:Nat,i<n→p i
 ·rw [if_pos hall];exact Q6w (fun i:Nat=>(i:Int)) n rfl hn (fun i hi=>h1 i hi (hall i hi)) h3
 rw [if_neg hall];have hex:∃ i,i<n∧¬ p i:=Classical.byContradiction fun hx=>hall fun i hi=>Classical.byContradiction fun hp=>hx ⟨i,hi,hp⟩;obtain ⟨m,⟨hm,hp⟩,hmin⟩:∃ m,(m<n∧¬ p m)∧∀ k,k<m→¬ (k<n∧¬ p k):=by
  obtain ⟨i,hi⟩:=hex
  induction i using Nat.strongRecOn with
  | _ i ih =>
   by_cases h:∃ k,k<i∧k<n∧¬ p k
   ·obtain ⟨k,h1,h2⟩:=h;exact ih k h1 h2
   exact ⟨i,hi,fun k hk hh=>h ⟨k,hk,hh⟩⟩
 exact Q6w (fun i:Nat=>(i:Int)) m rfl (by omega) (fun i hi=>h1 i (by omega) (Classical.byContradiction fun hh=>hmin i hi ⟨by omega,hh⟩)) (h2 m hm hp)
theorem loop_acc {α ε:Type} {body:α × Int→Option (Ctl (α × Int) ε)} (g:Nat→α) (n:Nat) {e:ε} {a0:α} (h0:a0=g 0) (hn:n<4611686018427387904) (h:∀ i:Nat,i<n→body (g i,(i:Int))=some (.next (g (i+1),(i:Int)+1))) (he:body (g n,(n:Int))=some (.ret e)):Qx body fuel (a0,0)=some e:=by
 subst h0;exact Q6w (fun i:Nat=>(g i,(i:Int))) n rfl hn h he
theorem all_inR {xs:List Int} {n:Int}:xs.all (inR n)=true↔∀ j:Nat,j<xs.length→0≤ix xs j∧ix xs j<n:=by
 rw [List.all_eq_true];constructor
 ·intro h j hj;have:=h _ (List.getElem_mem hj);rw [Q16 _ _ hj] at this;simp only [inR,Bool.and_eq_true,decide_eq_true_eq] at this;omega
 intro h x hx;obtain ⟨i,hi,rfl⟩:=List.getElem_of_mem hx;rw [Q16 _ _ hi];have:=h i hi;simp only [inR,Bool.and_eq_true,decide_eq_true_eq];omega
theorem ix_bnd {xs:List Int} {n:Int} (h:∀ j:Nat,j<xs.length→0≤ix xs j∧ix xs j<n) {j:Int} (h0:0≤j) (h1:j<xs.length):0≤ix xs j∧ix xs j<n:=by
 have:=h j.toNat (by omega)
 rwa [Int.toNat_of_nonneg h0] at this
theorem Q1c {ε β:Type} {body:Int→Option (Ctl Int ε)} {K:ε→Option β} {r:β} (n:Nat) (p:Nat→Prop) {eb eg:ε} (hn:n<4611686018427387904) (h1:∀ i:Nat,i<n→p i→body (i:Int)=some (.next ((i:Int)+1))) (h2:∀ i:Nat,i<n→¬ p i→body (i:Int)=some (.ret eb)) (h3:body (n:Int)=some (.ret eg))
  (hb:(¬ ∀ i:Nat,i<n→p i)→K eb=some r) (hg:(∀ i:Nat,i<n→p i)→K eg=some r):(Qx body fuel 0).bind K=some r:=by
 rw [loop_chk n p hn h1 h2 h3]
 by_cases h:∀ i:Nat,i<n→p i
 ·rw [if_pos h];exact hg h
 rw [if_neg h];exact hb h
theorem Q1p {α ε β:Type} {body:α × Int→Option (Ctl (α × Int) ε)} {K:ε→Option β} {r:Option β} {a0:α} (n:Nat) (g:Nat→α) {e:ε} (h0:a0=g 0) (hn:n<4611686018427387904) (h:∀ i:Nat,i<n→body (g i,(i:Int))=some (.next (g (i+1),(i:Int)+1))) (he:body (g n,(n:Int))=some (.ret e)) (hk:K e=r):(Qx body fuel (a0,0)).bind K=r:=by
 rw [loop_acc g n h0 hn h he];exact hk
end
attribute [local simp] unk unA unE unT unC flat eL eI Qm QK Q1r Cat.cells Fn.cells
noncomputable def Q36 (f_:Fn):Option Bool :=
 (
  (Q1w f_.s).bind fun v2 =>
  if ¬ (v2=true) then
   some true
  else
   (Q1w f_.t).bind fun v4 =>
   if ¬ (v4=true) then
    some true
   else
    if ¬ ((f_.ob.length:Int)=f_.s.n) then
     some true
    else
     some ((f_.ar.length:Int) != (f_.s.fr.length:Int)):Option (Bool)).bind fun b1 =>
 if b1=true then
  some false
 else
  (
   (Q29 f_.t.n f_.ob).bind fun v9 =>
   if ¬ (v9=true) then
    some true
   else
    (Q29 (f_.t.fr.length:Int) f_.ar).bind fun v11 =>
    some (!v11):Option (Bool)).bind fun b8 =>
  if b8=true then
   some false
  else
   (Qx (σ:=Int) (ε:=Unit ⊕ Bool) (fun s27 =>
    if s27<(f_.s.fr.length:Int) then
     (
      ass (0≤s27∧s27<(f_.ar.length:Int)) <|
      ass (0≤ix f_.ar s27∧ix f_.ar s27<(f_.t.fr.length:Int)) <|
      ass (0≤s27∧s27<(f_.s.fr.length:Int)) <|
      ass (0≤ix f_.s.fr s27∧ix f_.s.fr s27<(f_.ob.length:Int)) <|
      if ¬ ((ix f_.t.fr (ix f_.ar s27))=(ix f_.ob (ix f_.s.fr s27))) then
       some true
      else
       ass (0≤s27∧s27<(f_.ar.length:Int)) <|
       ass (0≤ix f_.ar s27∧ix f_.ar s27<(f_.t.to.length:Int)) <|
       ass (0≤s27∧s27<(f_.s.to.length:Int)) <|
       ass (0≤ix f_.s.to s27∧ix f_.s.to s27<(f_.ob.length:Int)) <|
       some ((ix f_.t.to (ix f_.ar s27)) != (ix f_.ob (ix f_.s.to s27))):Option (Bool)).bind fun b29 =>
     if b29=true then
      some (Ctl.ret (Sum.inr false))
     else
      ass (B64 (s27+1)) <|
      some (Ctl.next (s27+1))
    else
     some (Ctl.ret (Sum.inl ()))) fuel 0).bind fun e13 =>
   match e13 with
   | .inl b13 =>
    (Qx (σ:=Int) (ε:=Unit ⊕ Bool) (fun s49 =>
     if s49<f_.s.n then
      ass (0≤s49∧s49<(f_.s.id.length:Int)) <|
      ass (0≤ix f_.s.id s49∧ix f_.s.id s49<(f_.ar.length:Int)) <|
      ass (0≤s49∧s49<(f_.ob.length:Int)) <|
      ass (0≤ix f_.ob s49∧ix f_.ob s49<(f_.t.id.length:Int)) <|
      if ¬ ((ix f_.ar (ix f_.s.id s49))=(ix f_.t.id (ix f_.ob s49))) then
       some (Ctl.ret (Sum.inr false))
      else
       ass (B64 (s49+1)) <|
       some (Ctl.next (s49+1))
     else
      some (Ctl.ret (Sum.inl ()))) fuel 0).bind fun e41 =>
    match e41 with
    | .inl b41 =>
     (Qx (σ:=Int) (ε:=Unit ⊕ Bool) (fun s90 =>
      if s90<(f_.s.fr.length:Int) then
       (
        (Qx (σ:=Int) (ε:=Bool ⊕ Unit) (fun s107 =>
         if s107<(f_.s.fr.length:Int) then
          (
           ass (0≤s90∧s90<(f_.s.to.length:Int)) <|
           ass (0≤s107∧s107<(f_.s.fr.length:Int)) <|
           if (ix f_.s.to s90)=(ix f_.s.fr s107) then
            ass (0≤s90∧s90<(f_.s.cs.length:Int)) <|
            ass (0≤s107∧s107<((rx f_.s.cs s90).length:Int)) <|
            ass (0≤ix (rx f_.s.cs s90) s107∧ix (rx f_.s.cs s90) s107<(f_.ar.length:Int)) <|
            ass (0≤s90∧s90<(f_.ar.length:Int)) <|
            ass (0≤ix f_.ar s90∧ix f_.ar s90<(f_.t.cs.length:Int)) <|
            ass (0≤s107∧s107<(f_.ar.length:Int)) <|
            ass (0≤ix f_.ar s107∧ix f_.ar s107<((rx f_.t.cs (ix f_.ar s90)).length:Int)) <|
            some ((ix f_.ar (ix (rx f_.s.cs s90) s107)) != (ix (rx f_.t.cs (ix f_.ar s90)) (ix f_.ar s107)))
           else
            some false:Option (Bool)).bind fun b109 =>
          if b109=true then
           some (Ctl.ret (Sum.inl false))
          else
           ass (B64 (s107+1)) <|
           some (Ctl.next (s107+1))
         else
          some (Ctl.ret (Sum.inr ()))) fuel 0).bind fun e107 =>
        match e107 with
        | .inl p107 =>
         some (Sum.inr p107)
        | .inr p107 =>
         some (Sum.inl p107):Option (Unit ⊕ Bool)).bind fun e92 =>
       match e92 with
       | .inl b92 =>
        ass (B64 (s90+1)) <|
        some (Ctl.next (s90+1))
       | .inr p92 =>
        some (Ctl.ret (Sum.inr p92))
      else
       some (Ctl.ret (Sum.inl ()))) fuel 0).bind fun e57 =>
     match e57 with
     | .inl b57 =>
      some true
     | .inr p57 =>
      some p57
    | .inr p41 =>
     some p41
   | .inr p13 =>
    some p13
theorem wkQ8 {F : Fx} {st st' : St} (m : List (Nat × Nat)) (h : (m.map Prod.fst).Nodup ∧ (m.map Prod.snd).Nodup ∧ (∀ id, id < F.pins → look id m = some id) ∧ (∀ p ∈ m, p.2 < st'.n) ∧ (∀ p ∈ st'.h, p.1 < st'.n) ∧ (∀ p ∈ st'.s, p.2 = rl m (st.get p.1) ∨ p.2 = .bot) ∧ ∀ p ∈ st'.h, hhOk m st.h p.1 p.2 := by simp [hP, hhOk, back, idQ, Cat.cells, Fn.cells, UA, U1, IA, I1, LA, L1, BA, B1, EA, E1, E2, eB, eI, eL]) : Wk F st st' := Wk.r1 m h
theorem wkI8 {F : Fx} {st st' : St} (m : Nat) (h : ((idQ m).map Prod.fst).Nodup ∧ ((idQ m).map Prod.snd).Nodup ∧ (∀ id, id < F.pins → look id (idQ m) = some id) ∧ (∀ p ∈ (idQ m), p.2 < st'.n) ∧ (∀ p ∈ st'.h, p.1 < st'.n) ∧ (∀ p ∈ st'.s, p.2 = rl (idQ m) (st.get p.1) ∨ p.2 = .bot) ∧ ∀ p ∈ st'.h, hhOk (idQ m) st.h p.1 p.2 := by simp [hP, hhOk, back, idQ, Cat.cells, Fn.cells, UA, U1, IA, I1, LA, L1, BA, B1, EA, E1, E2, eB, eI, eL]) : Wk F st st' := Wk.r1 (idQ m) h
@[simp] abbrev Ye (a:Fn) (b:List (Nat × Ent)):List (Nat × Ent):=(0,.mix 12 [(Fn.cells true a)])::(1,.mix 5 [(Cat.cells true a.s)])::(2,.mix 5 [(Cat.cells true a.t)])::b
@[simp] abbrev Yw (a:List (Nat × AV)):List (Nat × AV):=(1,.adr 0 0 0)::(3,.adr 1 0 0)::(4,.adr 2 0 0)::a
@[simp] abbrev Y09 (a:List (Nat × AV)):List (Nat × AV):=(2,.val (.bool false))::a
theorem Q7A (f_:Fn) (r:Bool) (h:Q36 f_=some r):Contract Try.prog 24 [.agg (f_.cells true)] (.val (.bool r)):=by
 refine Q8 (rvs:=[.tmp 2]) (rs:=[.val (.bool r)]) Try.func24 rfl rfl rfl rfl (by simp [Try.f24]) fun F hN hP=>?_;unfold Q36 at h;refine Q0 (runQ hN fun K hK=>?_);simp;repeat refine sdQ ?_
 refine hK _ ?_;clear hK K;refine tn (Q4 (st':=⟨[(1,.adr 0 0 0)],[(0,.mix 12 [(Fn.cells true f_)])],1⟩) (wkQ8 [(0,0)]) (Q0 (w_runS mo (by rw [hN];decide) fun K hK=>?_)));simp;repeat refine sdQ ?_
 refine hK _ (tn (Q4 (st':=⟨Yw [],Ye f_ [],3⟩) (wkI8 3) (Q0 (Q0 ?_))));clear hK K;replace ⟨e1,h,h1⟩:=bind_some h;refine Qd (fun b1:Bool=>⟨Yw [(37,.val (.bool b1))],Ye f_ [],3⟩) (fun b1=>b1=e1) ?_ ?_
 ·refine runQ hN fun K hK=>?_;simp;repeat with_reducible refine sdQ ?_
  replace ⟨v2,hv2,h⟩:=bind_some h;refine Q1 (Q7y _ v2 hv2) (.cons (.aggL (.cons .val (.cons .lst (.cons .lst (.cons .lst (.cons .lst .nil)))))) .nil) ?_;simp;repeat with_reducible refine sdQ ?_
  refine Qi (fun g=>?_) (fun g=>?_)
  ·have g3:¬ (¬ (v2=true)):=gQ;clear g;replace h:=if_r g3 h;simp;(repeat with_reducible refine sdQ ?_);replace ⟨v4,hv4,h⟩:=bind_some h;refine Q1 (Q7y _ v4 hv4) (.cons (.aggL (.cons .val (.cons .lst (.cons .lst (.cons .lst (.cons .lst .nil)))))) .nil) ?_;simp;(repeat with_reducible refine sdQ ?_);refine Qi (fun g=>?_) (fun g=>?_)
   ·have g5:¬ (¬ (v4=true)):=gQ;clear g;replace h:=if_r g5 h;simp;(repeat with_reducible refine sdQ ?_);refine Qi (fun g=>?_) (fun g=>?_)
    ·have g6:¬ (¬ ((f_.ob.length:Int)=f_.s.n)):=gQ;clear g;replace h:=if_r g6 h;simp;(repeat refine sdQ ?_);refine hK _ ?_;exact jn (b:=(f_.ar.length:Int) != (f_.s.fr.length:Int)) (Option.some.inj h) (wkI8 3)
    have g6:¬ ((f_.ob.length:Int)=f_.s.n):=gQ;clear g;replace h:=if_l g6 h;simp;(repeat refine sdQ ?_);refine hK _ ?_;exact jn (b:=true) (Option.some.inj h) (wkI8 3)
   have g5:¬ (v4=true):=gQ;clear g;replace h:=if_l g5 h;simp;(repeat refine sdQ ?_);refine hK _ ?_;exact jn (b:=true) (Option.some.inj h) (wkI8 3)
  have g3:¬ (v2=true):=gQ;clear g;replace h:=if_l g3 h;simp;repeat refine sdQ ?_
  refine hK _ ?_;exact jn (b:=true) (Option.some.inj h) (wkI8 3)
 intro b1 hb1;have h:=h1;try rw [← hb1] at h
 clear h1;try dsimp only at h
 refine Q6 rfl (fun g=>?_) fun g=>?_
 ·have g7:b1=true:=gQ;clear g;replace h:=if_l g7 h;refine Q0 (runQ hN fun K hK=>?_);simp;repeat refine sdQ ?_
  refine hK _ (tn (Q4 (st':=⟨Y09 [],[],0⟩) (wkQ8 []) (Qe (tr ?_))));clear hK K;have hr:=Option.some.inj h;rw [← hr];refine ⟨_,(.tmp .nil),?_⟩;refine ⟨(.one rfl rfl .nil),[.val (.bool false)],[],by simp [Cat.cells,Fn.cells,UA,U1,IA,I1,LA,L1,BA,B1,EA,E1,E2,eB,eI,eL],by simp,(UpL.refl _)⟩
 have g7:¬ (b1=true):=gQ;clear g;replace h:=if_r g7 h;refine Q7 (tn (Q0 (Q0 ?_)));replace ⟨e8,h,h8⟩:=bind_some h;refine Qd (fun b8:Bool=>⟨Yw [(52,.val (.bool b8))],Ye f_ [],3⟩) (fun b8=>b8=e8) ?_ ?_
 ·refine runQ hN fun K hK=>?_;simp;repeat with_reducible refine sdQ ?_
  replace ⟨v9,hv9,h⟩:=bind_some h;refine Q1 (Q6b _ _ v9 hv9) (.cons .val (.cons .lst .nil)) ?_;simp;repeat with_reducible refine sdQ ?_
  refine Qi (fun g=>?_) (fun g=>?_)
  ·have g10:¬ (¬ (v9=true)):=gQ;clear g;replace h:=if_r g10 h;simp;(repeat with_reducible refine sdQ ?_);replace ⟨v11,hv11,h⟩:=bind_some h;refine Q1 (Q6b _ _ v11 hv11) (.cons .val (.cons .lst .nil)) ?_;simp;(repeat refine sdQ ?_);refine hK _ ?_;exact jn (b:=!v11) (Option.some.inj h) (wkI8 3)
  have g10:¬ (v9=true):=gQ;clear g;replace h:=if_l g10 h;simp;repeat refine sdQ ?_
  refine hK _ ?_;exact jn (b:=true) (Option.some.inj h) (wkI8 3)
 intro b8 hb8;have h:=h8;try rw [← hb8] at h
 clear h8;try dsimp only at h
 refine Q6 rfl (fun g=>?_) fun g=>?_
 ·have g12:b8=true:=gQ;clear g;replace h:=if_l g12 h;refine Q0 (runQ hN fun K hK=>?_);simp;repeat refine sdQ ?_
  refine hK _ (tn (Q4 (st':=⟨Y09 [],[],0⟩) (wkQ8 []) (Qe (tr ?_))));clear hK K;have hr:=Option.some.inj h;rw [← hr];refine ⟨_,(.tmp .nil),?_⟩;refine ⟨(.one rfl rfl .nil),[.val (.bool false)],[],by simp [Cat.cells,Fn.cells,UA,U1,IA,I1,LA,L1,BA,B1,EA,E1,E2,eB,eI,eL],by simp,(UpL.refl _)⟩
 have g12:¬ (b8=true):=gQ;clear g;replace h:=if_r g12 h;refine Q7 (tn (Q0 (Q0 (runQ hN fun K hK=>?_))));simp;repeat refine sdQ ?_
 refine hK _ (tn (Q4 (st':=⟨Yw [(5,iV 0)],Ye f_ [],3⟩) (wkI8 3) ?_));clear hK K;replace ⟨e13,h,h13⟩:=bind_some h;refine Qd (fun b13:Unit=>⟨Yw [],Ye f_ [],3⟩) (fun b13=>Sum.inl b13=e13) ?_ ?_
 ·refine Q5 (Qs h (fun s27:Int=>⟨Yw [(5,iV s27)],Ye f_ [],3⟩) (wkI8 3) ?_);clear h;intro k27 s27 c27 h hk27;refine Q0 (Q0 (runQ hN fun K hK=>?_));simp;repeat refine sdQ ?_
  refine hK _ ?_;clear hK K;refine tn (Q6 rfl (fun g=>?_) fun g=>?_)
  ·have g28:s27<(f_.s.fr.length:Int):=gQ;clear g;replace h:=if_l g28 h;refine Q7 (tn (Q0 (Q5 (Q0 ?_))));replace ⟨e29,h,h29⟩:=bind_some h;refine Qd (fun b29:Bool=>⟨Yw [(5,iV s27),(99,.val (.bool b29))],Ye f_ [],3⟩) (fun b29=>b29=e29) ?_ ?_
   ·refine runQ hN fun K hK=>?_;replace ⟨a30,h⟩:=Q2 h;replace ⟨a31,h⟩:=Q2 h;replace ⟨a32,h⟩:=Q2 h;replace ⟨a33,h⟩:=Q2 h;simp [at_I a30,at_I a31,at_I a32,at_I a33];(repeat with_reducible refine sdQ ?_);refine Qi (fun g=>?_) (fun g=>?_)
    ·have g34:¬ (¬ ((ix f_.t.fr (ix f_.ar s27))=(ix f_.ob (ix f_.s.fr s27)))):=gQ;clear g;replace h:=if_r g34 h;replace ⟨a35,h⟩:=Q2 h;replace ⟨a36,h⟩:=Q2 h;replace ⟨a37,h⟩:=Q2 h;replace ⟨a38,h⟩:=Q2 h;simp [at_I a30,at_I a31,at_I a32,at_I a33,at_I a35,at_I a36,at_I a37,at_I a38];(repeat refine sdQ ?_);refine hK _ ?_;exact jn (b:=(ix f_.t.to (ix f_.ar s27)) != (ix f_.ob (ix f_.s.to s27))) (Option.some.inj h) (wkI8 3)
    have g34:¬ ((ix f_.t.fr (ix f_.ar s27))=(ix f_.ob (ix f_.s.fr s27))):=gQ;clear g;replace h:=if_l g34 h;simp [at_I a30,at_I a31,at_I a32,at_I a33];(repeat refine sdQ ?_);refine hK _ ?_;exact jn (b:=true) (Option.some.inj h) (wkI8 3)
   intro b29 hb29;have h:=h29;(try rw [← hb29] at h);clear h29;(try dsimp only at h);refine Q6 rfl (fun g=>?_) fun g=>?_
   ·have g39:b29=true:=gQ;clear g;replace h:=if_l g39 h;refine Q0 (runQ hN fun K hK=>?_);simp;(repeat refine sdQ ?_);refine hK _ (tn (Q4 (st':=⟨Y09 [],[],0⟩) (wkQ8 []) (Qe (br (tr (lr (br (tr ?_))))))));clear hK K;cases h;have q:_=e13:=hk27;have h:=h13;rw [← q] at h;clear q;(try dsimp only at h);have hr:=Option.some.inj h;rw [← hr];refine ⟨_,(.tmp .nil),?_⟩;refine ⟨(.one rfl rfl .nil),[.val (.bool false)],[],by simp [Cat.cells,Fn.cells,UA,U1,IA,I1,LA,L1,BA,B1,EA,E1,E2,eB,eI,eL],by simp,(UpL.refl _)⟩
   have g39:¬ (b29=true):=gQ;clear g;replace h:=if_r g39 h;refine Q7 (bn (tn (runQ hN fun K hK=>?_)));replace ⟨a40,h⟩:=Q2 h;simp [Qo a40];(repeat refine sdQ ?_);refine hK _ ?_;clear hK K;cases h;exact rn (s':=s27+1) hk27 (wkI8 3)
  have g28:¬ (s27<(f_.s.fr.length:Int)):=gQ;clear g;replace h:=if_r g28 h;refine Qj (tx (lx (bh ?_)));cases h;exact jn (b:=()) hk27 (wkI8 3)
 intro b13 hb13;have h:=h13;try rw [← hb13] at h
 clear h13;try dsimp only at h
 refine Q0 (Q0 (runQ hN fun K hK=>?_));simp;repeat refine sdQ ?_
 refine hK _ (tn (Q4 (st':=⟨Yw [(6,iV 0)],Ye f_ [],3⟩) (wkI8 3) ?_));clear hK K;replace ⟨e41,h,h41⟩:=bind_some h;refine Qd (fun b41:Unit=>⟨Yw [],Ye f_ [],3⟩) (fun b41=>Sum.inl b41=e41) ?_ ?_
 ·refine Q5 (Qs h (fun s49:Int=>⟨Yw [(6,iV s49)],Ye f_ [],3⟩) (wkI8 3) ?_);clear h;intro k49 s49 c49 h hk49;refine Q0 (Q0 (runQ hN fun K hK=>?_));simp;repeat refine sdQ ?_
  refine hK _ ?_;clear hK K;refine tn (Q6 rfl (fun g=>?_) fun g=>?_)
  ·have g50:s49<f_.s.n:=gQ;clear g;replace h:=if_l g50 h;refine Q7 (tn (Q0 (Q5 (Q0 (runQ hN fun K hK=>?_)))));replace ⟨a51,h⟩:=Q2 h;replace ⟨a52,h⟩:=Q2 h;replace ⟨a53,h⟩:=Q2 h;replace ⟨a54,h⟩:=Q2 h;simp [at_I a51,at_I a52,at_I a53,at_I a54];(repeat refine sdQ ?_);refine hK _ ?_;clear hK K;refine tn (Q6 rfl (fun g=>?_) fun g=>?_)
   ·have g55:¬ ((ix f_.ar (ix f_.s.id s49))=(ix f_.t.id (ix f_.ob s49))):=gQ;clear g;replace h:=if_l g55 h;refine Q0 (runQ hN fun K hK=>?_);simp;(repeat refine sdQ ?_);refine hK _ (tn (Q4 (st':=⟨Y09 [],[],0⟩) (wkQ8 []) (Qe (br (tr (lr (br (tr ?_))))))));clear hK K;cases h;have q:_=e41:=hk49;have h:=h41;rw [← q] at h;clear q;(try dsimp only at h);have hr:=Option.some.inj h;rw [← hr];refine ⟨_,(.tmp .nil),?_⟩;refine ⟨(.one rfl rfl .nil),[.val (.bool false)],[],by simp [Cat.cells,Fn.cells,UA,U1,IA,I1,LA,L1,BA,B1,EA,E1,E2,eB,eI,eL],by simp,(UpL.refl _)⟩
   have g55:¬ (¬ ((ix f_.ar (ix f_.s.id s49))=(ix f_.t.id (ix f_.ob s49)))):=gQ;clear g;replace h:=if_r g55 h;refine Q7 (bn (tn (runQ hN fun K hK=>?_)));replace ⟨a56,h⟩:=Q2 h;simp [Qo a56];(repeat refine sdQ ?_);refine hK _ ?_;clear hK K;cases h;exact rn (s':=s49+1) hk49 (wkI8 3)
  have g50:¬ (s49<f_.s.n):=gQ;clear g;replace h:=if_r g50 h;refine Qj (tx (lx (bh ?_)));cases h;exact jn (b:=()) hk49 (wkI8 3)
 intro b41 hb41;have h:=h41;try rw [← hb41] at h
 clear h41;try dsimp only at h
 refine Q0 (Q0 (runQ hN fun K hK=>?_));simp;repeat refine sdQ ?_
 refine hK _ (tn (Q4 (st':=⟨Yw [(7,iV 0)],Ye f_ [],3⟩) (wkI8 3) ?_));clear hK K;replace ⟨e57,h,h57⟩:=bind_some h;refine Qd (fun b57:Unit=>⟨[],[],0⟩) (fun b57=>Sum.inl b57=e57) ?_ ?_
 ·refine Q5 (Qs h (fun s90:Int=>⟨Yw [(7,iV s90)],Ye f_ [],3⟩) (wkI8 3) ?_);clear h;intro k90 s90 c90 h hk90;refine Q0 (Q0 (runQ hN fun K hK=>?_));simp;repeat refine sdQ ?_
  refine hK _ ?_;clear hK K;refine tn (Q6 rfl (fun g=>?_) fun g=>?_)
  ·have g91:s90<(f_.s.fr.length:Int):=gQ;clear g;replace h:=if_l g91 h;refine Q7 (tn (Q0 ?_));replace ⟨e92,h,h92⟩:=bind_some h;refine Qd (fun b92:Unit=>⟨Yw [(7,iV s90)],Ye f_ [],3⟩) (fun b92=>Sum.inl b92=e92) ?_ ?_
   ·refine Q5 (Q0 (runQ hN fun K hK=>?_));simp;(repeat refine sdQ ?_);refine hK _ (tn (Q4 (st':=⟨Yw [(7,iV s90),(8,iV 0)],Ye f_ [],3⟩) (wkI8 3) (Q5 ?_)));clear hK K;replace ⟨e107,he107,h107⟩:=bind_some h;refine Qs he107 (fun s107:Int=>⟨Yw [(7,iV s90),(8,iV s107)],Ye f_ [],3⟩) (wkI8 3) ?_;intro k107 s107 c107 h hk107;refine Q0 (Q0 (runQ hN fun K hK=>?_));simp;(repeat refine sdQ ?_);refine hK _ ?_;clear hK K;refine tn (Q6 rfl (fun g=>?_) fun g=>?_)
    ·have g108:s107<(f_.s.fr.length:Int):=gQ;clear g;replace h:=if_l g108 h;refine Q7 (tn (Q0 (Q5 (Q0 ?_))));replace ⟨e109,h,h109⟩:=bind_some h;refine Qd (fun b109:Bool=>⟨Yw [(7,iV s90),(8,iV s107),(180,.val (.bool b109))],Ye f_ [],3⟩) (fun b109=>b109=e109) ?_ ?_
     ·refine runQ hN fun K hK=>?_;replace ⟨a110,h⟩:=Q2 h;replace ⟨a111,h⟩:=Q2 h;simp [at_I a110,at_I a111];(repeat with_reducible refine sdQ ?_);refine Qi (fun g=>?_) (fun g=>?_)
      ·have g112:(ix f_.s.to s90)=(ix f_.s.fr s107):=gQ;clear g;replace h:=if_l g112 h;replace ⟨a113,h⟩:=Q2 h;replace ⟨a114,h⟩:=Q2 h;replace ⟨a115,h⟩:=Q2 h;replace ⟨a116,h⟩:=Q2 h;replace ⟨a117,h⟩:=Q2 h;replace ⟨a118,h⟩:=Q2 h;replace ⟨a119,h⟩:=Q2 h;simp [at_I a110,at_I a111,at_L a113,at_I a114,at_I a115,at_I a116,at_L a117,at_I a118,at_I a119];(repeat refine sdQ ?_);refine hK _ ?_;exact jn (b:=(ix f_.ar (ix (rx f_.s.cs s90) s107)) != (ix (rx f_.t.cs (ix f_.ar s90)) (ix f_.ar s107))) (Option.some.inj h) (wkI8 3)
      have g112:¬ ((ix f_.s.to s90)=(ix f_.s.fr s107)):=gQ;clear g;replace h:=if_r g112 h;simp [at_I a110,at_I a111];(repeat refine sdQ ?_);refine hK _ ?_;exact jn (b:=false) (Option.some.inj h) (wkI8 3)
     intro b109 hb109;have h:=h109;(try rw [← hb109] at h);clear h109;(try dsimp only at h);refine Q6 rfl (fun g=>?_) fun g=>?_
     ·have g120:b109=true:=gQ;clear g;replace h:=if_l g120 h;refine Q0 (runQ hN fun K hK=>?_);simp;(repeat refine sdQ ?_);refine hK _ (tn (Q4 (st':=⟨Y09 [],[],0⟩) (wkQ8 []) (Qe (br (tr (lr (br (br (tr (lr (br (tr ?_))))))))))));clear hK K;cases h;have q:_=e107:=hk107;have h:=h107;rw [← q] at h;clear q;(try dsimp only at h);cases h;have h:=h92;(try dsimp only at h);cases h;have q:_=e57:=hk90;have h:=h57;rw [← q] at h;clear q;(try dsimp only at h);have hr:=Option.some.inj h;rw [← hr];refine ⟨_,(.tmp .nil),?_⟩;refine ⟨(.one rfl rfl .nil),[.val (.bool false)],[],by simp [Cat.cells,Fn.cells,UA,U1,IA,I1,LA,L1,BA,B1,EA,E1,E2,eB,eI,eL],by simp,(UpL.refl _)⟩
     have g120:¬ (b109=true):=gQ;clear g;replace h:=if_r g120 h;refine Q7 (bn (tn (runQ hN fun K hK=>?_)));replace ⟨a121,h⟩:=Q2 h;simp [Qo a121];(repeat refine sdQ ?_);refine hK _ ?_;clear hK K;cases h;exact rn (s':=s107+1) hk107 (wkI8 3)
    have g108:¬ (s107<(f_.s.fr.length:Int)):=gQ;clear g;replace h:=if_r g108 h;refine Qj (tx (lx (bh (bn ?_))));cases h;have q:_=e107:=hk107;have h:=h107;rw [← q] at h;clear q;(try dsimp only at h);exact jn (b:=()) (Option.some.inj h) (wkI8 3)
   intro b92 hb92;have h:=h92;(try rw [← hb92] at h);clear h92;(try dsimp only at h);refine runQ hN fun K hK=>?_;replace ⟨a122,h⟩:=Q2 h;simp [Qo a122];(repeat refine sdQ ?_);refine hK _ ?_;clear hK K;cases h;exact rn (s':=s90+1) hk90 (wkI8 3)
  have g91:¬ (s90<(f_.s.fr.length:Int)):=gQ;clear g;replace h:=if_r g91 h;refine Qj (tx (lx (bh ?_)));cases h;exact jn (b:=()) hk90 (wkQ8 [])
 intro b57 hb57;have h:=h57;try rw [← hb57] at h
 clear h57;try dsimp only at h
 refine Q0 (runQ hN fun K hK=>?_);simp;repeat refine sdQ ?_
 refine hK _ (tn (Q4 (st':=⟨[(2,.val (.bool true))],[],0⟩) (wkQ8 []) (Qe ?_)));clear hK K;have hr:=Option.some.inj h;rw [← hr];refine ⟨_,(.tmp .nil),?_⟩;refine ⟨(.one rfl rfl .nil),[.val (.bool true)],[],by simp [Cat.cells,Fn.cells,UA,U1,IA,I1,LA,L1,BA,B1,EA,E1,E2,eB,eI,eL],by simp,(UpL.refl _)⟩
section
attribute [local simp] Qf QG Qu Q15 QD
structure Fn.Is (f:Fn):Prop where
 s:f.s.Is
 t:f.t.Is
 lo:(f.ob.length:Int)=f.s.n
 la:f.ar.length=f.s.fr.length
 ob:∀ j:Nat,j<f.ob.length→0≤ix f.ob j∧ix f.ob j<f.t.n
 ar:∀ j:Nat,j<f.ar.length→0≤ix f.ar j∧ix f.ar j<f.t.fr.length
 ends:∀ a:Nat,a<f.s.fr.length→ix f.t.fr (ix f.ar a)=ix f.ob (ix f.s.fr a)∧ix f.t.to (ix f.ar a)=ix f.ob (ix f.s.to a)
 ids:∀ x:Nat,x<f.s.id.length→ix f.ar (ix f.s.id x)=ix f.t.id (ix f.ob x)
 comp:∀ a:Nat,a<f.s.fr.length→∀ b:Nat,b<f.s.fr.length→ix f.s.to a=ix f.s.fr b→ix f.ar (ix (rx f.s.cs a) b)=ix (rx f.t.cs (ix f.ar a)) (ix f.ar b)
theorem Cat.Sh.frn {c:Cat} (h:c.Sh) {a:Nat} (ha:a<c.fr.length):(0≤ix c.fr a∧ix c.fr a<c.id.length)∧(0≤ix c.to a∧ix c.to a<c.id.length):=⟨h.fr' (by omega) (by omega),h.to' (by omega) (by omega)⟩
theorem Cat.Sh.idn {c:Cat} (h:c.Sh) {a:Nat} (ha:a<c.id.length):0≤ix c.id a∧ix c.id a<c.fr.length:=h.id' (by omega) (by omega)
theorem Cat.Sh.cmp {c:Cat} (h:c.Sh) {f g:Int} (h0:0≤f) (h1:f<c.fr.length) (h2:0≤g) (h3:g<c.fr.length) (e:ix c.to f=ix c.fr g):0≤ix (rx c.cs f) g∧ix (rx c.cs f) g<c.fr.length:=by
 have:=(h.cell' h0 h1 h2 h3).2 e;omega
theorem e_l06Is (f:Fn):Q36 f=some (bo f.Is):=by
 unfold Q36
 by_cases h1:f.s.Is
 case neg=>rw [Qw (show ¬ f.Is from fun q=>h1 q.s)];simp [Q1w,bo,h1]
 by_cases h2:f.t.Is
 case neg=>rw [Qw (show ¬ f.Is from fun q=>h2 q.t)];simp [Q1w,bo,h1,h2]
 by_cases h3:(f.ob.length:Int)=f.s.n
 case neg=>rw [Qw (show ¬ f.Is from fun q=>h3 q.lo)];simp [Q1w,bo,h1,h2,h3]
 by_cases h4:(f.ar.length:Int)=f.s.fr.length
 case neg=>rw [Qw (show ¬ f.Is from fun q=>h4 (by rw [q.la]))];simp [Q1w,bo,h1,h2,h3,h4]
 by_cases h5:f.ob.all (inR f.t.n)=true
 case neg=>rw [Qw (show ¬ f.Is from fun q=>h5 (all_inR.2 q.ob))];simp [Q1w,Q29,bo,h1,h2,h3,h4,h5]
 by_cases h6:f.ar.all (inR f.t.fr.length)=true
 case neg=>rw [Qw (show ¬ f.Is from fun q=>h6 (all_inR.2 q.ar))];simp [Q1w,Q29,bo,h1,h2,h3,h4,h5,h6]
 have ho:=all_inR.1 h5;have ha:=all_inR.1 h6;have hs:=h1.1;have ht:=h2.1;simp only [Q1w,Q29,QE h1,QE h2,h3,h4,h5,h6,Option.bind_some,if_true,if_false,not_true_eq_false,bne_self_eq_false,Bool.not_true,Bool.false_eq_true];refine Q1c f.s.fr.length (fun a:Nat=>ix f.t.fr (ix f.ar a)=ix f.ob (ix f.s.fr a)∧ix f.t.to (ix f.ar a)=ix f.ob (ix f.s.to a)) (eb:=Sum.inr false) (eg:=Sum.inl ()) (by have:=hs.m40;omega) (fun a hi hp=>?_) (fun a hi hp=>?_) ?_ (fun hx=>?_) fun q1=>?_
 ·have:=hs.frn hi;have:=ha a (by omega);have:=hs.lt;have:=ht.lt;have:=hs.li;have:=hs.m40;simp (disch:=omega) only [Q3,if_pos,B64,hp.1,hp.2,Option.bind_some,not_true_eq_false,if_false,bne_self_eq_false,Bool.false_eq_true]
 ·have:=hs.frn hi;have:=ha a (by omega);have:=hs.lt;have:=ht.lt;have:=hs.li;have:=hs.m40
  by_cases hp1:ix f.t.fr (ix f.ar a)=ix f.ob (ix f.s.fr a)
  ·have hp2:¬ ix f.t.to (ix f.ar a)=ix f.ob (ix f.s.to a):=fun h=>hp ⟨hp1,h⟩;simp (disch:=omega) [Q3,B64,hp1,hp2,hi]
  simp (disch:=omega) [Q3,B64,hp1,hi]
 ·simp
 ·rw [Qw (show ¬ f.Is from fun q=>hx q.ends)]
 simp only;refine Q1c f.s.id.length (fun x:Nat=>ix f.ar (ix f.s.id x)=ix f.t.id (ix f.ob x)) (eb:=Sum.inr false) (eg:=Sum.inl ()) (by have:=hs.n8;have:=hs.li;omega) (fun a hi hp=>?_) (fun a hi hp=>?_) ?_ (fun hx=>?_) fun q2=>?_
 ·have:=hs.idn hi;have:=ho a (by have:=hs.li;omega);have:=hs.li;have:=ht.li;have:=hs.n8;simp (disch:=omega) [Q3,B64,hp];omega
 ·have:=hs.idn hi;have:=ho a (by have:=hs.li;omega);have:=hs.li;have:=ht.li;have:=hs.n8;simp (disch:=omega) [Q3,B64,hp];omega
 ·simp [hs.li]
 ·rw [Qw (show ¬ f.Is from fun q=>hx q.ids)]
 simp only;refine Q1c f.s.fr.length (fun a:Nat=>∀ b:Nat,b<f.s.fr.length→ix f.s.to a=ix f.s.fr b→ix f.ar (ix (rx f.s.cs a) b)=ix (rx f.t.cs (ix f.ar a)) (ix f.ar b)) (eb:=Sum.inr false) (eg:=Sum.inl ()) (by have:=hs.m40;omega) (fun a hi hp=>?_) (fun a hi hp=>?_) ?_ (fun hx=>?_) fun q3=>?_;rotate_left 2
 ·simp
 ·rw [Qw (show ¬ f.Is from fun q=>hx q.comp)]
 ·rw [QE (show f.Is from ⟨h1,h2,h3,by omega,ho,ha,q1,q2,q3⟩)]
 all_goals
  have m40:=hs.m40;have h7:=hs.lt;have h8:=ha a (by omega);have h9:=hs.lc;have h10:=ht.lc;have h11:=hs.row' (j:=a) (by omega) (by omega);have h12:=ht.row' (j:=ix f.ar a) (by omega) (by omega);rw [if_pos (by omega)]
 all_goals
  rw [Option.bind_assoc];refine Q1c f.s.fr.length (fun b:Nat=>ix f.s.to a=ix f.s.fr b→ix f.ar (ix (rx f.s.cs a) b)=ix (rx f.t.cs (ix f.ar a)) (ix f.ar b)) (eb:=Sum.inl false) (eg:=Sum.inr ()) (by omega) (fun b hb hq=>?_) (fun b hb hq=>?_) ?_ (fun hn=>?_) fun hn=>?_
 all_goals first
  | exact absurd hp hn
  | exact absurd hn hp
  | (simp (disch:=omega) [Q3,B64];done)
  | skip
 all_goals
  have h13:=ha b (by omega)
  by_cases h14:ix f.s.to a=ix f.s.fr b
  ·have h15:=hs.cmp (f:=a) (g:=b) (by omega) (by omega) (by omega) (by omega) h14;first
    | (have hq1:=hq h14;simp (disch:=omega) [Q3,B64,h14,hq1,hb])
    | (have hq1:=fun e=>hq (fun _=>e);simp (disch:=omega) [Q3,B64,h14,hq1,hb];exact hq1)
  first
   | (simp (disch:=omega) [Q3,B64,h14,hb];done)
   | exact absurd (fun e=>absurd e h14) hq
end
attribute [local simp] unk unA unE unT unC flat eL eI Qm QK Q1r Cat.cells Fn.cells
noncomputable def Q1N (c_:Cat) (d_:Cat) (objects_:List Int) (arrows_:List Int):Option Fn :=
 (QT c_).bind fun v1 =>
 (QT d_).bind fun v2 =>
 (Q1l objects_).bind fun v3 =>
 (Q1l arrows_).bind fun v4 =>
 some (⟨v1,v2,v3,v4⟩:Fn)
@[simp] abbrev YJ (a b:Cat) (c d:List Int) (e:List (Nat × Ent)):List (Nat × Ent):=(0,.mix 12 [[iV a.n,.own 1 0 a.fr.length,.own 2 0 a.to.length,.own 3 0 a.id.length,.own 4 0 a.cs.length,iV b.n,.own 5 0 b.fr.length,.own 6 0 b.to.length,.own 7 0 b.id.length,.own 8 0 b.cs.length,.own 9 0 c.length,.own 10 0 d.length]])::(1,rI a.fr)::(2,rI a.to)::(3,rI a.id)::(4,.row 1 (Ls a.cs))::(5,rI b.fr)::(6,rI b.to)::(7,rI b.id)::(8,.row 1 (Ls b.cs))::(9,rI c)::(10,rI d)::e
@[simp] abbrev Y0I (a:List (AV)):List (AV):=iV 0::nS::nS::nS::nS::a
@[simp] abbrev YV (a:List (Nat × Ent)):List (Nat × Ent):=(0,.mix 12 [(Y0I (Y0I [nS,nS]))])::a
theorem Q5A (c_:Cat) (d_:Cat) (objects_:List Int) (arrows_:List Int) (r:Fn) (h:Q1N c_ d_ objects_ arrows_=some r):Contract Try.prog 62 [.rptr (c_.cells true),.rptr (d_.cells true),lI objects_,lI arrows_] (.agg (r.cells true)):=by
 refine Q8 (rvs:=[.cell 8 33]) (rs:=[.agg (r.cells true)]) Try.func62 rfl rfl rfl rfl (by simp [Try.f62]) fun F hN hP=>?_;unfold Q1N at h;refine Q0 (runQ hN fun K hK=>?_);simp;repeat refine sdQ ?_
 refine hK _ ?_;clear hK K;refine tn (Q4 (st':=⟨[(0,.rptr (Cat.cells true c_)),(1,.rptr (Cat.cells true d_)),(2,lI objects_),(3,lI arrows_),(8,.adr 0 0 0)],YV [],1⟩) (wkQ8 [(0,0)]) (Q0 (runQ hN fun K hK=>?_)));simp;repeat with_reducible refine sdQ ?_
 replace ⟨v1,hv1,h⟩:=bind_some h;refine Q1 (Q38 _ v1 hv1) (.cons (.preT (by simp [Cat.cells])) .nil) ?_;simp;repeat with_reducible refine sdQ ?_
 replace ⟨v2,hv2,h⟩:=bind_some h;refine Q1 (Q38 _ v2 hv2) (.cons (.preT (by simp [Cat.cells])) .nil) ?_;simp;repeat with_reducible refine sdQ ?_
 replace ⟨v3,hv3,h⟩:=bind_some h;refine Q1 (Q39 _ v3 hv3) (.cons .lst .nil) ?_;simp;repeat with_reducible refine sdQ ?_
 replace ⟨v4,hv4,h⟩:=bind_some h;refine Q1 (Q39 _ v4 hv4) (.cons .lst .nil) ?_;simp;repeat refine sdQ ?_
 refine hK _ (tn (Q4 (st':=⟨[(8,.adr 0 0 0)],YJ v1 v2 v3 v4 [],11⟩) (wkQ8 [(0,0),(2,1),(3,2),(4,3),(5,4),(7,5),(8,6),(9,7),(10,8),(11,9),(12,10)]) (Qe ?_)));clear hK K;have hr:=Option.some.inj h;rw [← hr];refine ⟨_,(.cell Q5x rfl rfl rfl (by simp) (by simp) .nil),?_⟩;refine ⟨(.agg rfl .nil),[iV v1.n,lI v1.fr,lI v1.to,lI v1.id,.lst true 1 (Ls v1.cs),iV v2.n,lI v2.fr,lI v2.to,lI v2.id,.lst true 1 (Ls v2.cs),lI v3,lI v4],[1,2,3,4,5,6,7,8,9,10],by simp [Cat.cells,Fn.cells,UA,U1,IA,I1,LA,L1,BA,B1,EA,E1,E2,eB,eI,eL],by simp,(UpL.refl _)⟩
attribute [local simp] unk unA unE unT unC flat eL eI Qm QK Q1r Cat.cells Fn.cells
noncomputable def Q10 (f_:Fn) (g_:Fn):Option Fn :=
 (Q3k f_.ob g_.ob).bind fun v1 =>
 (Q3k f_.ar g_.ar).bind fun v2 =>
 (Q1N f_.s g_.t v1 v2).bind fun v3 =>
 some v3
@[simp] abbrev Y0F (a:Fn) (b:List (AV)):List (AV):=iV a.s.n::.own 1 0 a.s.fr.length::.own 2 0 a.s.to.length::.own 3 0 a.s.id.length::.own 4 0 a.s.cs.length::iV a.t.n::.own 5 0 a.t.fr.length::.own 6 0 a.t.to.length::.own 7 0 a.t.id.length::.own 8 0 a.t.cs.length::.own 9 0 a.ob.length::.own 10 0 a.ar.length::b
@[simp] abbrev Y5 (a:Fn) (b:List (Nat × Ent)):List (Nat × Ent):=(0,.mix 12 [(Y0F a [])])::(1,rI a.s.fr)::(2,rI a.s.to)::(3,rI a.s.id)::(4,.row 1 (Ls a.s.cs))::(5,rI a.t.fr)::(6,rI a.t.to)::(7,rI a.t.id)::(8,.row 1 (Ls a.t.cs))::(9,rI a.ob)::(10,rI a.ar)::b
@[simp] abbrev Yr (a:Fn) (b:List (Nat × AV)):List (Nat × AV):=(0,.rptr (Fn.cells true a))::b
@[simp] abbrev YR (a:Fn) (b:List (Nat × AV)):List (Nat × AV):=(1,.rptr (Fn.cells true a))::b
@[simp] abbrev Y0n (a:List (Nat × AV)):List (Nat × AV):=(4,.adr 0 0 0)::a
theorem Q4X (f_:Fn) (g_:Fn) (r:Fn) (h:Q10 f_ g_=some r):Contract Try.prog 63 [.rptr (f_.cells true),.rptr (g_.cells true)] (.agg (r.cells true)):=by
 refine Q8 (rvs:=[.cell 4 33]) (rs:=[.agg (r.cells true)]) Try.func63 rfl rfl rfl rfl (by simp [Try.f63]) fun F hN hP=>?_;unfold Q10 at h;refine Q0 (runQ hN fun K hK=>?_);simp;repeat refine sdQ ?_
 refine hK _ ?_;clear hK K;refine tn (Q4 (st':=⟨Yr f_ (YR g_ (Y0n [])),YV [],1⟩) (wkQ8 [(0,0)]) (Q0 (runQ hN fun K hK=>?_)));simp;repeat with_reducible refine sdQ ?_
 replace ⟨v1,hv1,h⟩:=bind_some h;refine Q1 (Q6I _ _ v1 hv1) (.cons .lst (.cons .lst .nil)) ?_;simp;repeat with_reducible refine sdQ ?_
 replace ⟨v2,hv2,h⟩:=bind_some h;refine Q1 (Q6I _ _ v2 hv2) (.cons .lst (.cons .lst .nil)) ?_;simp;repeat with_reducible refine sdQ ?_
 replace ⟨v3,hv3,h⟩:=bind_some h;refine Q1 (Q5A _ _ _ _ v3 hv3) (.cons (.preT (by simp [Cat.cells,Fn.cells])) (.cons (.preT (by simp [Cat.cells,Fn.cells])) (.cons .w (.cons .w .nil)))) ?_;simp;repeat refine sdQ ?_
 refine hK _ (tn (Q4 (st':=⟨Y0n [],Y5 v3 [],11⟩) (wkQ8 [(0,0),(4,1),(5,2),(6,3),(7,4),(9,5),(10,6),(11,7),(12,8),(13,9),(14,10)]) (Qe ?_)));clear hK K;have hr:=Option.some.inj h;rw [← hr];refine ⟨_,(.cell Q5x rfl rfl rfl (by simp) (by simp) .nil),?_⟩;refine ⟨(.agg rfl .nil),[iV v3.s.n,lI v3.s.fr,lI v3.s.to,lI v3.s.id,.lst true 1 (Ls v3.s.cs),iV v3.t.n,lI v3.t.fr,lI v3.t.to,lI v3.t.id,.lst true 1 (Ls v3.t.cs),lI v3.ob,lI v3.ar],[1,2,3,4,5,6,7,8,9,10],by simp [Cat.cells,Fn.cells,UA,U1,IA,I1,LA,L1,BA,B1,EA,E1,E2,eB,eI,eL],by simp,(UpL.refl _)⟩
attribute [local simp] unk unA unE unT unC flat eL eI Qm QK Q1r Cat.cells Fn.cells
noncomputable def Q1y (c_:Cat) (d_:Cat) (objects_:List Int) (arrows_:List Int):Option Fn :=
 (Q2w c_).bind fun v1 =>
 (Q2w d_).bind fun v2 =>
 (QJ objects_).bind fun v3 =>
 (QJ arrows_).bind fun v4 =>
 some (⟨v1,v2,v3,v4⟩:Fn)
@[simp] abbrev Yg (a b:Cat) (c:List (Nat × Ent)):List (Nat × Ent):=(0,.mix 5 [(Cat.cells true a)])::(1,.mix 5 [(Cat.cells true b)])::(2,.mix 12 [(Y0I (Y0I [nS,nS]))])::c
theorem Q4a (c_:Cat) (d_:Cat) (objects_:List Int) (arrows_:List Int) (r:Fn) (h:Q1y c_ d_ objects_ arrows_=some r):Contract Try.prog 37 (Y0L c_ (Y0L d_ [lI objects_,lI arrows_])) (.agg (r.cells true)):=by
 refine Q8 (rvs:=[.cell 8 33]) (rs:=[.agg (r.cells true)]) Try.func37 rfl rfl rfl rfl (by simp [Try.f37]) fun F hN hP=>?_;unfold Q1y at h;refine Q0 (runQ hN fun K hK=>?_);simp;repeat refine sdQ ?_
 refine hK _ ?_;clear hK K;refine tn (Q4 (st':=⟨(2,lI objects_)::(3,lI arrows_)::Y0n [(5,.adr 1 0 0),(8,.adr 2 0 0)],Yg c_ d_ [],3⟩) (wkI8 3) (Q0 (runQ hN fun K hK=>?_)));simp;repeat with_reducible refine sdQ ?_
 replace ⟨v1,hv1,h⟩:=bind_some h;refine Q1 (Q6d _ v1 hv1) (.cons (.aggL (.cons .val (.cons .lst (.cons .lst (.cons .lst (.cons .lst .nil)))))) .nil) ?_;simp;repeat with_reducible refine sdQ ?_
 replace ⟨v2,hv2,h⟩:=bind_some h;refine Q1 (Q6d _ v2 hv2) (.cons (.aggL (.cons .val (.cons .lst (.cons .lst (.cons .lst (.cons .lst .nil)))))) .nil) ?_;simp;repeat with_reducible refine sdQ ?_
 replace ⟨v3,hv3,h⟩:=bind_some h;refine Q1 (Q1U _ v3 hv3) (.cons .lst .nil) ?_;simp;repeat with_reducible refine sdQ ?_
 replace ⟨v4,hv4,h⟩:=bind_some h;refine Q1 (Q1U _ v4 hv4) (.cons .lst .nil) ?_;simp;repeat refine sdQ ?_
 refine hK _ (tn (Q4 (st':=⟨[(8,.adr 0 0 0)],YJ v1 v2 v3 v4 [],11⟩) (wkQ8 [(2,0),(4,1),(5,2),(6,3),(7,4),(9,5),(10,6),(11,7),(12,8),(13,9),(14,10)]) (Qe ?_)));clear hK K;have hr:=Option.some.inj h;rw [← hr];refine ⟨_,(.cell Q5x rfl rfl rfl (by simp) (by simp) .nil),?_⟩;refine ⟨(.agg rfl .nil),[iV v1.n,lI v1.fr,lI v1.to,lI v1.id,.lst true 1 (Ls v1.cs),iV v2.n,lI v2.fr,lI v2.to,lI v2.id,.lst true 1 (Ls v2.cs),lI v3,lI v4],[1,2,3,4,5,6,7,8,9,10],by simp [Cat.cells,Fn.cells,UA,U1,IA,I1,LA,L1,BA,B1,EA,E1,E2,eB,eI,eL],by simp,(UpL.refl _)⟩
attribute [local simp] unk unA unE unT unC flat eL eI Qm QK Q1r Cat.cells Fn.cells
noncomputable def Q2J (f_:Fn) (g_:Fn):Option Fn :=
 (Q1P f_.ob g_.ob).bind fun v1 =>
 (Q1P f_.ar g_.ar).bind fun v2 =>
 (Q1y f_.s g_.t v1 v2).bind fun v3 =>
 some v3
@[simp] abbrev Y8 (a b:Fn) (c:List (Nat × Ent)):List (Nat × Ent):=(0,.mix 12 [(Fn.cells true a)])::(1,.mix 12 [(Fn.cells true b)])::c
@[simp] abbrev YL (a:List (Nat × AV)):List (Nat × AV):=(2,.adr 0 0 0)::(3,.adr 1 0 0)::a
@[simp] abbrev Y08 (a:List (Nat × Ent)):List (Nat × Ent):=(2,.mix 12 [(Y0I (Y0I [nS,nS]))])::a
@[simp] abbrev Y0H (a b:Fn) (c:List (AV)):List (AV):=.agg (a.cells true)::.agg (b.cells true)::c
theorem Q8f (f_:Fn) (g_:Fn) (r:Fn) (h:Q2J f_ g_=some r):Contract Try.prog 26 (Y0H f_ g_ []) (.agg (r.cells true)):=by
 refine Q8 (rvs:=[.cell 4 33]) (rs:=[.agg (r.cells true)]) Try.func26 rfl rfl rfl rfl (by simp [Try.f26]) fun F hN hP=>?_;unfold Q2J at h;refine Q0 (runQ hN fun K hK=>?_);simp;repeat refine sdQ ?_
 refine hK _ ?_;clear hK K;refine tn (Q4 (st':=⟨YL [(4,.adr 2 0 0)],Y8 f_ g_ (Y08 []),3⟩) (wkI8 3) (Q0 (runQ hN fun K hK=>?_)));simp;repeat with_reducible refine sdQ ?_
 replace ⟨v1,hv1,h⟩:=bind_some h;refine Q1 (Q49 _ _ v1 hv1) (.cons .lst (.cons .lst .nil)) ?_;simp;repeat with_reducible refine sdQ ?_
 replace ⟨v2,hv2,h⟩:=bind_some h;refine Q1 (Q49 _ _ v2 hv2) (.cons .lst (.cons .lst .nil)) ?_;simp;repeat with_reducible refine sdQ ?_
 replace ⟨v3,hv3,h⟩:=bind_some h;refine Q1 (Q4a _ _ _ _ v3 hv3) (.cons (.aggL (.cons .val (.cons .lst (.cons .lst (.cons .lst (.cons .lst .nil)))))) (.cons (.aggL (.cons .val (.cons .lst (.cons .lst (.cons .lst (.cons .lst .nil)))))) (.cons .w (.cons .w .nil)))) ?_;simp;repeat refine sdQ ?_
 refine hK _ (tn (Q4 (st':=⟨Y0n [],Y5 v3 [],11⟩) (wkQ8 [(2,0),(6,1),(7,2),(8,3),(9,4),(11,5),(12,6),(13,7),(14,8),(15,9),(16,10)]) (Qe ?_)));clear hK K;have hr:=Option.some.inj h;rw [← hr];refine ⟨_,(.cell Q5x rfl rfl rfl (by simp) (by simp) .nil),?_⟩;refine ⟨(.agg rfl .nil),[iV v3.s.n,lI v3.s.fr,lI v3.s.to,lI v3.s.id,.lst true 1 (Ls v3.s.cs),iV v3.t.n,lI v3.t.fr,lI v3.t.to,lI v3.t.id,.lst true 1 (Ls v3.t.cs),lI v3.ob,lI v3.ar],[1,2,3,4,5,6,7,8,9,10],by simp [Cat.cells,Fn.cells,UA,U1,IA,I1,LA,L1,BA,B1,EA,E1,E2,eB,eI,eL],by simp,(UpL.refl _)⟩
section
attribute [local simp] Qf QG Qu Q15 QD
theorem Q1K (f g:List Int) {j:Int} (h0:0≤j) (h1:j<f.length):ix (Q1a f g) j=ix g (ix f j):=by
 obtain ⟨i,rfl⟩:∃ i:Nat,j=i:=⟨j.toNat,by omega⟩;have hi:i<f.length:=by omega
 rw [← Q16 _ _ (show i<(Q1a f g).length by simpa [Q1a] using hi),← Q16 _ _ hi];simp [Q1a]
theorem set_fill {α:Type} (xs:List α) (k:Nat) (v z:α) {i:Nat} (h:i=xs.length):(xs++List.replicate (k+1) z).set i v=(xs++[v])++List.replicate k z:=by
 subst h;simp [List.replicate_succ]
theorem Q5k {f:List Int} {n:Int} (h:∀ j:Nat,j<f.length→0≤ix f j∧ix f j<n):∀ y∈f,0≤y∧y<n:=by
 intro y hy;obtain ⟨i,hi,rfl⟩:=List.getElem_of_mem hy;rw [Q16 _ _ hi];exact h i hi
def QO (f g:Fn):Fn:=⟨f.s,g.t,Q1a f.ob g.ob,Q1a f.ar g.ar⟩
theorem Cat.Is.ok {c:Cat} (h:c.Is):c.ok:=h.1.size2.1
theorem Fn.Is.lob {f:Fn} (h:f.Is):f.ob.length≤8:=by have:=h.lo;have:=h.s.1.n8;omega
theorem Fn.Is.lar {f:Fn} (h:f.Is):f.ar.length≤40:=by have:=h.la;have:=h.s.1.m40;omega
theorem Q6S {c d:Cat} {ob ar:List Int} (hc:c.ok) (hd:d.ok) (ho:ob.length≤1048576) (ha:ar.length≤1048576):Q1y c d ob ar=some ⟨c,d,ob,ar⟩:=by
 simp [Q1y,Q2w,QJ,hc,hd,ho,ha]
theorem e_functor {c d:Cat} {ob ar:List Int} (hc:c.ok) (hd:d.ok) (ho:ob.length≤1048576) (ha:ar.length≤1048576):Q1N c d ob ar=some ⟨c,d,ob,ar⟩:=by
 simp [Q1N,QT,Q1l,hc,hd,ho,ha]
theorem e_l06Then {f g:Fn} (hf:f.Is) (hg:g.Is) (h:f.t=g.s):Q2J f g=some (QO f g):=by
 have h1:=hf.lob;have h2:=hf.lar;have h3:∀ y∈f.ob,0≤y∧y<(g.ob.length:Int):=Q5k (by rw [hg.lo,← h];exact hf.ob);have h4:∀ y∈f.ar,0≤y∧y<(g.ar.length:Int):=Q5k (by rw [hg.la,← h];exact hf.ar);unfold Q2J Q1P;rw [Q3 (by omega),Q3 h3,Q3 (by omega),Q3 h4];simp only [Option.bind_some];rw [Q6S hf.s.ok hg.t.ok (by simp [Q1a];omega) (by simp [Q1a];omega)];rfl
theorem e_Fthen {f g:Fn} (hf:f.Is) (hg:g.Is) (h:f.t=g.s):Q10 f g=some (QO f g):=by
 have h1:=hf.lob;have h2:=hf.lar;have h3:∀ y∈f.ob,0≤y∧y<(g.ob.length:Int):=Q5k (by rw [hg.lo,← h];exact hf.ob);have h4:∀ y∈f.ar,0≤y∧y<(g.ar.length:Int):=Q5k (by rw [hg.la,← h];exact hf.ar);unfold Q10 Q3k;rw [Q3 (by omega),Q3 h3,Q3 (by omega),Q3 h4];simp only [Option.bind_some];rw [e_functor hf.s.ok hg.t.ok (by simp [Q1a];omega) (by simp [Q1a];omega)];rfl
theorem Q4C {f g:Fn} (hf:f.Is) (hg:g.Is) (h:f.t=g.s):(QO f g).Is:=by
 have lo:=hf.lo;have la:=hf.la;have lg:=hg.lo;have lb:=hg.la;have hg1:=hg.s.1;rw [← h] at lg lb hg1;have li:=hg1.li;have ls:=hf.s.1.li;refine ⟨hf.s,hg.t,by simpa [QO,Q1a] using lo,by simpa [QO,Q1a] using la,fun j hj=>?_,fun j hj=>?_,fun a ha=>?_,fun x hx=>?_,fun a ha b hb e=>?_⟩
 ·simp only [QO,Q1a,List.length_map] at hj ⊢;have:=Q1K f.ob g.ob (j:=j) (by omega) (by omega);simp only [Q1a] at this;rw [this];have hb:=hf.ob j hj;exact ix_bnd hg.ob (by omega) (by omega)
 ·simp only [QO,Q1a,List.length_map] at hj ⊢;have:=Q1K f.ar g.ar (j:=j) (by omega) (by omega);simp only [Q1a] at this;rw [this];have hb:=hf.ar j hj;exact ix_bnd hg.ar (by omega) (by omega)
 ·simp only [QO] at ha ⊢;have hfr:=hf.s.1.frn ha;have hb:=hf.ar a (by omega);have he:=hf.ends a ha;rw [Q1K _ _ (by omega) (by omega),Q1K _ _ (by omega) (by omega),Q1K _ _ (by omega) (by omega)];have q:=hg.ends (ix f.ar a).toNat (by rw [← h];omega);rw [Int.toNat_of_nonneg (by omega),← h] at q;rw [q.1,q.2,he.1,he.2];exact ⟨rfl,rfl⟩
 ·simp only [QO] at hx ⊢;have hid:=hf.s.1.idn hx;have hb:=hf.ob x (by omega);rw [Q1K _ _ (by omega) (by omega),Q1K _ _ (by omega) (by omega),hf.ids x hx];have q:=hg.ids (ix f.ob x).toNat (by rw [← h];omega);rw [Int.toNat_of_nonneg (by omega),← h] at q;exact q
 simp only [QO] at ha hb e ⊢;have hc:=hf.s.1.cmp (f:=a) (g:=b) (by omega) (by omega) (by omega) (by omega) e;have h1:=hf.ar a (by omega);have h2:=hf.ar b (by omega);have e1:=hf.ends a ha;have e2:=hf.ends b hb;rw [Q1K _ _ (by omega) (by omega),Q1K _ _ (by omega) (by omega),Q1K _ _ (by omega) (by omega),hf.comp a ha b hb e];have q:=hg.comp (ix f.ar a).toNat (by rw [← h];omega) (ix f.ar b).toNat (by rw [← h];omega);rw [Int.toNat_of_nonneg (by omega),Int.toNat_of_nonneg (by omega),← h] at q;exact q (by rw [e1.2,e2.1,e])
end
attribute [local simp] unk unA unE unT unC flat eL eI Qm QK Q1r Cat.cells Fn.cells
noncomputable def Q1k (f_:Fn):Option Bool :=
 (
  if ¬ ((f_.ob.length:Int)=f_.s.n) then
   some true
  else
   (Qv f_.s).bind fun v3 =>
   if ¬ ((f_.ar.length:Int)=v3) then
    some true
   else
    (Q28 f_.ob f_.t.n).bind fun v5 =>
    if ¬ (v5=true) then
     some true
    else
     (Qv f_.t).bind fun v7 =>
     (Q28 f_.ar v7).bind fun v8 =>
     some (!v8):Option (Bool)).bind fun b1 =>
 if b1=true then
  some false
 else
  (Qx (σ:=Int) (ε:=Unit ⊕ Bool) (fun s23 =>
   if s23<(f_.ar.length:Int) then
    ass (0≤s23∧s23<(f_.ar.length:Int)) <|
    (
     ass (0≤ix f_.ar s23∧ix f_.ar s23<(f_.t.fr.length:Int)) <|
     ass (0≤s23∧s23<(f_.s.fr.length:Int)) <|
     ass (0≤ix f_.s.fr s23∧ix f_.s.fr s23<(f_.ob.length:Int)) <|
     if ¬ ((ix f_.t.fr (ix f_.ar s23))=(ix f_.ob (ix f_.s.fr s23))) then
      some true
     else
      ass (0≤ix f_.ar s23∧ix f_.ar s23<(f_.t.to.length:Int)) <|
      ass (0≤s23∧s23<(f_.s.to.length:Int)) <|
      ass (0≤ix f_.s.to s23∧ix f_.s.to s23<(f_.ob.length:Int)) <|
      some ((ix f_.t.to (ix f_.ar s23)) != (ix f_.ob (ix f_.s.to s23))):Option (Bool)).bind fun b26 =>
    if b26=true then
     some (Ctl.ret (Sum.inr false))
    else
     ass (B64 (s23+1)) <|
     some (Ctl.next (s23+1))
   else
    some (Ctl.ret (Sum.inl ()))) fuel 0).bind fun e10 =>
  match e10 with
  | .inl b10 =>
   (Qx (σ:=Int) (ε:=Unit ⊕ Bool) (fun s44 =>
    if s44<(f_.s.id.length:Int) then
     ass (0≤s44∧s44<(f_.s.id.length:Int)) <|
     ass (0≤ix f_.s.id s44∧ix f_.s.id s44<(f_.ar.length:Int)) <|
     ass (0≤s44∧s44<(f_.ob.length:Int)) <|
     ass (0≤ix f_.ob s44∧ix f_.ob s44<(f_.t.id.length:Int)) <|
     if ¬ ((ix f_.ar (ix f_.s.id s44))=(ix f_.t.id (ix f_.ob s44))) then
      some (Ctl.ret (Sum.inr false))
     else
      ass (B64 (s44+1)) <|
      some (Ctl.next (s44+1))
    else
     some (Ctl.ret (Sum.inl ()))) fuel 0).bind fun e36 =>
   match e36 with
   | .inl b36 =>
    (Qx (σ:=Int) (ε:=Unit ⊕ Bool) (fun s78 =>
     if s78<(f_.s.cs.length:Int) then
      (
       ass (0≤s78∧s78<(f_.s.cs.length:Int)) <|
       (Qx (σ:=Int) (ε:=Bool ⊕ Unit) (fun s92 =>
        if s92<((rx f_.s.cs s78).length:Int) then
         ass (0≤s92∧s92<((rx f_.s.cs s78).length:Int)) <|
         (
          if (ix (rx f_.s.cs s78) s92) ≥ 0 then
           ass (0≤ix (rx f_.s.cs s78) s92∧ix (rx f_.s.cs s78) s92<(f_.ar.length:Int)) <|
           ass (0≤s78∧s78<(f_.ar.length:Int)) <|
           ass (0≤s92∧s92<(f_.ar.length:Int)) <|
           (Qp f_.t (ix f_.ar s78) (ix f_.ar s92)).bind fun v100 =>
           some ((ix f_.ar (ix (rx f_.s.cs s78) s92)) != v100)
          else
           some false:Option (Bool)).bind fun b95 =>
         if b95=true then
          some (Ctl.ret (Sum.inl false))
         else
          ass (B64 (s92+1)) <|
          some (Ctl.next (s92+1))
        else
         some (Ctl.ret (Sum.inr ()))) fuel 0).bind fun e92 =>
       match e92 with
       | .inl p92 =>
        some (Sum.inr p92)
       | .inr p92 =>
        some (Sum.inl p92):Option (Unit ⊕ Bool)).bind fun e80 =>
      match e80 with
      | .inl b80 =>
       ass (B64 (s78+1)) <|
       some (Ctl.next (s78+1))
      | .inr p80 =>
       some (Ctl.ret (Sum.inr p80))
     else
      some (Ctl.ret (Sum.inl ()))) fuel 0).bind fun e52 =>
    match e52 with
    | .inl b52 =>
     some true
    | .inr p52 =>
     some p52
   | .inr p36 =>
    some p36
  | .inr p10 =>
   some p10
@[simp] abbrev Y0G (a:Fn) (b:List (AV)):List (AV):=iV a.t.n::lI a.t.fr::lI a.t.to::lI a.t.id::.lst true 1 (Ls a.t.cs)::lI a.ob::lI a.ar::b
@[simp] abbrev Yd (a:Fn) (b:List (Nat × AV)):List (Nat × AV):=(4,.rptr (Y0G a []))::b
@[simp] abbrev YI (a:Fn) (b:Int) (c:List (Nat × AV)):List (Nat × AV):=(151,.lst true 1 (Ls a.s.cs))::(152,iV (a.s.cs.length:Int))::(153,iV b)::(158,lI (rx a.s.cs b))::(159,iV ((rx a.s.cs b).length:Int))::c
@[simp] abbrev Y00 (a:Fn) (b:List (Nat × AV)):List (Nat × AV):=(3,.rptr (Fn.cells true a))::b
@[simp] abbrev Y0d (a:Fn) (b:List (Nat × AV)):List (Nat × AV):=(151,.lst true 1 (Ls a.s.cs))::(152,iV (a.s.cs.length:Int))::b
theorem Q4W (f_:Fn) (r:Bool) (h:Q1k f_=some r):Contract Try.prog 73 [.rptr (f_.cells true)] (.val (.bool r)):=by
 refine Q8 (rvs:=[.tmp 2]) (rs:=[.val (.bool r)]) Try.func73 rfl rfl rfl rfl (by simp [Try.f73]) fun F hN hP=>?_;unfold Q1k at h;refine Q0 (runQ hN fun K hK=>?_);simp;repeat refine sdQ ?_
 refine hK _ ?_;clear hK K;refine tn (Q4 (st':=⟨Yr f_ [],[],0⟩) (wkQ8 []) (Q0 (runQ hN fun K hK=>?_)));simp;repeat refine sdQ ?_
 refine hK _ (tn (Q4 (st':=⟨Yr f_ (Y00 f_ (Yd f_ [])),[],0⟩) (wkQ8 []) (Q0 (Q0 ?_))));clear hK K;replace ⟨e1,h,h1⟩:=bind_some h;refine Qd (fun b1:Bool=>⟨Yr f_ (Y00 f_ (Yd f_ [(60,.val (.bool b1))])),[],0⟩) (fun b1=>b1=e1) ?_ ?_
 ·refine runQ hN fun K hK=>?_;simp;repeat with_reducible refine sdQ ?_
  refine Qi (fun g=>?_) (fun g=>?_)
  ·have g2:¬ (¬ ((f_.ob.length:Int)=f_.s.n)):=gQ;clear g;replace h:=if_r g2 h;simp;(repeat with_reducible refine sdQ ?_);replace ⟨v3,hv3,h⟩:=bind_some h;refine Q1 (Q1R _ v3 hv3) (.cons (.preT (by simp [Cat.cells,Fn.cells])) .nil) ?_;simp;(repeat with_reducible refine sdQ ?_);refine Qi (fun g=>?_) (fun g=>?_)
   ·have g4:¬ (¬ ((f_.ar.length:Int)=v3)):=gQ;clear g;replace h:=if_r g4 h;simp;(repeat with_reducible refine sdQ ?_);replace ⟨v5,hv5,h⟩:=bind_some h;refine Q1 (Q6a _ _ v5 hv5) (.cons .lst (.cons .val .nil)) ?_;simp;(repeat with_reducible refine sdQ ?_);refine Qi (fun g=>?_) (fun g=>?_)
    ·have g6:¬ (¬ (v5=true)):=gQ;clear g;replace h:=if_r g6 h;simp;(repeat with_reducible refine sdQ ?_);replace ⟨v7,hv7,h⟩:=bind_some h;refine Q1 (Q1R _ v7 hv7) (.cons (.preT (by simp [Cat.cells,Fn.cells])) .nil) ?_;simp;(repeat with_reducible refine sdQ ?_);replace ⟨v8,hv8,h⟩:=bind_some h;refine Q1 (Q6a _ _ v8 hv8) (.cons .lst (.cons .val .nil)) ?_;simp;(repeat refine sdQ ?_);refine hK _ ?_;exact jn (b:=!v8) (Option.some.inj h) (wkQ8 [])
    have g6:¬ (v5=true):=gQ;clear g;replace h:=if_l g6 h;simp;(repeat refine sdQ ?_);refine hK _ ?_;exact jn (b:=true) (Option.some.inj h) (wkQ8 [])
   have g4:¬ ((f_.ar.length:Int)=v3):=gQ;clear g;replace h:=if_l g4 h;simp;(repeat refine sdQ ?_);refine hK _ ?_;exact jn (b:=true) (Option.some.inj h) (wkQ8 [])
  have g2:¬ ((f_.ob.length:Int)=f_.s.n):=gQ;clear g;replace h:=if_l g2 h;simp;repeat refine sdQ ?_
  refine hK _ ?_;exact jn (b:=true) (Option.some.inj h) (wkQ8 [])
 intro b1 hb1;have h:=h1;try rw [← hb1] at h
 clear h1;try dsimp only at h
 refine Q6 rfl (fun g=>?_) fun g=>?_
 ·have g9:b1=true:=gQ;clear g;replace h:=if_l g9 h;refine Q0 (runQ hN fun K hK=>?_);simp;repeat refine sdQ ?_
  refine hK _ (tn (Q4 (st':=⟨Y09 [],[],0⟩) (wkQ8 []) (Qe (tr ?_))));clear hK K;have hr:=Option.some.inj h;rw [← hr];refine ⟨_,(.tmp .nil),?_⟩;refine ⟨(.one rfl rfl .nil),[.val (.bool false)],[],by simp [Cat.cells,Fn.cells,UA,U1,IA,I1,LA,L1,BA,B1,EA,E1,E2,eB,eI,eL],by simp,(UpL.refl _)⟩
 have g9:¬ (b1=true):=gQ;clear g;replace h:=if_r g9 h;refine Q7 (tn (Q0 (Q0 (runQ hN fun K hK=>?_))));simp;repeat refine sdQ ?_
 refine hK _ (tn (Q4 (st':=⟨Yr f_ (Y00 f_ (Yd f_ [(64,lI f_.ar),(65,iV (f_.ar.length:Int)),(66,iV 0)])),[],0⟩) (wkQ8 []) ?_));clear hK K;replace ⟨e10,h,h10⟩:=bind_some h;refine Qd (fun b10:Unit=>⟨Yr f_ (Y00 f_ (Yd f_ [])),[],0⟩) (fun b10=>Sum.inl b10=e10) ?_ ?_
 ·refine Q5 (Qs h (fun s23:Int=>⟨Yr f_ (Y00 f_ (Yd f_ [(64,lI f_.ar),(65,iV (f_.ar.length:Int)),(66,iV s23)])),[],0⟩) (wkQ8 []) ?_);clear h;intro k23 s23 c23 h hk23;refine Q0 (runQ hN fun K hK=>?_);simp;repeat refine sdQ ?_
  refine hK _ ?_;clear hK K;refine tn (Q0 (Q6 rfl (fun g=>?_) fun g=>?_))
  ·have g24:s23<(f_.ar.length:Int):=gQ;clear g;replace h:=if_l g24 h;refine Q7 (tn (Q0 (Q5 (Q0 (runQ hN fun K hK=>?_)))));replace ⟨a25,h⟩:=Q2 h;simp [at_I a25];(repeat refine sdQ ?_);refine hK _ (tn (Q4 (st':=⟨Yr f_ (Y00 f_ (Yd f_ [(5,iV s23),(6,iV (ix f_.ar s23)),(64,lI f_.ar),(65,iV (f_.ar.length:Int)),(66,iV s23)])),[],0⟩) (wkQ8 []) (Q0 ?_)));clear hK K;replace ⟨e26,h,h26⟩:=bind_some h;refine Qd (fun b26:Bool=>⟨Yr f_ (Y00 f_ (Yd f_ [(64,lI f_.ar),(65,iV (f_.ar.length:Int)),(66,iV s23),(114,.val (.bool b26))])),[],0⟩) (fun b26=>b26=e26) ?_ ?_
   ·refine runQ hN fun K hK=>?_;replace ⟨a27,h⟩:=Q2 h;replace ⟨a28,h⟩:=Q2 h;replace ⟨a29,h⟩:=Q2 h;simp [at_I a27,at_I a28,at_I a29];(repeat with_reducible refine sdQ ?_);refine Qi (fun g=>?_) (fun g=>?_)
    ·have g30:¬ (¬ ((ix f_.t.fr (ix f_.ar s23))=(ix f_.ob (ix f_.s.fr s23)))):=gQ;clear g;replace h:=if_r g30 h;replace ⟨a31,h⟩:=Q2 h;replace ⟨a32,h⟩:=Q2 h;replace ⟨a33,h⟩:=Q2 h;simp [at_I a27,at_I a28,at_I a29,at_I a31,at_I a32,at_I a33];(repeat refine sdQ ?_);refine hK _ ?_;exact jn (b:=(ix f_.t.to (ix f_.ar s23)) != (ix f_.ob (ix f_.s.to s23))) (Option.some.inj h) (wkQ8 [])
    have g30:¬ ((ix f_.t.fr (ix f_.ar s23))=(ix f_.ob (ix f_.s.fr s23))):=gQ;clear g;replace h:=if_l g30 h;simp [at_I a27,at_I a28,at_I a29];(repeat refine sdQ ?_);refine hK _ ?_;exact jn (b:=true) (Option.some.inj h) (wkQ8 [])
   intro b26 hb26;have h:=h26;(try rw [← hb26] at h);clear h26;(try dsimp only at h);refine Q6 rfl (fun g=>?_) fun g=>?_
   ·have g34:b26=true:=gQ;clear g;replace h:=if_l g34 h;refine Q0 (runQ hN fun K hK=>?_);simp;(repeat refine sdQ ?_);refine hK _ (tn (Q4 (st':=⟨Y09 [],[],0⟩) (wkQ8 []) (Qe (br (tr (lr (br (tr ?_))))))));clear hK K;cases h;have q:_=e10:=hk23;have h:=h10;rw [← q] at h;clear q;(try dsimp only at h);have hr:=Option.some.inj h;rw [← hr];refine ⟨_,(.tmp .nil),?_⟩;refine ⟨(.one rfl rfl .nil),[.val (.bool false)],[],by simp [Cat.cells,Fn.cells,UA,U1,IA,I1,LA,L1,BA,B1,EA,E1,E2,eB,eI,eL],by simp,(UpL.refl _)⟩
   have g34:¬ (b26=true):=gQ;clear g;replace h:=if_r g34 h;refine Q7 (bn (tn (runQ hN fun K hK=>?_)));replace ⟨a35,h⟩:=Q2 h;simp [Qo a35];(repeat refine sdQ ?_);refine hK _ ?_;clear hK K;cases h;exact rn (s':=s23+1) hk23 (wkQ8 [])
  have g24:¬ (s23<(f_.ar.length:Int)):=gQ;clear g;replace h:=if_r g24 h;refine Qj (tx (lx (bh ?_)));cases h;exact jn (b:=()) hk23 (wkQ8 [])
 intro b10 hb10;have h:=h10;try rw [← hb10] at h
 clear h10;try dsimp only at h
 refine Q0 (Q0 (runQ hN fun K hK=>?_));simp;repeat refine sdQ ?_
 refine hK _ (tn (Q4 (st':=⟨Yr f_ (Y00 f_ (Yd f_ [(119,lI f_.s.id),(120,iV (f_.s.id.length:Int)),(121,iV 0)])),[],0⟩) (wkQ8 []) ?_));clear hK K;replace ⟨e36,h,h36⟩:=bind_some h;refine Qd (fun b36:Unit=>⟨Yr f_ (Y00 f_ (Yd f_ [])),[],0⟩) (fun b36=>Sum.inl b36=e36) ?_ ?_
 ·refine Q5 (Qs h (fun s44:Int=>⟨Yr f_ (Y00 f_ (Yd f_ [(119,lI f_.s.id),(120,iV (f_.s.id.length:Int)),(121,iV s44)])),[],0⟩) (wkQ8 []) ?_);clear h;intro k44 s44 c44 h hk44;refine Q0 (runQ hN fun K hK=>?_);simp;repeat refine sdQ ?_
  refine hK _ ?_;clear hK K;refine tn (Q0 (Q6 rfl (fun g=>?_) fun g=>?_))
  ·have g45:s44<(f_.s.id.length:Int):=gQ;clear g;replace h:=if_l g45 h;refine Q7 (tn (Q0 (Q5 (Q0 (runQ hN fun K hK=>?_)))));replace ⟨a46,h⟩:=Q2 h;simp [at_I a46];(repeat refine sdQ ?_);refine hK _ ?_;clear hK K;refine tn (Q4 (st':=⟨Yr f_ (Y00 f_ (Yd f_ [(7,iV s44),(8,iV (ix f_.s.id s44)),(119,lI f_.s.id),(120,iV (f_.s.id.length:Int)),(121,iV s44)])),[],0⟩) (wkQ8 []) (Q0 (runQ hN fun K hK=>?_)));replace ⟨a47,h⟩:=Q2 h;replace ⟨a48,h⟩:=Q2 h;replace ⟨a49,h⟩:=Q2 h;simp [at_I a47,at_I a48,at_I a49];(repeat refine sdQ ?_);refine hK _ ?_;clear hK K;refine tn (Q6 rfl (fun g=>?_) fun g=>?_)
   ·have g50:¬ ((ix f_.ar (ix f_.s.id s44))=(ix f_.t.id (ix f_.ob s44))):=gQ;clear g;replace h:=if_l g50 h;refine Q0 (runQ hN fun K hK=>?_);simp;(repeat refine sdQ ?_);refine hK _ (tn (Q4 (st':=⟨Y09 [],[],0⟩) (wkQ8 []) (Qe (br (tr (lr (br (tr ?_))))))));clear hK K;cases h;have q:_=e36:=hk44;have h:=h36;rw [← q] at h;clear q;(try dsimp only at h);have hr:=Option.some.inj h;rw [← hr];refine ⟨_,(.tmp .nil),?_⟩;refine ⟨(.one rfl rfl .nil),[.val (.bool false)],[],by simp [Cat.cells,Fn.cells,UA,U1,IA,I1,LA,L1,BA,B1,EA,E1,E2,eB,eI,eL],by simp,(UpL.refl _)⟩
   have g50:¬ (¬ ((ix f_.ar (ix f_.s.id s44))=(ix f_.t.id (ix f_.ob s44)))):=gQ;clear g;replace h:=if_r g50 h;refine Q7 (bn (tn (runQ hN fun K hK=>?_)));replace ⟨a51,h⟩:=Q2 h;simp [Qo a51];(repeat refine sdQ ?_);refine hK _ ?_;clear hK K;cases h;exact rn (s':=s44+1) hk44 (wkQ8 [])
  have g45:¬ (s44<(f_.s.id.length:Int)):=gQ;clear g;replace h:=if_r g45 h;refine Qj (tx (lx (bh ?_)));cases h;exact jn (b:=()) hk44 (wkQ8 [])
 intro b36 hb36;have h:=h36;try rw [← hb36] at h
 clear h36;try dsimp only at h
 refine Q0 (Q0 (runQ hN fun K hK=>?_));simp;repeat refine sdQ ?_
 refine hK _ (tn (Q4 (st':=⟨Yr f_ (Yd f_ (Y0d f_ [(153,iV 0)])),[],0⟩) (wkQ8 []) ?_));clear hK K;replace ⟨e52,h,h52⟩:=bind_some h;refine Qd (fun b52:Unit=>⟨[],[],0⟩) (fun b52=>Sum.inl b52=e52) ?_ ?_
 ·refine Q5 (Qs h (fun s78:Int=>⟨Yr f_ (Yd f_ (Y0d f_ [(153,iV s78)])),[],0⟩) (wkQ8 []) ?_);clear h;intro k78 s78 c78 h hk78;refine Q0 (runQ hN fun K hK=>?_);simp;repeat refine sdQ ?_
  refine hK _ ?_;clear hK K;refine tn (Q0 (Q6 rfl (fun g=>?_) fun g=>?_))
  ·have g79:s78<(f_.s.cs.length:Int):=gQ;clear g;replace h:=if_l g79 h;refine Q7 (tn (Q0 ?_));replace ⟨e80,h,h80⟩:=bind_some h;refine Qd (fun b80:Unit=>⟨Yr f_ (Yd f_ (Y0d f_ [(153,iV s78)])),[],0⟩) (fun b80=>Sum.inl b80=e80) ?_ ?_
   ·refine Q5 (Q0 (runQ hN fun K hK=>?_));replace ⟨a81,h⟩:=Q2 h;simp [at_L a81];(repeat refine sdQ ?_);refine hK _ ?_;clear hK K;refine tn (Q4 (st':=⟨Yr f_ (Yd f_ ((9,iV s78)::(10,lI (rx f_.s.cs s78))::Y0d f_ [(153,iV s78)])),[],0⟩) (wkQ8 []) (Q0 (runQ hN fun K hK=>?_)));simp;(repeat refine sdQ ?_);refine hK _ (tn (Q4 (st':=⟨Yr f_ (Yd f_ ((9,iV s78)::YI f_ s78 [(160,iV 0)])),[],0⟩) (wkQ8 []) (Q5 ?_)));clear hK K;replace ⟨e92,he92,h92⟩:=bind_some h;refine Qs he92 (fun s92:Int=>⟨Yr f_ (Yd f_ ((9,iV s78)::YI f_ s78 [(160,iV s92)])),[],0⟩) (wkQ8 []) ?_;intro k92 s92 c92 h hk92;refine Q0 (runQ hN fun K hK=>?_);simp;(repeat refine sdQ ?_);refine hK _ ?_;clear hK K;refine tn (Q0 (Q6 rfl (fun g=>?_) fun g=>?_))
    ·have g93:s92<((rx f_.s.cs s78).length:Int):=gQ;clear g;replace h:=if_l g93 h;refine Q7 (tn (Q0 (Q5 (Q0 (runQ hN fun K hK=>?_)))));replace ⟨a94,h⟩:=Q2 h;simp [at_I a94];(repeat refine sdQ ?_);refine hK _ (tn (Q4 (st':=⟨Yr f_ (Yd f_ ((9,iV s78)::(11,iV s92)::(12,iV (ix (rx f_.s.cs s78) s92))::YI f_ s78 [(160,iV s92)])),[],0⟩) (wkQ8 []) (Q0 ?_)));clear hK K;replace ⟨e95,h,h95⟩:=bind_some h;refine Qd (fun b95:Bool=>⟨Yr f_ (Yd f_ ((9,iV s78)::YI f_ s78 [(160,iV s92),(192,.val (.bool b95))])),[],0⟩) (fun b95=>b95=e95) ?_ ?_
     ·refine runQ hN fun K hK=>?_;simp;(repeat with_reducible refine sdQ ?_);refine Qi (fun g=>?_) (fun g=>?_)
      ·have g96:(ix (rx f_.s.cs s78) s92) ≥ 0:=gQ;clear g;replace h:=if_l g96 h;replace ⟨a97,h⟩:=Q2 h;replace ⟨a98,h⟩:=Q2 h;replace ⟨a99,h⟩:=Q2 h;simp [at_I a97,at_I a98,at_I a99];(repeat with_reducible refine sdQ ?_);replace ⟨v100,hv100,h⟩:=bind_some h;refine Q1 (Q1B _ _ _ v100 hv100) (.cons (.preT (by simp [Cat.cells,Fn.cells])) (.cons .val (.cons .val .nil))) ?_;simp [at_I a97,at_I a98,at_I a99];(repeat refine sdQ ?_);refine hK _ ?_;exact jn (b:=(ix f_.ar (ix (rx f_.s.cs s78) s92)) != v100) (Option.some.inj h) (wkQ8 [])
      have g96:¬ ((ix (rx f_.s.cs s78) s92) ≥ 0):=gQ;clear g;replace h:=if_r g96 h;simp;(repeat refine sdQ ?_);refine hK _ ?_;exact jn (b:=false) (Option.some.inj h) (wkQ8 [])
     intro b95 hb95;have h:=h95;(try rw [← hb95] at h);clear h95;(try dsimp only at h);refine Q6 rfl (fun g=>?_) fun g=>?_
     ·have g101:b95=true:=gQ;clear g;replace h:=if_l g101 h;refine Q0 (runQ hN fun K hK=>?_);simp;(repeat refine sdQ ?_);refine hK _ (tn (Q4 (st':=⟨Y09 [],[],0⟩) (wkQ8 []) (Qe (br (tr (lr (br (br (tr (lr (br (tr ?_))))))))))));clear hK K;cases h;have q:_=e92:=hk92;have h:=h92;rw [← q] at h;clear q;(try dsimp only at h);cases h;have h:=h80;(try dsimp only at h);cases h;have q:_=e52:=hk78;have h:=h52;rw [← q] at h;clear q;(try dsimp only at h);have hr:=Option.some.inj h;rw [← hr];refine ⟨_,(.tmp .nil),?_⟩;refine ⟨(.one rfl rfl .nil),[.val (.bool false)],[],by simp [Cat.cells,Fn.cells,UA,U1,IA,I1,LA,L1,BA,B1,EA,E1,E2,eB,eI,eL],by simp,(UpL.refl _)⟩
     have g101:¬ (b95=true):=gQ;clear g;replace h:=if_r g101 h;refine Q7 (bn (tn (runQ hN fun K hK=>?_)));replace ⟨a102,h⟩:=Q2 h;simp [Qo a102];(repeat refine sdQ ?_);refine hK _ ?_;clear hK K;cases h;exact rn (s':=s92+1) hk92 (wkQ8 [])
    have g93:¬ (s92<((rx f_.s.cs s78).length:Int)):=gQ;clear g;replace h:=if_r g93 h;refine Qj (tx (lx (bh (bn ?_))));cases h;have q:_=e92:=hk92;have h:=h92;rw [← q] at h;clear q;(try dsimp only at h);exact jn (b:=()) (Option.some.inj h) (wkQ8 [])
   intro b80 hb80;have h:=h80;(try rw [← hb80] at h);clear h80;(try dsimp only at h);refine runQ hN fun K hK=>?_;replace ⟨a103,h⟩:=Q2 h;simp [Qo a103];(repeat refine sdQ ?_);refine hK _ ?_;clear hK K;cases h;exact rn (s':=s78+1) hk78 (wkQ8 [])
  have g79:¬ (s78<(f_.s.cs.length:Int)):=gQ;clear g;replace h:=if_r g79 h;refine Qj (tx (lx (bh ?_)));cases h;exact jn (b:=()) hk78 (wkQ8 [])
 intro b52 hb52;have h:=h52;try rw [← hb52] at h
 clear h52;try dsimp only at h
 refine Q0 (runQ hN fun K hK=>?_);simp;repeat refine sdQ ?_
 refine hK _ (tn (Q4 (st':=⟨[(2,.val (.bool true))],[],0⟩) (wkQ8 []) (Qe ?_)));clear hK K;have hr:=Option.some.inj h;rw [← hr];refine ⟨_,(.tmp .nil),?_⟩;refine ⟨(.one rfl rfl .nil),[.val (.bool true)],[],by simp [Cat.cells,Fn.cells,UA,U1,IA,I1,LA,L1,BA,B1,EA,E1,E2,eB,eI,eL],by simp,(UpL.refl _)⟩
attribute [local simp] unk unA unE unT unC flat eL eI Qm QK Cat.cells
noncomputable def Q17 (list_:List Cat):Option Bool :=
 (Qx (σ:=Int) (ε:=Unit ⊕ Bool) (fun s7 =>
  if s7<(list_.length:Int) then
   ass (0≤s7∧s7<(list_.length:Int)) <|
   (QH (gx list_ s7)).bind fun v10 =>
   if ¬ (v10=true) then
    some (Ctl.ret (Sum.inr false))
   else
    ass (B64 (s7+1)) <|
    some (Ctl.next (s7+1))
  else
   some (Ctl.ret (Sum.inl ()))) fuel 0).bind fun e1 =>
 match e1 with
 | .inl b1 =>
  some true
 | .inr p1 =>
  some p1
@[simp] abbrev Y0u (a:List Cat) (b:List (Nat × AV)):List (Nat × AV):=(5,.lst true 1 (Es QK a))::(6,iV (a.length:Int))::b
theorem Q4E (list_:List Cat) (r:Bool) (h:Q17 list_=some r):Contract Try.prog 72 [.lst true 1 (Es QK list_)] (.val (.bool r)):=by
 refine Q8 (rvs:=[.tmp 2]) (rs:=[.val (.bool r)]) Try.func72 rfl rfl rfl rfl (by simp [Try.f72]) fun F hN hP=>?_;unfold Q17 at h;refine Q0 (runQ hN fun K hK=>?_);simp;repeat refine sdQ ?_
 refine hK _ ?_;clear hK K;refine tn (Q4 (st':=⟨[(0,.lst true 1 (Es QK list_))],[],0⟩) (wkQ8 []) (Q0 (Q0 (runQ hN fun K hK=>?_))));simp;repeat refine sdQ ?_
 refine hK _ (tn (Q4 (st':=⟨Y0u list_ [(7,iV 0)],[],0⟩) (wkQ8 []) ?_));clear hK K;replace ⟨e1,h,h1⟩:=bind_some h;refine Qd (fun b1:Unit=>⟨[],[],0⟩) (fun b1=>Sum.inl b1=e1) ?_ ?_
 ·refine Q5 (Qs h (fun s7:Int=>⟨Y0u list_ [(7,iV s7)],[],0⟩) (wkQ8 []) ?_);clear h;intro k7 s7 c7 h hk7;refine Q0 (runQ hN fun K hK=>?_);simp;repeat refine sdQ ?_
  refine hK _ ?_;clear hK K;refine tn (Q0 (Q6 rfl (fun g=>?_) fun g=>?_))
  ·have g8:s7<(list_.length:Int):=gQ;clear g;replace h:=if_l g8 h;refine Q7 (tn (Q0 (Q5 (Q0 (runQ hN fun K hK=>?_)))));replace ⟨a9,h⟩:=Q2 h;simp [at_E (c:=QK) a9];(repeat refine sdQ ?_);refine hK _ ?_;clear hK K;refine tn (Q4 (st':=⟨(4,.rptr (Cat.cells true (gx list_ s7)))::Y0u list_ [(7,iV s7)],[],0⟩) (wkQ8 []) (Q0 (runQ hN fun K hK=>?_)));simp;(repeat with_reducible refine sdQ ?_);replace ⟨v10,hv10,h⟩:=bind_some h;refine Q1 (Q3o _ v10 hv10) (.cons (.preT (by simp [Cat.cells])) .nil) ?_;simp;(repeat refine sdQ ?_);refine hK _ ?_;clear hK K;refine tn (Q4 (st':=⟨Y0u list_ [(7,iV s7),(13,.val (.bool (!v10)))],[],0⟩) (wkQ8 []) (Q6 rfl (fun g=>?_) fun g=>?_))
   ·have g11:¬ (v10=true):=gQ;clear g;replace h:=if_l g11 h;refine Q0 (runQ hN fun K hK=>?_);simp;(repeat refine sdQ ?_);refine hK _ (tn (Q4 (st':=⟨Y09 [],[],0⟩) (wkQ8 []) (Qe (br (tr (lr (br (tr ?_))))))));clear hK K;cases h;have q:_=e1:=hk7;have h:=h1;rw [← q] at h;clear q;(try dsimp only at h);have hr:=Option.some.inj h;rw [← hr];refine ⟨_,(.tmp .nil),?_⟩;refine ⟨(.one rfl rfl .nil),[.val (.bool false)],[],by simp [Cat.cells,UA,U1,IA,I1,LA,L1,BA,B1,EA,E1,E2,eB,eI,eL],by simp,(UpL.refl _)⟩
   have g11:¬ (¬ (v10=true)):=gQ;clear g;replace h:=if_r g11 h;refine Q7 (bn (tn (runQ hN fun K hK=>?_)));replace ⟨a12,h⟩:=Q2 h;simp [Qo a12];(repeat refine sdQ ?_);refine hK _ ?_;clear hK K;cases h;exact rn (s':=s7+1) hk7 (wkQ8 [])
  have g8:¬ (s7<(list_.length:Int)):=gQ;clear g;replace h:=if_r g8 h;refine Qj (tx (lx (bh ?_)));cases h;exact jn (b:=()) hk7 (wkQ8 [])
 intro b1 hb1;have h:=h1;try rw [← hb1] at h
 clear h1;try dsimp only at h
 refine Q0 (runQ hN fun K hK=>?_);simp;repeat refine sdQ ?_
 refine hK _ (tn (Q4 (st':=⟨[(2,.val (.bool true))],[],0⟩) (wkQ8 []) (Qe ?_)));clear hK K;have hr:=Option.some.inj h;rw [← hr];refine ⟨_,(.tmp .nil),?_⟩;refine ⟨(.one rfl rfl .nil),[.val (.bool true)],[],by simp [Cat.cells,UA,U1,IA,I1,LA,L1,BA,B1,EA,E1,E2,eB,eI,eL],by simp,(UpL.refl _)⟩
attribute [local simp] unk unA unE unT unC flat eL eI Qm QK Q1r Cat.cells Fn.cells
noncomputable def QL (f_:Fn):Option Bool :=
 (
  (Q17 [f_.s,f_.t]).bind fun v2 =>
  if v2=true then
   (Q1k f_).bind fun v4 =>
   some v4
  else
   some false:Option (Bool)).bind fun b1 =>
 some b1
theorem Q3I (f_:Fn) (r:Bool) (h:QL f_=some r):Contract Try.prog 59 [.rptr (f_.cells true)] (.val (.bool r)):=by
 refine Q8 (rvs:=[.tmp 2]) (rs:=[.val (.bool r)]) Try.func59 rfl rfl rfl rfl (by simp [Try.f59]) fun F hN hP=>?_;unfold QL at h;refine Q0 (runQ hN fun K hK=>?_);simp;repeat refine sdQ ?_
 refine hK _ (tn (Q4 (st':=⟨Yr f_ [],[],0⟩) (wkQ8 []) (Q0 ?_)));clear hK K;replace ⟨e1,h,h1⟩:=bind_some h;refine Qd (fun b1:Bool=>⟨[(2,.val (.bool b1))],[],0⟩) (fun b1=>b1=e1) ?_ ?_
 ·refine runQ hN fun K hK=>?_;simp;repeat with_reducible refine sdQ ?_
  replace ⟨v2,hv2,h⟩:=bind_some h;refine Q1 (Q4E _ v2 hv2) (.cons (.lits (es:=_) rfl (.cons rfl (.cons (.preT (by simp [Cat.cells,Fn.cells])) .nil) (.cons rfl (.cons (.preT (by simp [Cat.cells,Fn.cells])) .nil) .nil)) rfl) .nil) ?_;simp;repeat with_reducible refine sdQ ?_
  refine Qi (fun g=>?_) (fun g=>?_)
  ·have g3:v2=true:=gQ;clear g;replace h:=if_l g3 h;simp;(repeat with_reducible refine sdQ ?_);replace ⟨v4,hv4,h⟩:=bind_some h;refine Q1 (Q4W _ v4 hv4) (.cons (.preT (by simp [Cat.cells,Fn.cells])) .nil) ?_;simp;(repeat refine sdQ ?_);refine hK _ ?_;exact jn (b:=v4) (Option.some.inj h) (wkQ8 [])
  have g3:¬ (v2=true):=gQ;clear g;replace h:=if_r g3 h;simp;repeat refine sdQ ?_
  refine hK _ ?_;exact jn (b:=false) (Option.some.inj h) (wkQ8 [])
 intro b1 hb1;have h:=h1;try rw [← hb1] at h
 clear h1;try dsimp only at h
 refine Qe ?_;have hr:=Option.some.inj h;rw [← hr];refine ⟨_,(.tmp .nil),?_⟩;refine ⟨(.one rfl rfl .nil),[.val (.bool b1)],[],by simp [Cat.cells,Fn.cells,UA,U1,IA,I1,LA,L1,BA,B1,EA,E1,E2,eB,eI,eL],by simp,(UpL.refl _)⟩
attribute [local simp] unk unA unE unT unC flat eL eI Qm Q1r Fn.cells
noncomputable def QW (list_:List Fn):Option Bool :=
 (Qx (σ:=Int) (ε:=Unit ⊕ Bool) (fun s7 =>
  if s7<(list_.length:Int) then
   ass (0≤s7∧s7<(list_.length:Int)) <|
   (QL (gx list_ s7)).bind fun v10 =>
   if ¬ (v10=true) then
    some (Ctl.ret (Sum.inr false))
   else
    ass (B64 (s7+1)) <|
    some (Ctl.next (s7+1))
  else
   some (Ctl.ret (Sum.inl ()))) fuel 0).bind fun e1 =>
 match e1 with
 | .inl b1 =>
  some true
 | .inr p1 =>
  some p1
@[simp] abbrev Y0x (a:List Fn) (b:List (Nat × AV)):List (Nat × AV):=(5,.lst true 1 (Es Q1r a))::(6,iV (a.length:Int))::b
theorem Q5y (list_:List Fn) (r:Bool) (h:QW list_=some r):Contract Try.prog 45 [.lst true 1 (Es Q1r list_)] (.val (.bool r)):=by
 refine Q8 (rvs:=[.tmp 2]) (rs:=[.val (.bool r)]) Try.func45 rfl rfl rfl rfl (by simp [Try.f45]) fun F hN hP=>?_;unfold QW at h;refine Q0 (runQ hN fun K hK=>?_);simp;repeat refine sdQ ?_
 refine hK _ ?_;clear hK K;refine tn (Q4 (st':=⟨[(0,.lst true 1 (Es Q1r list_))],[],0⟩) (wkQ8 []) (Q0 (Q0 (runQ hN fun K hK=>?_))));simp;repeat refine sdQ ?_
 refine hK _ (tn (Q4 (st':=⟨Y0x list_ [(7,iV 0)],[],0⟩) (wkQ8 []) ?_));clear hK K;replace ⟨e1,h,h1⟩:=bind_some h;refine Qd (fun b1:Unit=>⟨[],[],0⟩) (fun b1=>Sum.inl b1=e1) ?_ ?_
 ·refine Q5 (Qs h (fun s7:Int=>⟨Y0x list_ [(7,iV s7)],[],0⟩) (wkQ8 []) ?_);clear h;intro k7 s7 c7 h hk7;refine Q0 (runQ hN fun K hK=>?_);simp;repeat refine sdQ ?_
  refine hK _ ?_;clear hK K;refine tn (Q0 (Q6 rfl (fun g=>?_) fun g=>?_))
  ·have g8:s7<(list_.length:Int):=gQ;clear g;replace h:=if_l g8 h;refine Q7 (tn (Q0 (Q5 (Q0 (runQ hN fun K hK=>?_)))));replace ⟨a9,h⟩:=Q2 h;simp [at_E (c:=Q1r) a9];(repeat refine sdQ ?_);refine hK _ ?_;clear hK K;refine tn (Q4 (st':=⟨(4,.rptr (Fn.cells true (gx list_ s7)))::Y0x list_ [(7,iV s7)],[],0⟩) (wkQ8 []) (Q0 (runQ hN fun K hK=>?_)));simp;(repeat with_reducible refine sdQ ?_);replace ⟨v10,hv10,h⟩:=bind_some h;refine Q1 (Q3I _ v10 hv10) (.cons (.preT (by simp [Fn.cells])) .nil) ?_;simp;(repeat refine sdQ ?_);refine hK _ ?_;clear hK K;refine tn (Q4 (st':=⟨Y0x list_ [(7,iV s7),(13,.val (.bool (!v10)))],[],0⟩) (wkQ8 []) (Q6 rfl (fun g=>?_) fun g=>?_))
   ·have g11:¬ (v10=true):=gQ;clear g;replace h:=if_l g11 h;refine Q0 (runQ hN fun K hK=>?_);simp;(repeat refine sdQ ?_);refine hK _ (tn (Q4 (st':=⟨Y09 [],[],0⟩) (wkQ8 []) (Qe (br (tr (lr (br (tr ?_))))))));clear hK K;cases h;have q:_=e1:=hk7;have h:=h1;rw [← q] at h;clear q;(try dsimp only at h);have hr:=Option.some.inj h;rw [← hr];refine ⟨_,(.tmp .nil),?_⟩;refine ⟨(.one rfl rfl .nil),[.val (.bool false)],[],by simp [Fn.cells,UA,U1,IA,I1,LA,L1,BA,B1,EA,E1,E2,eB,eI,eL],by simp,(UpL.refl _)⟩
   have g11:¬ (¬ (v10=true)):=gQ;clear g;replace h:=if_r g11 h;refine Q7 (bn (tn (runQ hN fun K hK=>?_)));replace ⟨a12,h⟩:=Q2 h;simp [Qo a12];(repeat refine sdQ ?_);refine hK _ ?_;clear hK K;cases h;exact rn (s':=s7+1) hk7 (wkQ8 [])
  have g8:¬ (s7<(list_.length:Int)):=gQ;clear g;replace h:=if_r g8 h;refine Qj (tx (lx (bh ?_)));cases h;exact jn (b:=()) hk7 (wkQ8 [])
 intro b1 hb1;have h:=h1;try rw [← hb1] at h
 clear h1;try dsimp only at h
 refine Q0 (runQ hN fun K hK=>?_);simp;repeat refine sdQ ?_
 refine hK _ (tn (Q4 (st':=⟨[(2,.val (.bool true))],[],0⟩) (wkQ8 []) (Qe ?_)));clear hK K;have hr:=Option.some.inj h;rw [← hr];refine ⟨_,(.tmp .nil),?_⟩;refine ⟨(.one rfl rfl .nil),[.val (.bool true)],[],by simp [Fn.cells,UA,U1,IA,I1,LA,L1,BA,B1,EA,E1,E2,eB,eI,eL],by simp,(UpL.refl _)⟩
attribute [local simp] unk unA unE unT unC flat
noncomputable def Q1h (c_:Cat) (f_:Int) (g_:Int):Option Int :=
 ass (0≤f_∧f_<(c_.cs.length:Int)) <|
 ass (0≤g_∧g_<((rx c_.cs f_).length:Int)) <|
 some (ix (rx c_.cs f_) g_)
@[simp] abbrev Yq (a:Cat) (b:List (Nat × Ent)):List (Nat × Ent):=(0,.mix 5 [(Cat.cells true a)])::b
@[simp] abbrev Y0f (a b:Int) (c:List (Nat × AV)):List (Nat × AV):=(1,iV a)::(2,iV b)::(3,.adr 0 0 0)::c
theorem Q8e (c_:Cat) (f_:Int) (g_:Int) (r:Int) (h:Q1h c_ f_ g_=some r):Contract Try.prog 58 (Y0L c_ [iV f_,iV g_]) (iV r):=by
 refine Q8 (rvs:=[.tmp 6]) (rs:=[iV r]) Try.func58 rfl rfl rfl rfl (by simp [Try.f58]) fun F hN hP=>?_;unfold Q1h at h;refine Q0 (runQ hN fun K hK=>?_);simp [eL,eI,Qm,QK,Cat.cells];repeat refine sdQ ?_
 refine hK _ ?_;clear hK K;refine tn (Q4 (st':=⟨Y0f f_ g_ [],Yq c_ [],1⟩) (wkQ8 [(0,0)]) (Q0 (runQ hN fun K hK=>?_)));replace ⟨a1,h⟩:=Q2 h;replace ⟨a2,h⟩:=Q2 h;simp [eL,eI,Qm,QK,Cat.cells,at_L a1,at_I a2];repeat refine sdQ ?_
 refine hK _ (tn (Q4 (st':=⟨[(6,iV (ix (rx c_.cs f_) g_))],[],0⟩) (wkQ8 []) (Qe ?_)));clear hK K;have hr:=Option.some.inj h;rw [← hr];refine ⟨_,(.tmp .nil),?_⟩;refine ⟨(.one rfl rfl .nil),[iV (ix (rx c_.cs f_) g_)],[],by simp [Cat.cells,UA,U1,IA,I1,LA,L1,BA,B1,EA,E1,E2,eB,eI,eL],by simp,(UpL.refl _)⟩
section
attribute [local simp] Qf QG Qu Q15 QD
structure Para (f g:Fn):Prop where
 hf:f.Is
 hg:g.Is
 s:f.s=g.s
 t:f.t=g.t
theorem e_l02Then {c:Cat} {f g:Int} (h0:0≤f∧f<(c.cs.length:Int)) (h1:0≤g∧g<((rx c.cs f).length:Int)):Q1h c f g=some (ix (rx c.cs f) g):=by
 unfold Q1h;rw [Q3 h0,Q3 h1]
theorem Q7J {c:Cat} {f g:Int} (h0:0≤f∧f<(c.cs.length:Int)) (h1:0≤g∧g<((rx c.cs f).length:Int)):Qp c f g=some (ix (rx c.cs f) g):=by
 unfold Qp;rw [Q3 h0.1,Q3 h0.2,Q3 h1.1,Q3 h1.2]
theorem e_fits {f:Fn} (h1:f.s.Is) (h2:f.t.Is):Q1k f=some (bo f.Is):=by
 have hs:=h1.1;have ht:=h2.1;have k0:=hs.n0;have k1:=hs.n8;have k2:=hs.m40;have k3:=hs.li;have k4:=hs.lt;have k5:=hs.lc;have k6:=ht.li;have k7:=ht.lt;have k8:=ht.lc;have k9:=ht.m40;have k10:=ht.n0;have k11:=ht.n8;have b1:B64 (f.t.n - 1):=⟨by omega,by omega⟩;have b2:B64 ((f.t.fr.length:Int) - 1):=⟨by omega,by omega⟩;unfold Q1k
 by_cases h3:(f.ob.length:Int)=f.s.n
 case neg=>rw [Qw (show ¬ f.Is from fun q=>h3 q.lo)];simp [h3]
 by_cases h4:(f.ar.length:Int)=f.s.fr.length
 case neg=>rw [Qw (show ¬ f.Is from fun q=>h4 (by rw [q.la]))];simp [Qv,h3,h4]
 by_cases h5:f.ob.all (inR f.t.n)=true
 case neg=>rw [Qw (show ¬ f.Is from fun q=>h5 (all_inR.2 q.ob))];simp [Qv,Q28,Q3 b1,h3,h4,h5]
 by_cases h6:f.ar.all (inR f.t.fr.length)=true
 case neg=>rw [Qw (show ¬ f.Is from fun q=>h6 (all_inR.2 q.ar))];simp [Qv,Q28,Q3 b1,Q3 b2,h3,h4,h5,h6]
 have ho:=all_inR.1 h5;have ha:=all_inR.1 h6;simp only [Qv,Q28,Q3 b1,Q3 b2,h3,h4,h5,h6,Option.bind_some,if_true,if_false,not_true_eq_false,Bool.not_true,Bool.false_eq_true];refine Q1c f.s.fr.length (fun a:Nat=>ix f.t.fr (ix f.ar a)=ix f.ob (ix f.s.fr a)∧ix f.t.to (ix f.ar a)=ix f.ob (ix f.s.to a)) (eb:=Sum.inr false) (eg:=Sum.inl ()) (by omega) (fun a hi hp=>?_) (fun a hi hp=>?_) (by simp) (fun hx=>?_) fun q1=>?_
 ·have:=hs.frn hi;have:=ha a (by omega);simp (disch:=omega) [Q3,B64,hp.1,hp.2,hi]
 ·have:=hs.frn hi;have:=ha a (by omega)
  by_cases hp1:ix f.t.fr (ix f.ar a)=ix f.ob (ix f.s.fr a)
  ·have hp2:¬ ix f.t.to (ix f.ar a)=ix f.ob (ix f.s.to a):=fun h=>hp ⟨hp1,h⟩;simp (disch:=omega) [Q3,B64,hp1,hp2,hi]
  simp (disch:=omega) [Q3,B64,hp1,hi]
 ·rw [Qw (show ¬ f.Is from fun q=>hx q.ends)]
 simp only;refine Q1c f.s.id.length (fun x:Nat=>ix f.ar (ix f.s.id x)=ix f.t.id (ix f.ob x)) (eb:=Sum.inr false) (eg:=Sum.inl ()) (by omega) (fun a hi hp=>?_) (fun a hi hp=>?_) (by simp) (fun hx=>?_) fun q2=>?_
 ·have:=hs.idn hi;have:=ho a (by omega);simp (disch:=omega) [Q3,B64,hp,hi]
 ·have:=hs.idn hi;have:=ho a (by omega);simp (disch:=omega) [Q3,B64,hp,hi]
 ·rw [Qw (show ¬ f.Is from fun q=>hx q.ids)]
 simp only;refine Q1c f.s.fr.length (fun a:Nat=>∀ b:Nat,b<f.s.fr.length→ix f.s.to a=ix f.s.fr b→ix f.ar (ix (rx f.s.cs a) b)=ix (rx f.t.cs (ix f.ar a)) (ix f.ar b)) (eb:=Sum.inr false) (eg:=Sum.inl ()) (by omega) (fun a hi hp=>?_) (fun a hi hp=>?_) (by simp;omega) (fun hx=>?_) fun q3=>?_;rotate_left 2
 ·rw [Qw (show ¬ f.Is from fun q=>hx q.comp)]
 ·rw [QE (show f.Is from ⟨h1,h2,h3,by omega,ho,ha,q1,q2,q3⟩)]
 all_goals
  have h8:=ha a (by omega);have h11:=hs.row' (j:=a) (by omega) (by omega);have h12:=ht.row' (j:=ix f.ar a) (by omega) (by omega);rw [if_pos (by omega),Q3 (by omega),Option.bind_assoc];refine Q1c f.s.fr.length (fun b:Nat=>ix f.s.to a=ix f.s.fr b→ix f.ar (ix (rx f.s.cs a) b)=ix (rx f.t.cs (ix f.ar a)) (ix f.ar b)) (eb:=Sum.inl false) (eg:=Sum.inr ()) (by omega) (fun b hb hq=>?_) (fun b hb hq=>?_) ?_ (fun hn=>?_) fun hn=>?_
 all_goals first
  | exact absurd hp hn
  | exact absurd hn hp
  | (simp (disch:=omega) [Q3,B64,h11];done)
  | skip
 all_goals
  have h13:=ha b (by omega);have h16:=hs.cell' (f:=a) (g:=b) (by omega) (by omega) (by omega) (by omega)
  by_cases h14:ix f.s.to a=ix f.s.fr b
  ·have h15:=hs.cmp (f:=a) (g:=b) (by omega) (by omega) (by omega) (by omega) h14;have h17:ix (rx f.s.cs a) b ≥ 0:=h15.1;first
    | (have hq1:=hq h14;simp (disch:=omega) [Q3,B64,Q7J,h14,hq1,hb,h11,h17];done)
    | (have hq1:=fun e=>hq (fun _=>e);simp (disch:=omega) [Q3,B64,Q7J,h14,hq1,hb,h11,h17];exact hq1)
  have h17:=h16.1 h14;first
   | (simp (disch:=omega) [Q3,B64,h14,hb,h11,h17];done)
   | exact absurd (fun e=>absurd e h14) hq
theorem Q4i {α:Type} [Inhabited α] (xs:List α) {i:Nat} (h:i<xs.length):gx xs i=xs[i]:=by simp [gx,List.getD_eq_getElem?_getD,h]
theorem e_areCats (cs:List Cat) (hl:cs.length≤1048576):Q17 cs=some (bo (∀ c∈cs,c.Is)):=by
 unfold Q17;refine Q1c cs.length (fun i:Nat=>(gx cs i).Is) (eb:=Sum.inr false) (eg:=Sum.inl ()) (by omega) (fun a hi hp=>?_) (fun a hi hp=>?_) (by simp) (fun hx=>?_) fun q1=>?_
 ·simp (disch:=omega) [Q3,B64,QH,QE hp,hi]
 ·simp (disch:=omega) [Q3,B64,QH,Qw hp,hi]
 ·rw [Qw (show ¬ ∀ c∈cs,c.Is from fun q=>hx fun i hi=>q _ (by rw [Q4i _ hi];exact List.getElem_mem hi))]
 rw [QE (show ∀ c∈cs,c.Is from fun c hc=>by obtain ⟨i,hi,rfl⟩:=List.getElem_of_mem hc;have:=q1 i hi;rwa [Q4i _ hi] at this)]
theorem Q5a (f:Fn):QL f=some (bo f.Is):=by
 unfold QL;rw [e_areCats _ (by simp)]
 by_cases h:f.s.Is∧f.t.Is
 ·rw [QE (show ∀ c∈[f.s,f.t],c.Is by simpa using h)];simp [e_fits h.1 h.2]
 rw [Qw (show ¬ ∀ c∈[f.s,f.t],c.Is by simpa using h),Qw (show ¬ f.Is from fun q=>h ⟨q.s,q.t⟩)];simp
theorem Q6i (fs:List Fn) (hl:fs.length≤1048576):QW fs=some (bo (∀ f∈fs,f.Is)):=by
 unfold QW;refine Q1c fs.length (fun i:Nat=>(gx fs i).Is) (eb:=Sum.inr false) (eg:=Sum.inl ()) (by omega) (fun a hi hp=>?_) (fun a hi hp=>?_) (by simp) (fun hx=>?_) fun q1=>?_
 ·simp (disch:=omega) [Q3,B64,Q5a,QE hp,hi]
 ·simp (disch:=omega) [Q3,B64,Q5a,Qw hp,hi]
 ·rw [Qw (show ¬ ∀ c∈fs,c.Is from fun q=>hx fun i hi=>q _ (by rw [Q4i _ hi];exact List.getElem_mem hi))]
 rw [QE (show ∀ c∈fs,c.Is from fun c hc=>by obtain ⟨i,hi,rfl⟩:=List.getElem_of_mem hc;have:=q1 i hi;rwa [Q4i _ hi] at this)]
theorem Cat.Is.lcs {c:Cat} (h:c.Is):c.cs.length≤1048576:=by have:=h.1.lc;have:=h.1.m40;omega
theorem e_sameCat {c d:Cat} (h:c.Is):QN c d=some (bo (c=d)):=by
 unfold QN;rw [Q3 h.lcs]
end
section
attribute [local simp] Qf QG Qu Q15 QD
def tab {α:Type} (n:Nat) (g:Nat→α):List α:=(List.range n).map g
@[simp] theorem tab_length {α:Type} (n:Nat) (g:Nat→α):(tab n g).length=n:=by simp [tab]
theorem Q6G {α:Type} (n:Nat) (g:Nat→α):tab (n+1) g=tab n g++[g n]:=by simp [tab,List.range_succ]
theorem ix_tab (n:Nat) (g:Nat→Int) {i:Nat} (h:i<n):ix (tab n g) i=g i:=by
 rw [← Q16 _ _ (show i<(tab n g).length by simpa using h)];simp [tab]
def zeroF:Fn:=⟨⟨0,[],[],[],[]⟩,⟨0,[],[],[],[]⟩,[],[]⟩
end
attribute [local simp] unk unA unE unT unC flat eL eI Qm QK Cat.cells
noncomputable def QA (c_:Cat) (x_:Int) (y_:Int):Option (List Int) :=
 (Qx (σ:=List Int × Int) (ε:=List Int) (fun s11 =>
  if s11.2<(c_.fr.length:Int) then
   (
    (
     ass (0≤s11.2∧s11.2<(c_.fr.length:Int)) <|
     if (ix c_.fr s11.2)=x_ then
      ass (0≤s11.2∧s11.2<(c_.to.length:Int)) <|
      some ((ix c_.to s11.2) == y_)
     else
      some false:Option (Bool)).bind fun b14 =>
    if b14=true then
     ass ((s11.1++[s11.2]).length≤1073741824) <|
     some (s11.1++[s11.2])
    else
     some s11.1:Option (List Int)).bind fun b13 =>
   ass (B64 (s11.2+1)) <|
   some (Ctl.next (b13,s11.2+1))
  else
   some (Ctl.ret s11.1)) fuel ([],0)).bind fun b1 =>
 some b1
@[simp] abbrev Y01 (a:Cat) (b c:Int) (d:List (Nat × AV)):List (Nat × AV):=(0,.rptr (Cat.cells true a))::(1,iV b)::(2,iV c)::d
theorem Q3r (c_:Cat) (x_:Int) (y_:Int) (r:List Int) (h:QA c_ x_ y_=some r):Contract Try.prog 65 [.rptr (c_.cells true),iV x_,iV y_] (lI r):=by
 refine Q8 (rvs:=[.tmp 6]) (rs:=[lI r]) Try.func65 rfl rfl rfl rfl (by simp [Try.f65]) fun F hN hP=>?_;unfold QA at h;refine Q0 (runQ hN fun K hK=>?_);simp;repeat refine sdQ ?_
 refine hK _ ?_;clear hK K;refine tn (Q4 (st':=⟨Y01 c_ x_ y_ [],[],0⟩) (wkQ8 []) (Q0 (runQ hN fun K hK=>?_)));simp;repeat refine sdQ ?_
 refine hK _ ?_;clear hK K;refine tn (Q4 (st':=⟨Y01 c_ x_ y_ [(7,.own 0 0 0)],[(0,.mix 1 [])],1⟩) (wkQ8 [(0,0)]) (Q0 (Q0 (runQ hN fun K hK=>?_))));simp;repeat refine sdQ ?_
 refine hK _ (tn (Q4 (st':=⟨Y01 c_ x_ y_ [(7,.own 0 0 0),(14,iV (c_.fr.length:Int)),(15,iV 0)],[(0,.mix 1 [])],1⟩) (wkQ8 [(0,0)]) ?_));clear hK K;replace ⟨e1,h,h1⟩:=bind_some h;refine Qd (fun b1:List Int=>⟨[(7,.own 0 0 b1.length)],[(0,rI b1)],1⟩) (fun b1=>b1=e1) ?_ ?_
 ·refine Q5 (Qs h (fun s11:List Int × Int=>⟨Y01 c_ x_ y_ [(7,.own 0 0 s11.1.length),(14,iV (c_.fr.length:Int)),(15,iV s11.2)],[(0,rI s11.1)],1⟩) (Q3a ⟨Y01 c_ x_ y_ [(7,.own 0 0 0),(14,iV (c_.fr.length:Int)),(15,iV 0)],[(0,rI [])],1⟩ (Wk.nils [] (by simp) (by simp) (by simp [nlA]) (by simp [entN,nlL,nlA,Cat.cells,UA,U1,IA,I1,LA,L1,BA,B1,EA,E1,E2,eB,eI,eL]) (by simp)) (wkQ8 [(0,0)])) ?_);clear h;intro k11 s11 c11 h hk11;refine Q0 (runQ hN fun K hK=>?_);simp;repeat refine sdQ ?_
  refine hK _ ?_;clear hK K;refine tn (Q0 (Q6 rfl (fun g=>?_) fun g=>?_))
  ·have g12:s11.2<(c_.fr.length:Int):=gQ;clear g;replace h:=if_l g12 h;refine Q7 (tn (Q0 ?_));replace ⟨e13,h,h13⟩:=bind_some h;refine Qd (fun b13:List Int=>⟨Y01 c_ x_ y_ [(7,.own 0 0 b13.length),(14,iV (c_.fr.length:Int)),(15,iV s11.2)],[(0,rI b13)],1⟩) (fun b13=>b13=e13) ?_ ?_
   ·refine Q5 (Q0 (runQ hN fun K hK=>?_));simp;(repeat refine sdQ ?_);refine hK _ (tn (Q4 (st':=⟨Y01 c_ x_ y_ [(7,.own 0 0 s11.1.length),(8,iV s11.2),(14,iV (c_.fr.length:Int)),(15,iV s11.2)],[(0,rI s11.1)],1⟩) (wkQ8 [(0,0)]) (Q0 ?_)));clear hK K;replace ⟨e14,h,h14⟩:=bind_some h;refine Qd (fun b14:Bool=>⟨Y01 c_ x_ y_ [(7,.own 0 0 s11.1.length),(8,iV s11.2),(14,iV (c_.fr.length:Int)),(15,iV s11.2),(37,.val (.bool b14))],[(0,rI s11.1)],1⟩) (fun b14=>b14=e14) ?_ ?_
    ·refine runQ hN fun K hK=>?_;replace ⟨a15,h⟩:=Q2 h;simp [at_I a15];(repeat with_reducible refine sdQ ?_);refine Qi (fun g=>?_) (fun g=>?_)
     ·have g16:(ix c_.fr s11.2)=x_:=gQ;clear g;replace h:=if_l g16 h;replace ⟨a17,h⟩:=Q2 h;simp [at_I a15,at_I a17];(repeat refine sdQ ?_);refine hK _ ?_;exact jn (b:=(ix c_.to s11.2) == y_) (Option.some.inj h) (wkQ8 [(0,0)])
     have g16:¬ ((ix c_.fr s11.2)=x_):=gQ;clear g;replace h:=if_r g16 h;simp [at_I a15];(repeat refine sdQ ?_);refine hK _ ?_;exact jn (b:=false) (Option.some.inj h) (wkQ8 [(0,0)])
    intro b14 hb14;have h:=h14;(try rw [← hb14] at h);clear h14;(try dsimp only at h);refine Q6 rfl (fun g=>?_) fun g=>?_
    ·have g18:b14=true:=gQ;clear g;replace h:=if_l g18 h;refine runQ hN fun K hK=>?_;replace ⟨a19,h⟩:=Q2 h;(try simp only [List.length_append,List.length_cons,List.length_nil] at a19);simp [a19];(repeat refine sdQ ?_);refine hK _ (bn ?_);clear hK K;exact jn (b:=s11.1++[s11.2]) (Option.some.inj h) (wkQ8 [(2,0)])
    have g18:¬ (b14=true):=gQ;clear g;replace h:=if_r g18 h;refine Q7 (bn ?_);exact jn (b:=s11.1) (Option.some.inj h) (wkQ8 [(0,0)])
   intro b13 hb13;have h:=h13;(try rw [← hb13] at h);clear h13;(try dsimp only at h);refine runQ hN fun K hK=>?_;replace ⟨a20,h⟩:=Q2 h;simp [Qo a20];(repeat refine sdQ ?_);refine hK _ ?_;clear hK K;cases h;exact rn (s':=(b13,s11.2+1)) hk11 (wkQ8 [(0,0)])
  have g12:¬ (s11.2<(c_.fr.length:Int)):=gQ;clear g;replace h:=if_r g12 h;refine Qj (tx (lx (bh ?_)));cases h;exact jn (b:=s11.1) hk11 (wkQ8 [(0,0)])
 intro b1 hb1;have h:=h1;try rw [← hb1] at h
 clear h1;try dsimp only at h
 refine Q0 (runQ hN fun K hK=>?_);simp;repeat refine sdQ ?_
 refine hK _ (tn (Q4 (st':=⟨[(6,.own 0 0 b1.length)],[(0,rI b1)],1⟩) (wkQ8 [(0,0)]) (Qe ?_)));clear hK K;have hr:=Option.some.inj h;rw [← hr];refine ⟨_,(.tmp .nil),?_⟩;refine ⟨(.one rfl rfl .nil),[lI b1],[0],by simp [Cat.cells,UA,U1,IA,I1,LA,L1,BA,B1,EA,E1,E2,eB,eI,eL],by simp,(UpL.refl _)⟩
attribute [local simp] unk unA unE unT unC flat eL eI Qm QK Cat.cells
noncomputable def Q2a (c_:Cat) (x_:Int) (y_:Int):Option (List Int) :=
 (Qx (σ:=List Int × Int) (ε:=List Int) (fun s11 =>
  if s11.2<(c_.fr.length:Int) then
   (
    (
     ass (0≤s11.2∧s11.2<(c_.fr.length:Int)) <|
     if (ix c_.fr s11.2)=x_ then
      ass (0≤s11.2∧s11.2<(c_.to.length:Int)) <|
      some ((ix c_.to s11.2) == y_)
     else
      some false:Option (Bool)).bind fun b14 =>
    if b14=true then
     ass ((s11.1++[s11.2]).length≤1073741824) <|
     some (s11.1++[s11.2])
    else
     some s11.1:Option (List Int)).bind fun b13 =>
   ass (B64 (s11.2+1)) <|
   some (Ctl.next (b13,s11.2+1))
  else
   some (Ctl.ret s11.1)) fuel ([],0)).bind fun b1 =>
 some b1
theorem Q6c (c_:Cat) (x_:Int) (y_:Int) (r:List Int) (h:Q2a c_ x_ y_=some r):Contract Try.prog 57 (Y0L c_ [iV x_,iV y_]) (lI r):=by
 refine Q8 (rvs:=[.tmp 6]) (rs:=[lI r]) Try.func57 rfl rfl rfl rfl (by simp [Try.f57]) fun F hN hP=>?_;unfold Q2a at h;refine Q0 (runQ hN fun K hK=>?_);simp;repeat refine sdQ ?_
 refine hK _ ?_;clear hK K;refine tn (Q4 (st':=⟨Y0f x_ y_ [],Yq c_ [],1⟩) (wkQ8 [(0,0)]) (Q0 (runQ hN fun K hK=>?_)));simp;repeat refine sdQ ?_
 refine hK _ ?_;clear hK K;refine tn (Q4 (st':=⟨Y0f x_ y_ [(7,.own 1 0 0)],Yq c_ [(1,.mix 1 [])],2⟩) (wkQ8 [(0,0),(1,1)]) (Q0 (Q0 (runQ hN fun K hK=>?_))));simp;repeat refine sdQ ?_
 refine hK _ (tn (Q4 (st':=⟨Y0f x_ y_ [(7,.own 1 0 0),(8,iV 0)],Yq c_ [(1,.mix 1 [])],2⟩) (wkQ8 [(0,0),(1,1)]) ?_));clear hK K;replace ⟨e1,h,h1⟩:=bind_some h;refine Qd (fun b1:List Int=>⟨[(7,.own 0 0 b1.length)],[(0,rI b1)],1⟩) (fun b1=>b1=e1) ?_ ?_
 ·refine Q5 (Qs h (fun s11:List Int × Int=>⟨Y0f x_ y_ [(7,.own 1 0 s11.1.length),(8,iV s11.2)],Yq c_ [(1,rI s11.1)],2⟩) (Q3a ⟨Y0f x_ y_ [(7,.own 1 0 0),(8,iV 0)],Yq c_ [(1,rI [])],2⟩ (Wk.nils [] (by simp) (by simp) (by simp [nlA]) (by simp [entN,nlL,nlA,Cat.cells,UA,U1,IA,I1,LA,L1,BA,B1,EA,E1,E2,eB,eI,eL]) (by simp)) (wkQ8 [(0,0),(1,1)])) ?_);clear h;intro k11 s11 c11 h hk11;refine Q0 (Q0 (runQ hN fun K hK=>?_));simp;repeat refine sdQ ?_
  refine hK _ ?_;clear hK K;refine tn (Q6 rfl (fun g=>?_) fun g=>?_)
  ·have g12:s11.2<(c_.fr.length:Int):=gQ;clear g;replace h:=if_l g12 h;refine Q7 (tn (Q0 ?_));replace ⟨e13,h,h13⟩:=bind_some h;refine Qd (fun b13:List Int=>⟨Y0f x_ y_ [(7,.own 1 0 b13.length),(8,iV s11.2)],Yq c_ [(1,rI b13)],2⟩) (fun b13=>b13=e13) ?_ ?_
   ·refine Q5 (Q0 ?_);replace ⟨e14,h,h14⟩:=bind_some h;refine Qd (fun b14:Bool=>⟨Y0f x_ y_ [(7,.own 1 0 s11.1.length),(8,iV s11.2),(32,.val (.bool b14))],Yq c_ [(1,rI s11.1)],2⟩) (fun b14=>b14=e14) ?_ ?_
    ·refine runQ hN fun K hK=>?_;replace ⟨a15,h⟩:=Q2 h;simp [at_I a15];(repeat with_reducible refine sdQ ?_);refine Qi (fun g=>?_) (fun g=>?_)
     ·have g16:(ix c_.fr s11.2)=x_:=gQ;clear g;replace h:=if_l g16 h;replace ⟨a17,h⟩:=Q2 h;simp [at_I a15,at_I a17];(repeat refine sdQ ?_);refine hK _ ?_;exact jn (b:=(ix c_.to s11.2) == y_) (Option.some.inj h) (wkQ8 [(0,0),(1,1)])
     have g16:¬ ((ix c_.fr s11.2)=x_):=gQ;clear g;replace h:=if_r g16 h;simp [at_I a15];(repeat refine sdQ ?_);refine hK _ ?_;exact jn (b:=false) (Option.some.inj h) (wkQ8 [(0,0),(1,1)])
    intro b14 hb14;have h:=h14;(try rw [← hb14] at h);clear h14;(try dsimp only at h);refine Q6 rfl (fun g=>?_) fun g=>?_
    ·have g18:b14=true:=gQ;clear g;replace h:=if_l g18 h;refine runQ hN fun K hK=>?_;replace ⟨a19,h⟩:=Q2 h;(try simp only [List.length_append,List.length_cons,List.length_nil] at a19);simp [a19];(repeat refine sdQ ?_);refine hK _ (bn ?_);clear hK K;exact jn (b:=s11.1++[s11.2]) (Option.some.inj h) (wkQ8 [(0,0),(3,1)])
    have g18:¬ (b14=true):=gQ;clear g;replace h:=if_r g18 h;refine Q7 (bn ?_);exact jn (b:=s11.1) (Option.some.inj h) (wkQ8 [(0,0),(1,1)])
   intro b13 hb13;have h:=h13;(try rw [← hb13] at h);clear h13;(try dsimp only at h);refine runQ hN fun K hK=>?_;replace ⟨a20,h⟩:=Q2 h;simp [Qo a20];(repeat refine sdQ ?_);refine hK _ ?_;clear hK K;cases h;exact rn (s':=(b13,s11.2+1)) hk11 (wkQ8 [(0,0),(1,1)])
  have g12:¬ (s11.2<(c_.fr.length:Int)):=gQ;clear g;replace h:=if_r g12 h;refine Qj (tx (lx (bh ?_)));cases h;exact jn (b:=s11.1) hk11 (wkQ8 [(1,0)])
 intro b1 hb1;have h:=h1;try rw [← hb1] at h
 clear h1;try dsimp only at h
 refine Q0 (runQ hN fun K hK=>?_);simp;repeat refine sdQ ?_
 refine hK _ (tn (Q4 (st':=⟨[(6,.own 0 0 b1.length)],[(0,rI b1)],1⟩) (wkQ8 [(0,0)]) (Qe ?_)));clear hK K;have hr:=Option.some.inj h;rw [← hr];refine ⟨_,(.tmp .nil),?_⟩;refine ⟨(.one rfl rfl .nil),[lI b1],[0],by simp [Cat.cells,UA,U1,IA,I1,LA,L1,BA,B1,EA,E1,E2,eB,eI,eL],by simp,(UpL.refl _)⟩
attribute [local simp] unk unA unE unT unC flat eL eI Qm QK Cat.cells
noncomputable def Q21 (c_:Cat) (f_:Int):Option (List Int) :=
 (Qx (σ:=List Int × Int) (ε:=List Int) (fun s18 =>
  if s18.2<(c_.fr.length:Int) then
   (
    (
     ass (0≤s18.2∧s18.2<(c_.fr.length:Int)) <|
     ass (0≤f_∧f_<(c_.to.length:Int)) <|
     if (ix c_.fr s18.2)=(ix c_.to f_) then
      ass (0≤s18.2∧s18.2<(c_.to.length:Int)) <|
      ass (0≤f_∧f_<(c_.fr.length:Int)) <|
      if (ix c_.to s18.2)=(ix c_.fr f_) then
       ass (0≤f_∧f_<(c_.cs.length:Int)) <|
       ass (0≤s18.2∧s18.2<((rx c_.cs f_).length:Int)) <|
       ass (0≤f_∧f_<(c_.fr.length:Int)) <|
       ass (0≤ix c_.fr f_∧ix c_.fr f_<(c_.id.length:Int)) <|
       some ((ix (rx c_.cs f_) s18.2) == (ix c_.id (ix c_.fr f_)))
      else
       some false
     else
      some false:Option (Bool)).bind fun b21 =>
    if b21=true then
     ass ((s18.1++[s18.2]).length≤1073741824) <|
     some (s18.1++[s18.2])
    else
     some s18.1:Option (List Int)).bind fun b20 =>
   ass (B64 (s18.2+1)) <|
   some (Ctl.next (b20,s18.2+1))
  else
   some (Ctl.ret s18.1)) fuel ([],0)).bind fun b1 =>
 some b1
@[simp] abbrev Y02 (a:Int) (b:List (Nat × AV)):List (Nat × AV):=(1,iV a)::(2,.adr 0 0 0)::b
theorem Q4p (c_:Cat) (f_:Int) (r:List Int) (h:Q21 c_ f_=some r):Contract Try.prog 97 (Y0L c_ [iV f_]) (lI r):=by
 refine Q8 (rvs:=[.tmp 4]) (rs:=[lI r]) Try.func97 rfl rfl rfl rfl (by simp [Try.f97]) fun F hN hP=>?_;unfold Q21 at h;refine Q0 (runQ hN fun K hK=>?_);simp;repeat refine sdQ ?_
 refine hK _ ?_;clear hK K;refine tn (Q4 (st':=⟨Y02 f_ [],Yq c_ [],1⟩) (wkQ8 [(0,0)]) (Q0 (runQ hN fun K hK=>?_)));simp;repeat refine sdQ ?_
 refine hK _ ?_;clear hK K;refine tn (Q4 (st':=⟨Y02 f_ [(5,.own 1 0 0)],Yq c_ [(1,.mix 1 [])],2⟩) (wkQ8 [(0,0),(1,1)]) (Q0 (Q0 (runQ hN fun K hK=>?_))));simp;repeat refine sdQ ?_
 refine hK _ (tn (Q4 (st':=⟨Y02 f_ [(5,.own 1 0 0),(6,iV 0)],Yq c_ [(1,.mix 1 [])],2⟩) (wkQ8 [(0,0),(1,1)]) ?_));clear hK K;replace ⟨e1,h,h1⟩:=bind_some h;refine Qd (fun b1:List Int=>⟨Y0m b1 [],[(0,rI b1)],1⟩) (fun b1=>b1=e1) ?_ ?_
 ·refine Q5 (Qs h (fun s18:List Int × Int=>⟨Y02 f_ [(5,.own 1 0 s18.1.length),(6,iV s18.2)],Yq c_ [(1,rI s18.1)],2⟩) (Q3a ⟨Y02 f_ [(5,.own 1 0 0),(6,iV 0)],Yq c_ [(1,rI [])],2⟩ (Wk.nils [] (by simp) (by simp) (by simp [nlA]) (by simp [entN,nlL,nlA,Cat.cells,UA,U1,IA,I1,LA,L1,BA,B1,EA,E1,E2,eB,eI,eL]) (by simp)) (wkQ8 [(0,0),(1,1)])) ?_);clear h;intro k18 s18 c18 h hk18;refine Q0 (Q0 (runQ hN fun K hK=>?_));simp;repeat refine sdQ ?_
  refine hK _ ?_;clear hK K;refine tn (Q6 rfl (fun g=>?_) fun g=>?_)
  ·have g19:s18.2<(c_.fr.length:Int):=gQ;clear g;replace h:=if_l g19 h;refine Q7 (tn (Q0 ?_));replace ⟨e20,h,h20⟩:=bind_some h;refine Qd (fun b20:List Int=>⟨Y02 f_ [(5,.own 1 0 b20.length),(6,iV s18.2)],Yq c_ [(1,rI b20)],2⟩) (fun b20=>b20=e20) ?_ ?_
   ·refine Q5 (Q0 ?_);replace ⟨e21,h,h21⟩:=bind_some h;refine Qd (fun b21:Bool=>⟨Y02 f_ [(5,.own 1 0 s18.1.length),(6,iV s18.2),(58,.val (.bool b21))],Yq c_ [(1,rI s18.1)],2⟩) (fun b21=>b21=e21) ?_ ?_
    ·refine runQ hN fun K hK=>?_;replace ⟨a22,h⟩:=Q2 h;replace ⟨a23,h⟩:=Q2 h;simp [at_I a22,at_I a23];(repeat with_reducible refine sdQ ?_);refine Qi (fun g=>?_) (fun g=>?_)
     ·have g24:(ix c_.fr s18.2)=(ix c_.to f_):=gQ;clear g;replace h:=if_l g24 h;replace ⟨a25,h⟩:=Q2 h;replace ⟨a26,h⟩:=Q2 h;simp [at_I a22,at_I a23,at_I a25,at_I a26];(repeat with_reducible refine sdQ ?_);refine Qi (fun g=>?_) (fun g=>?_)
      ·have g27:(ix c_.to s18.2)=(ix c_.fr f_):=gQ;clear g;replace h:=if_l g27 h;replace ⟨a28,h⟩:=Q2 h;replace ⟨a29,h⟩:=Q2 h;replace ⟨a30,h⟩:=Q2 h;replace ⟨a31,h⟩:=Q2 h;simp [at_I a22,at_I a23,at_I a25,at_I a26,at_L a28,at_I a29,at_I a30,at_I a31];(repeat refine sdQ ?_);refine hK _ ?_;exact jn (b:=(ix (rx c_.cs f_) s18.2) == (ix c_.id (ix c_.fr f_))) (Option.some.inj h) (wkQ8 [(0,0),(1,1)])
      have g27:¬ ((ix c_.to s18.2)=(ix c_.fr f_)):=gQ;clear g;replace h:=if_r g27 h;simp [at_I a22,at_I a23,at_I a25,at_I a26];(repeat refine sdQ ?_);refine hK _ ?_;exact jn (b:=false) (Option.some.inj h) (wkQ8 [(0,0),(1,1)])
     have g24:¬ ((ix c_.fr s18.2)=(ix c_.to f_)):=gQ;clear g;replace h:=if_r g24 h;simp [at_I a22,at_I a23];(repeat refine sdQ ?_);refine hK _ ?_;exact jn (b:=false) (Option.some.inj h) (wkQ8 [(0,0),(1,1)])
    intro b21 hb21;have h:=h21;(try rw [← hb21] at h);clear h21;(try dsimp only at h);refine Q6 rfl (fun g=>?_) fun g=>?_
    ·have g32:b21=true:=gQ;clear g;replace h:=if_l g32 h;refine runQ hN fun K hK=>?_;replace ⟨a33,h⟩:=Q2 h;(try simp only [List.length_append,List.length_cons,List.length_nil] at a33);simp [a33];(repeat refine sdQ ?_);refine hK _ (bn ?_);clear hK K;exact jn (b:=s18.1++[s18.2]) (Option.some.inj h) (wkQ8 [(0,0),(3,1)])
    have g32:¬ (b21=true):=gQ;clear g;replace h:=if_r g32 h;refine Q7 (bn ?_);exact jn (b:=s18.1) (Option.some.inj h) (wkQ8 [(0,0),(1,1)])
   intro b20 hb20;have h:=h20;(try rw [← hb20] at h);clear h20;(try dsimp only at h);refine runQ hN fun K hK=>?_;replace ⟨a34,h⟩:=Q2 h;simp [Qo a34];(repeat refine sdQ ?_);refine hK _ ?_;clear hK K;cases h;exact rn (s':=(b20,s18.2+1)) hk18 (wkQ8 [(0,0),(1,1)])
  have g19:¬ (s18.2<(c_.fr.length:Int)):=gQ;clear g;replace h:=if_r g19 h;refine Qj (tx (lx (bh ?_)));cases h;exact jn (b:=s18.1) hk18 (wkQ8 [(1,0)])
 intro b1 hb1;have h:=h1;try rw [← hb1] at h
 clear h1;try dsimp only at h
 refine Q0 (runQ hN fun K hK=>?_);simp;repeat refine sdQ ?_
 refine hK _ (tn (Q4 (st':=⟨[(4,.own 0 0 b1.length)],[(0,rI b1)],1⟩) (wkQ8 [(0,0)]) (Qe ?_)));clear hK K;have hr:=Option.some.inj h;rw [← hr];refine ⟨_,(.tmp .nil),?_⟩;refine ⟨(.one rfl rfl .nil),[lI b1],[0],by simp [Cat.cells,UA,U1,IA,I1,LA,L1,BA,B1,EA,E1,E2,eB,eI,eL],by simp,(UpL.refl _)⟩
attribute [local simp] unk unA unE unT unC flat eL eI Qm QK Cat.cells
noncomputable def Q2H (c_:Cat) (f_:Int):Option (List Int) :=
 (Qx (σ:=List Int × Int) (ε:=List Int) (fun s18 =>
  if s18.2<(c_.fr.length:Int) then
   (
    (
     ass (0≤s18.2∧s18.2<(c_.fr.length:Int)) <|
     ass (0≤f_∧f_<(c_.to.length:Int)) <|
     if (ix c_.fr s18.2)=(ix c_.to f_) then
      ass (0≤s18.2∧s18.2<(c_.to.length:Int)) <|
      ass (0≤f_∧f_<(c_.fr.length:Int)) <|
      if (ix c_.to s18.2)=(ix c_.fr f_) then
       ass (0≤s18.2∧s18.2<(c_.cs.length:Int)) <|
       ass (0≤f_∧f_<((rx c_.cs s18.2).length:Int)) <|
       ass (0≤f_∧f_<(c_.to.length:Int)) <|
       ass (0≤ix c_.to f_∧ix c_.to f_<(c_.id.length:Int)) <|
       some ((ix (rx c_.cs s18.2) f_) == (ix c_.id (ix c_.to f_)))
      else
       some false
     else
      some false:Option (Bool)).bind fun b21 =>
    if b21=true then
     ass ((s18.1++[s18.2]).length≤1073741824) <|
     some (s18.1++[s18.2])
    else
     some s18.1:Option (List Int)).bind fun b20 =>
   ass (B64 (s18.2+1)) <|
   some (Ctl.next (b20,s18.2+1))
  else
   some (Ctl.ret s18.1)) fuel ([],0)).bind fun b1 =>
 some b1
theorem Q5B (c_:Cat) (f_:Int) (r:List Int) (h:Q2H c_ f_=some r):Contract Try.prog 98 (Y0L c_ [iV f_]) (lI r):=by
 refine Q8 (rvs:=[.tmp 4]) (rs:=[lI r]) Try.func98 rfl rfl rfl rfl (by simp [Try.f98]) fun F hN hP=>?_;unfold Q2H at h;refine Q0 (runQ hN fun K hK=>?_);simp;repeat refine sdQ ?_
 refine hK _ ?_;clear hK K;refine tn (Q4 (st':=⟨Y02 f_ [],Yq c_ [],1⟩) (wkQ8 [(0,0)]) (Q0 (runQ hN fun K hK=>?_)));simp;repeat refine sdQ ?_
 refine hK _ ?_;clear hK K;refine tn (Q4 (st':=⟨Y02 f_ [(5,.own 1 0 0)],Yq c_ [(1,.mix 1 [])],2⟩) (wkQ8 [(0,0),(1,1)]) (Q0 (Q0 (runQ hN fun K hK=>?_))));simp;repeat refine sdQ ?_
 refine hK _ (tn (Q4 (st':=⟨Y02 f_ [(5,.own 1 0 0),(6,iV 0)],Yq c_ [(1,.mix 1 [])],2⟩) (wkQ8 [(0,0),(1,1)]) ?_));clear hK K;replace ⟨e1,h,h1⟩:=bind_some h;refine Qd (fun b1:List Int=>⟨Y0m b1 [],[(0,rI b1)],1⟩) (fun b1=>b1=e1) ?_ ?_
 ·refine Q5 (Qs h (fun s18:List Int × Int=>⟨Y02 f_ [(5,.own 1 0 s18.1.length),(6,iV s18.2)],Yq c_ [(1,rI s18.1)],2⟩) (Q3a ⟨Y02 f_ [(5,.own 1 0 0),(6,iV 0)],Yq c_ [(1,rI [])],2⟩ (Wk.nils [] (by simp) (by simp) (by simp [nlA]) (by simp [entN,nlL,nlA,Cat.cells,UA,U1,IA,I1,LA,L1,BA,B1,EA,E1,E2,eB,eI,eL]) (by simp)) (wkQ8 [(0,0),(1,1)])) ?_);clear h;intro k18 s18 c18 h hk18;refine Q0 (Q0 (runQ hN fun K hK=>?_));simp;repeat refine sdQ ?_
  refine hK _ ?_;clear hK K;refine tn (Q6 rfl (fun g=>?_) fun g=>?_)
  ·have g19:s18.2<(c_.fr.length:Int):=gQ;clear g;replace h:=if_l g19 h;refine Q7 (tn (Q0 ?_));replace ⟨e20,h,h20⟩:=bind_some h;refine Qd (fun b20:List Int=>⟨Y02 f_ [(5,.own 1 0 b20.length),(6,iV s18.2)],Yq c_ [(1,rI b20)],2⟩) (fun b20=>b20=e20) ?_ ?_
   ·refine Q5 (Q0 ?_);replace ⟨e21,h,h21⟩:=bind_some h;refine Qd (fun b21:Bool=>⟨Y02 f_ [(5,.own 1 0 s18.1.length),(6,iV s18.2),(58,.val (.bool b21))],Yq c_ [(1,rI s18.1)],2⟩) (fun b21=>b21=e21) ?_ ?_
    ·refine runQ hN fun K hK=>?_;replace ⟨a22,h⟩:=Q2 h;replace ⟨a23,h⟩:=Q2 h;simp [at_I a22,at_I a23];(repeat with_reducible refine sdQ ?_);refine Qi (fun g=>?_) (fun g=>?_)
     ·have g24:(ix c_.fr s18.2)=(ix c_.to f_):=gQ;clear g;replace h:=if_l g24 h;replace ⟨a25,h⟩:=Q2 h;replace ⟨a26,h⟩:=Q2 h;simp [at_I a22,at_I a23,at_I a25,at_I a26];(repeat with_reducible refine sdQ ?_);refine Qi (fun g=>?_) (fun g=>?_)
      ·have g27:(ix c_.to s18.2)=(ix c_.fr f_):=gQ;clear g;replace h:=if_l g27 h;replace ⟨a28,h⟩:=Q2 h;replace ⟨a29,h⟩:=Q2 h;replace ⟨a30,h⟩:=Q2 h;replace ⟨a31,h⟩:=Q2 h;simp [at_I a22,at_I a23,at_I a25,at_I a26,at_L a28,at_I a29,at_I a30,at_I a31];(repeat refine sdQ ?_);refine hK _ ?_;exact jn (b:=(ix (rx c_.cs s18.2) f_) == (ix c_.id (ix c_.to f_))) (Option.some.inj h) (wkQ8 [(0,0),(1,1)])
      have g27:¬ ((ix c_.to s18.2)=(ix c_.fr f_)):=gQ;clear g;replace h:=if_r g27 h;simp [at_I a22,at_I a23,at_I a25,at_I a26];(repeat refine sdQ ?_);refine hK _ ?_;exact jn (b:=false) (Option.some.inj h) (wkQ8 [(0,0),(1,1)])
     have g24:¬ ((ix c_.fr s18.2)=(ix c_.to f_)):=gQ;clear g;replace h:=if_r g24 h;simp [at_I a22,at_I a23];(repeat refine sdQ ?_);refine hK _ ?_;exact jn (b:=false) (Option.some.inj h) (wkQ8 [(0,0),(1,1)])
    intro b21 hb21;have h:=h21;(try rw [← hb21] at h);clear h21;(try dsimp only at h);refine Q6 rfl (fun g=>?_) fun g=>?_
    ·have g32:b21=true:=gQ;clear g;replace h:=if_l g32 h;refine runQ hN fun K hK=>?_;replace ⟨a33,h⟩:=Q2 h;(try simp only [List.length_append,List.length_cons,List.length_nil] at a33);simp [a33];(repeat refine sdQ ?_);refine hK _ (bn ?_);clear hK K;exact jn (b:=s18.1++[s18.2]) (Option.some.inj h) (wkQ8 [(0,0),(3,1)])
    have g32:¬ (b21=true):=gQ;clear g;replace h:=if_r g32 h;refine Q7 (bn ?_);exact jn (b:=s18.1) (Option.some.inj h) (wkQ8 [(0,0),(1,1)])
   intro b20 hb20;have h:=h20;(try rw [← hb20] at h);clear h20;(try dsimp only at h);refine runQ hN fun K hK=>?_;replace ⟨a34,h⟩:=Q2 h;simp [Qo a34];(repeat refine sdQ ?_);refine hK _ ?_;clear hK K;cases h;exact rn (s':=(b20,s18.2+1)) hk18 (wkQ8 [(0,0),(1,1)])
  have g19:¬ (s18.2<(c_.fr.length:Int)):=gQ;clear g;replace h:=if_r g19 h;refine Qj (tx (lx (bh ?_)));cases h;exact jn (b:=s18.1) hk18 (wkQ8 [(1,0)])
 intro b1 hb1;have h:=h1;try rw [← hb1] at h
 clear h1;try dsimp only at h
 refine Q0 (runQ hN fun K hK=>?_);simp;repeat refine sdQ ?_
 refine hK _ (tn (Q4 (st':=⟨[(4,.own 0 0 b1.length)],[(0,rI b1)],1⟩) (wkQ8 [(0,0)]) (Qe ?_)));clear hK K;have hr:=Option.some.inj h;rw [← hr];refine ⟨_,(.tmp .nil),?_⟩;refine ⟨(.one rfl rfl .nil),[lI b1],[0],by simp [Cat.cells,UA,U1,IA,I1,LA,L1,BA,B1,EA,E1,E2,eB,eI,eL],by simp,(UpL.refl _)⟩
attribute [local simp] unk unA unE unT unC flat eL eI Qm QK Cat.cells
noncomputable def Q2T (c_:Cat) (f_:Int):Option Int :=
 (Q21 c_ f_).bind fun v1 =>
 (Q2H c_ f_).bind fun v2 =>
 (Qx (σ:=Int) (ε:=Unit ⊕ Int) (fun s10 =>
  if s10<(v1.length:Int) then
   ass (0≤s10∧s10<(v1.length:Int)) <|
   (Q4A v2 (ix v1 s10)).bind fun v13 =>
   if v13=true then
    ass (0≤s10∧s10<(v1.length:Int)) <|
    some (Ctl.ret (Sum.inr (ix v1 s10)))
   else
    ass (B64 (s10+1)) <|
    some (Ctl.next (s10+1))
  else
   some (Ctl.ret (Sum.inl ()))) fuel 0).bind fun e3 =>
 match e3 with
 | .inl b3 =>
  some (-1)
 | .inr p3 =>
  some p3
theorem Q5M (c_:Cat) (f_:Int) (r:Int) (h:Q2T c_ f_=some r):Contract Try.prog 94 (Y0L c_ [iV f_]) (iV r):=by
 refine Q8 (rvs:=[.tmp 4]) (rs:=[iV r]) Try.func94 rfl rfl rfl rfl (by simp [Try.f94]) fun F hN hP=>?_;unfold Q2T at h;refine Q0 (runQ hN fun K hK=>?_);simp;repeat refine sdQ ?_
 refine hK _ ?_;clear hK K;refine tn (Q4 (st':=⟨Y02 f_ [],Yq c_ [],1⟩) (wkQ8 [(0,0)]) (Q0 (runQ hN fun K hK=>?_)));simp;repeat with_reducible refine sdQ ?_
 replace ⟨v1,hv1,h⟩:=bind_some h;refine Q1 (Q4p _ _ v1 hv1) (.cons (.aggL (.cons .val (.cons .lst (.cons .lst (.cons .lst (.cons .lst .nil)))))) (.cons .val .nil)) ?_;simp;repeat with_reducible refine sdQ ?_
 replace ⟨v2,hv2,h⟩:=bind_some h;refine Q1 (Q5B _ _ v2 hv2) (.cons (.aggL (.cons .val (.cons .lst (.cons .lst (.cons .lst (.cons .lst .nil)))))) (.cons .val .nil)) ?_;simp;repeat refine sdQ ?_
 refine hK _ ?_;clear hK K;refine tn (Q4 (st':=⟨Y0m v1 [(6,.own 1 0 v2.length)],[(0,rI v1),(1,rI v2)],2⟩) (wkQ8 [(1,0),(2,1)]) (Q0 (Q0 (runQ hN fun K hK=>?_))));simp;repeat refine sdQ ?_
 refine hK _ (tn (Q4 (st':=⟨Y0m v1 [(6,.own 1 0 v2.length),(7,iV 0)],[(0,rI v1),(1,rI v2)],2⟩) (wkQ8 [(0,0),(1,1)]) ?_));clear hK K;replace ⟨e3,h,h3⟩:=bind_some h;refine Qd (fun b3:Unit=>⟨[],[],0⟩) (fun b3=>Sum.inl b3=e3) ?_ ?_
 ·refine Q5 (Qs h (fun s10:Int=>⟨Y0m v1 [(6,.own 1 0 v2.length),(7,iV s10)],[(0,rI v1),(1,rI v2)],2⟩) (wkQ8 [(0,0),(1,1)]) ?_);clear h;intro k10 s10 c10 h hk10;refine Q0 (Q0 (runQ hN fun K hK=>?_));simp;repeat refine sdQ ?_
  refine hK _ ?_;clear hK K;refine tn (Q6 rfl (fun g=>?_) fun g=>?_)
  ·have g11:s10<(v1.length:Int):=gQ;clear g;replace h:=if_l g11 h;refine Q7 (tn (Q0 (Q5 (Q0 (runQ hN fun K hK=>?_)))));replace ⟨a12,h⟩:=Q2 h;simp [at_I a12];(repeat with_reducible refine sdQ ?_);replace ⟨v13,hv13,h⟩:=bind_some h;refine Q1 (Q9u _ _ v13 hv13) (.cons .w (.cons .val .nil)) ?_;simp [at_I a12];(repeat refine sdQ ?_);refine hK _ ?_;clear hK K;refine tn (Q4 (st':=⟨Y0m v1 [(6,.own 1 0 v2.length),(7,iV s10),(25,.val (.bool v13))],[(0,rI v1),(1,rI v2)],2⟩) (wkQ8 [(0,0),(1,1)]) (Q6 rfl (fun g=>?_) fun g=>?_))
   ·have g14:v13=true:=gQ;clear g;replace h:=if_l g14 h;refine Q0 (runQ hN fun K hK=>?_);replace ⟨a15,h⟩:=Q2 h;simp [at_I a15];(repeat refine sdQ ?_);refine hK _ (tn (Q4 (st':=⟨[(4,iV (ix v1 s10))],[],0⟩) (wkQ8 []) (Qe (br (tr (lr (br (tr ?_))))))));clear hK K;cases h;have q:_=e3:=hk10;have h:=h3;rw [← q] at h;clear q;(try dsimp only at h);have hr:=Option.some.inj h;rw [← hr];refine ⟨_,(.tmp .nil),?_⟩;refine ⟨(.one rfl rfl .nil),[iV (ix v1 s10)],[],by simp [Cat.cells,UA,U1,IA,I1,LA,L1,BA,B1,EA,E1,E2,eB,eI,eL],by simp,(UpL.refl _)⟩
   have g14:¬ (v13=true):=gQ;clear g;replace h:=if_r g14 h;refine Q7 (bn (tn (runQ hN fun K hK=>?_)));replace ⟨a16,h⟩:=Q2 h;simp [Qo a16];(repeat refine sdQ ?_);refine hK _ ?_;clear hK K;cases h;exact rn (s':=s10+1) hk10 (wkQ8 [(0,0),(1,1)])
  have g11:¬ (s10<(v1.length:Int)):=gQ;clear g;replace h:=if_r g11 h;refine Qj (tx (lx (bh ?_)));cases h;exact jn (b:=()) hk10 (wkQ8 [])
 intro b3 hb3;have h:=h3;try rw [← hb3] at h
 clear h3;try dsimp only at h
 refine Q0 (runQ hN fun K hK=>?_);simp;repeat refine sdQ ?_
 refine hK _ (tn (Q4 (st':=⟨[(4,iV (-1))],[],0⟩) (wkQ8 []) (Qe ?_)));clear hK K;have hr:=Option.some.inj h;rw [← hr];refine ⟨_,(.tmp .nil),?_⟩;refine ⟨(.one rfl rfl .nil),[iV (-1)],[],by simp [Cat.cells,UA,U1,IA,I1,LA,L1,BA,B1,EA,E1,E2,eB,eI,eL],by simp,(UpL.refl _)⟩
section
attribute [local simp] Qf QG Qu Q15 QD
noncomputable def flt (n:Nat) (p:Nat→Prop):List Int:=((List.range n).filter fun i=>bo (p i)).map Int.ofNat
noncomputable def fstN (n:Nat) (p:Nat→Prop):Int:=(((List.range n).find? fun i=>bo (p i)).map Int.ofNat).getD (-1)
theorem flt_pos {n:Nat} {p:Nat→Prop} (h:p n):flt (n+1) p=flt n p++[(n:Int)]:=by simp [flt,List.range_succ,QE h]
theorem flt_neg {n:Nat} {p:Nat→Prop} (h:¬ p n):flt (n+1) p=flt n p:=by simp [flt,List.range_succ,Qw h]
theorem flt_len (n:Nat) (p:Nat→Prop):(flt n p).length≤n:=by
 unfold flt;rw [List.length_map];exact Nat.le_trans (List.length_filter_le _ _) (by simp)
theorem mem_flt {n:Nat} {p:Nat→Prop} {x:Int}:x∈flt n p↔∃ i:Nat,i<n∧p i∧x=(i:Int):=by
 simp only [flt,List.mem_map,List.mem_filter,List.mem_range,bo_tt];constructor
 ·rintro ⟨i,⟨h1,h2⟩,rfl⟩;exact ⟨i,h1,h2,rfl⟩
 rintro ⟨i,h1,h2,rfl⟩;exact ⟨i,⟨h1,h2⟩,rfl⟩
theorem Q8y (n:Nat) (p:Nat→Prop):(fstN n p = -1∧∀ i,i<n→¬ p i)∨∃ k:Nat,k<n∧p k∧fstN n p=(k:Int):=by
 unfold fstN;cases h:(List.range n).find? fun i=>bo (p i) with
 | none =>
  refine .inl ⟨rfl,fun i hi=>?_⟩;have:=List.find?_eq_none.1 h i (by simpa using hi);simpa [bo_tt] using this
 | some k =>
  have h1:=List.find?_some h;have h2:=List.mem_of_find?_eq_some h;exact .inr ⟨k,by simpa using h2,by simpa [bo_tt] using h1,rfl⟩
theorem e_hom {c:Cat} (h:c.Is) (x y:Int):QA c x y=some (flt c.fr.length fun a=>ix c.fr a=x∧ix c.to a=y):=by
 have k1:=h.1.lt;have k2:=h.1.m40;unfold QA;refine Q1p c.fr.length (fun i=>flt i fun a=>ix c.fr a=x∧ix c.to a=y) (e:=flt c.fr.length fun a=>ix c.fr a=x∧ix c.to a=y) rfl (by omega) (fun i hi=>?_) (by simp) rfl;have hl:=flt_len i fun a=>ix c.fr a=x∧ix c.to a=y
 by_cases h1:ix c.fr i=x
 ·by_cases h2:ix c.to i=y
  ·rw [flt_pos ⟨h1,h2⟩];simp (disch:=omega) [Q3,B64,h1,h2];try omega
  rw [flt_neg fun q=>h2 q.2];simp (disch:=omega) [Q3,B64,h1,h2];try omega
 rw [flt_neg fun q=>h1 q.1];simp (disch:=omega) [Q3,B64,h1];try omega
theorem e_l02Hom (c:Cat) (x y:Int):Q2a c x y=QA c x y:=rfl
end
attribute [local simp] unk unA unE unT unC flat eL eI Qm QK Q1r Cat.cells Fn.cells
noncomputable def QQ (f_:Fn) (g_:Fn) (components_:List Int) (a_:Int):Option Bool :=
 ass (0≤a_∧a_<(f_.ar.length:Int)) <|
 ass (0≤ix f_.ar a_∧ix f_.ar a_<(f_.t.cs.length:Int)) <|
 ass (0≤a_∧a_<(f_.s.to.length:Int)) <|
 ass (0≤ix f_.s.to a_∧ix f_.s.to a_<(components_.length:Int)) <|
 ass (0≤ix components_ (ix f_.s.to a_)∧ix components_ (ix f_.s.to a_)<((rx f_.t.cs (ix f_.ar a_)).length:Int)) <|
 ass (0≤a_∧a_<(f_.s.fr.length:Int)) <|
 ass (0≤ix f_.s.fr a_∧ix f_.s.fr a_<(components_.length:Int)) <|
 ass (0≤ix components_ (ix f_.s.fr a_)∧ix components_ (ix f_.s.fr a_)<(f_.t.cs.length:Int)) <|
 ass (0≤a_∧a_<(g_.ar.length:Int)) <|
 ass (0≤ix g_.ar a_∧ix g_.ar a_<((rx f_.t.cs (ix components_ (ix f_.s.fr a_))).length:Int)) <|
 some ((ix (rx f_.t.cs (ix f_.ar a_)) (ix components_ (ix f_.s.to a_))) == (ix (rx f_.t.cs (ix components_ (ix f_.s.fr a_))) (ix g_.ar a_)))
@[simp] abbrev Y06 (a:Fn) (b:List (Nat × Ent)):List (Nat × Ent):=(2,.mix 5 [(Cat.cells true a.s)])::b
theorem Q4q (f_:Fn) (g_:Fn) (components_:List Int) (a_:Int) (r:Bool) (h:QQ f_ g_ components_ a_=some r):Contract Try.prog 95 (Y0H f_ g_ [lI components_,iV a_]) (.val (.bool r)):=by
 refine Q8 (rvs:=[.tmp 8]) (rs:=[.val (.bool r)]) Try.func95 rfl rfl rfl rfl (by simp [Try.f95]) fun F hN hP=>?_;unfold QQ at h;refine Q0 (runQ hN fun K hK=>?_);simp;repeat refine sdQ ?_
 refine hK _ ?_;clear hK K;refine tn (Q4 (st':=⟨(2,lI components_)::(3,iV a_)::Y0n [(5,.adr 1 0 0)],Y8 f_ g_ [],2⟩) (wkQ8 [(0,0),(1,1)]) (Q0 (w_runS mo (by rw [hN];decide) fun K hK=>?_)));simp;repeat refine sdQ ?_
 refine hK _ ?_;clear hK K;refine tn (Q4 (st':=⟨(2,lI components_)::(3,iV a_)::Y0n [(5,.adr 1 0 0),(9,.adr 2 0 0),(10,.adr 3 0 0)],Y8 f_ g_ (Y06 f_ [(3,.mix 5 [(Cat.cells true f_.t)])]),4⟩) (wkI8 4) (Q0 (runQ hN fun K hK=>?_)));replace ⟨a1,h⟩:=Q2 h;replace ⟨a2,h⟩:=Q2 h;replace ⟨a3,h⟩:=Q2 h;replace ⟨a4,h⟩:=Q2 h;replace ⟨a5,h⟩:=Q2 h;replace ⟨a6,h⟩:=Q2 h;replace ⟨a7,h⟩:=Q2 h;replace ⟨a8,h⟩:=Q2 h;replace ⟨a9,h⟩:=Q2 h;replace ⟨a10,h⟩:=Q2 h;simp [at_I a1,at_L a2,at_I a3,at_I a4,at_I a5,at_I a6,at_I a7,at_L a8,at_I a9,at_I a10];repeat refine sdQ ?_
 refine hK _ (tn (Q4 (st':=⟨[(8,.val (.bool ((ix (rx f_.t.cs (ix f_.ar a_)) (ix components_ (ix f_.s.to a_))) == (ix (rx f_.t.cs (ix components_ (ix f_.s.fr a_))) (ix g_.ar a_)))))],[],0⟩) (wkQ8 []) (Qe ?_)));clear hK K;have hr:=Option.some.inj h;rw [← hr];refine ⟨_,(.tmp .nil),?_⟩;refine ⟨(.one rfl rfl .nil),[.val (.bool ((ix (rx f_.t.cs (ix f_.ar a_)) (ix components_ (ix f_.s.to a_))) == (ix (rx f_.t.cs (ix components_ (ix f_.s.fr a_))) (ix g_.ar a_))))],[],by simp [Cat.cells,Fn.cells,UA,U1,IA,I1,LA,L1,BA,B1,EA,E1,E2,eB,eI,eL],by simp,(UpL.refl _)⟩
section
attribute [local simp] Qf QG Qu Q15 QD
theorem Cat.Is.two {c:Cat} (h:c.Is) {f g:Int} (f0:0≤f∧f<c.fr.length) (g0:0≤g∧g<c.fr.length) (e:ix c.to f=ix c.fr g):(0≤ix (rx c.cs f) g∧ix (rx c.cs f) g<c.fr.length)∧ix c.fr (ix (rx c.cs f) g)=ix c.fr f∧ix c.to (ix (rx c.cs f) g)=ix c.to g:=by
 have:=(h.1.cell' f0.1 f0.2 g0.1 g0.2).2 e;exact ⟨⟨this.1,this.2.1⟩,this.2.2⟩
theorem e_Then {c:Cat} (h:c.Is) {f g:Int} (f0:0≤f∧f<c.fr.length) (g0:0≤g∧g<c.fr.length):Q1h c f g=some (ix (rx c.cs f) g)∧Qp c f g=some (ix (rx c.cs f) g):=by
 have h1:=h.1.lc;have h2:=h.1.row' f0.1 f0.2;exact ⟨e_l02Then (by omega) (by omega),Q7J (by omega) (by omega)⟩
end
section
attribute [local simp] Qf QG Qu Q15 QD
abbrev Ar (c:Cat) (f x y:Int):Prop:=(0≤f∧f<(c.fr.length:Int))∧ix c.fr f=x∧ix c.to f=y
theorem Ar.two {c:Cat} (hc:c.Is) {f g x y z:Int} (h1:Ar c f x y) (h2:Ar c g y z):Ar c (ix (rx c.cs f) g) x z:=by
 have:=hc.two h1.1 h2.1 (by rw [h1.2.2,h2.2.1]);exact ⟨this.1,by rw [this.2.1,h1.2.1],by rw [this.2.2,h2.2.2]⟩
theorem Ar.thn {c:Cat} (hc:c.Is) {f g x y z:Int} (h1:Ar c f x y) (h2:Ar c g y z):Q1h c f g=some (ix (rx c.cs f) g)∧Qp c f g=some (ix (rx c.cs f) g):=e_Then hc h1.1 h2.1
end
section
attribute [local simp] Qf QG Qu Q15 QD
theorem Q6l {ε β:Type} {body:List Int × Int→Option (Ctl (List Int × Int) ε)} {K:ε→Option β} {r:Option β} (xs:List Int) (q:Int→Prop) {e:ε} (hn:xs.length<4611686018427387904)
  (h:∀ (i:Nat) (acc:List Int),i<xs.length→acc.length≤i→(q (ix xs i)→body (acc,(i:Int))=some (.next (acc++[ix xs i],(i:Int)+1)))∧(¬ q (ix xs i)→body (acc,(i:Int))=some (.next (acc,(i:Int)+1))))
  (he:body (xs.filter (fun f=>bo (q f)),(xs.length:Int))=some (.ret e)) (hk:K e=r):(Qx body fuel ([],0)).bind K=r:=by
 refine Q1p xs.length (fun i=>(xs.take i).filter fun f=>bo (q f)) (e:=e) (by simp) hn (fun i hi=>?_) (by simpa using he) hk;have hl:((xs.take i).filter fun f=>bo (q f)).length≤i:=Nat.le_trans (List.length_filter_le _ _) (by simp;omega);have hs:xs.take (i+1)=xs.take i++[ix xs i]:=by rw [List.take_succ_eq_append_getElem hi,Q16 _ _ hi]
 have hf:((xs.take (i+1)).filter fun f=>bo (q f))=((xs.take i).filter fun f=>bo (q f))++(if bo (q (ix xs i))=true then [ix xs i] else []):=by rw [hs,List.filter_append];simp [List.filter_cons]
 obtain ⟨h1,h2⟩:=h i _ hi hl
 by_cases hq:q (ix xs i)
 ·rw [h1 hq,hf,QE hq];simp
 rw [h2 hq,hf,Qw hq];simp
theorem Q8F {xs:List Int} {P:Int→Prop} (h:∀ x∈xs,P x) {i:Nat} (hi:i<xs.length):P (ix xs i):=by
 rw [← Q16 _ _ hi];exact h _ (List.getElem_mem hi)
noncomputable def homL (c:Cat) (x y:Int):List Int:=flt c.fr.length fun a=>ix c.fr a=x∧ix c.to a=y
theorem Q3N {c:Cat} {x y:Int}:∀ f∈homL c x y,Ar c f x y:=by
 intro f hf;obtain ⟨i,h1,h2,rfl⟩:=mem_flt.1 hf;exact ⟨by omega,h2⟩
theorem Q51 (c:Cat) (x y:Int):(homL c x y).length≤c.fr.length:=flt_len _ _
theorem Q8r {c:Cat} (h:c.Is) (x y:Int):Q2a c x y=some (homL c x y)∧QA c x y=some (homL c x y):=⟨by rw [e_l02Hom,e_hom h];rfl,e_hom h x y⟩
end
attribute [local simp] unk unA unE unT unC flat eL eI Qm
noncomputable def Q5t (lists_:List (List Int)):Option ByteArray :=
 (Qx (σ:=List Int × Int) (ε:=List Int) (fun s16 =>
  if s16.2<(lists_.length:Int) then
   ass (0≤s16.2∧s16.2<(lists_.length:Int)) <|
   (Qx (σ:=List Int × Int) (ε:=List Int) (fun s24 =>
    if s24.2<((rx lists_ s16.2).length:Int) then
     ass (0≤s24.2∧s24.2<((rx lists_ s16.2).length:Int)) <|
     ass ((s24.1++[IntKind.u8.wrap (ix (rx lists_ s16.2) s24.2)]).length≤1073741824) <|
     ass (B64 (s24.2+1)) <|
     some (Ctl.next (s24.1++[IntKind.u8.wrap (ix (rx lists_ s16.2) s24.2)],s24.2+1))
    else
     some (Ctl.ret s24.1)) fuel (s16.1,0)).bind fun b19 =>
   ass ((b19++[255]).length≤1073741824) <|
   ass (B64 (s16.2+1)) <|
   some (Ctl.next (b19++[255],s16.2+1))
  else
   some (Ctl.ret s16.1)) fuel ([],0)).bind fun b1 =>
 some (Q1X b1)
@[simp] abbrev YS (a:List (List Int)) (b:List (Nat × AV)):List (Nat × AV):=(9,.lst true 1 (Ls a))::(10,iV (a.length:Int))::b
@[simp] abbrev Y0y (a:List Int × Int) (b:List (List Int)) (c:List (Nat × AV)):List (Nat × AV):=(11,iV a.2)::(15,lI (rx b a.2))::(16,iV ((rx b a.2).length:Int))::c
theorem w_i_key (lists_:List (List Int)) (r:ByteArray) (h:Q5t lists_=some r):Contract Try.prog 49 [.lst true 1 (Ls lists_)] (.val (.string r)):=by
 refine Q8 (rvs:=[.tmp 2]) (rs:=[.val (.string r)]) Try.func49 rfl rfl rfl rfl (by simp [Try.f49]) fun F hN hP=>?_;unfold Q5t at h;refine Q0 (runQ hN fun K hK=>?_);simp;repeat refine sdQ ?_
 refine hK _ ?_;clear hK K;refine tn (Q4 (st':=⟨[(0,.lst true 1 (Ls lists_))],[],0⟩) (wkQ8 []) (Q0 (runQ hN fun K hK=>?_)));simp;repeat refine sdQ ?_
 refine hK _ ?_;clear hK K;refine tn (Q4 (st':=⟨[(0,.lst true 1 (Ls lists_)),(3,.own 0 0 0)],[(0,.mix 1 [])],1⟩) (wkQ8 [(0,0)]) (Q0 (Q0 (runQ hN fun K hK=>?_))));simp;repeat refine sdQ ?_
 refine hK _ (tn (Q4 (st':=⟨(3,.own 0 0 0)::YS lists_ [(11,iV 0)],[(0,.mix 1 [])],1⟩) (wkQ8 [(0,0)]) ?_));clear hK K;replace ⟨e1,h,h1⟩:=bind_some h;refine Qd (fun b1:List Int=>⟨[(3,.own 0 0 b1.length)],[(0,.row 1 (Us b1))],1⟩) (fun b1=>b1=e1) ?_ ?_
 ·refine Q5 (Qs h (fun s16:List Int × Int=>⟨(3,.own 0 0 s16.1.length)::YS lists_ [(11,iV s16.2)],[(0,.row 1 (Us s16.1))],1⟩) (Q3a ⟨(3,.own 0 0 0)::YS lists_ [(11,iV 0)],[(0,.row 1 (Us []))],1⟩ (Wk.nils [] (by simp) (by simp) (by simp [nlA]) (by simp [entN,nlL,nlA,UA,U1,IA,I1,LA,L1,BA,B1,EA,E1,E2,eB,eI,eL]) (by simp)) (wkQ8 [(0,0)])) ?_);clear h;intro k16 s16 c16 h hk16;refine Q0 (runQ hN fun K hK=>?_);simp;repeat refine sdQ ?_
  refine hK _ ?_;clear hK K;refine tn (Q0 (Q6 rfl (fun g=>?_) fun g=>?_))
  ·have g17:s16.2<(lists_.length:Int):=gQ;clear g;replace h:=if_l g17 h;refine Q7 (tn (Q0 (Q5 (Q0 (runQ hN fun K hK=>?_)))));replace ⟨a18,h⟩:=Q2 h;simp [at_L a18];(repeat refine sdQ ?_);refine hK _ ?_;clear hK K;refine tn (Q4 (st':=⟨(3,.own 0 0 s16.1.length)::(5,lI (rx lists_ s16.2))::YS lists_ [(11,iV s16.2)],[(0,.row 1 (Us s16.1))],1⟩) (wkQ8 [(0,0)]) (Q0 (Q0 (runQ hN fun K hK=>?_))));simp;(repeat refine sdQ ?_);refine hK _ (tn (Q4 (st':=⟨(3,.own 0 0 s16.1.length)::YS lists_ (Y0y s16 lists_ [(17,iV 0)]),[(0,.row 1 (Us s16.1))],1⟩) (wkQ8 [(0,0)]) ?_));clear hK K;replace ⟨e19,h,h19⟩:=bind_some h;refine Qd (fun b19:List Int=>⟨(3,.own 0 0 b19.length)::YS lists_ [(11,iV s16.2)],[(0,.row 1 (Us b19))],1⟩) (fun b19=>b19=e19) ?_ ?_
   ·refine Q5 (Qs h (fun s24:List Int × Int=>⟨(3,.own 0 0 s24.1.length)::YS lists_ (Y0y s16 lists_ [(17,iV s24.2)]),[(0,.row 1 (Us s24.1))],1⟩) (wkQ8 [(0,0)]) ?_);clear h;intro k24 s24 c24 h hk24;refine Q0 (runQ hN fun K hK=>?_);simp;(repeat refine sdQ ?_);refine hK _ ?_;clear hK K;refine tn (Q0 (Q6 rfl (fun g=>?_) fun g=>?_))
    ·have g25:s24.2<((rx lists_ s16.2).length:Int):=gQ;clear g;replace h:=if_l g25 h;refine Q7 (tn (Q0 (Q5 (Q0 (runQ hN fun K hK=>?_)))));replace ⟨a26,h⟩:=Q2 h;simp [at_I a26];(repeat refine sdQ ?_);refine hK _ ?_;clear hK K;refine tn (Q4 (st':=⟨(3,.own 0 0 s24.1.length)::(7,iV (ix (rx lists_ s16.2) s24.2))::YS lists_ (Y0y s16 lists_ [(17,iV s24.2)]),[(0,.row 1 (Us s24.1))],1⟩) (wkQ8 [(0,0)]) (runQ hN fun K hK=>?_));replace ⟨a27,h⟩:=Q2 h;(try simp only [List.length_append,List.length_cons,List.length_nil] at a27);simp [a27];(repeat refine sdQ ?_);refine hK _ ?_;clear hK K;refine bn (tn (Q4 (st':=⟨(3,.own 0 0 ((s24.1++[IntKind.u8.wrap (ix (rx lists_ s16.2) s24.2)]).length))::YS lists_ (Y0y s16 lists_ [(17,iV s24.2)]),[(0,.row 1 (Us (s24.1++[IntKind.u8.wrap (ix (rx lists_ s16.2) s24.2)])))],1⟩) (wkQ8 [(2,0)]) (runQ hN fun K hK=>?_)));replace ⟨a28,h⟩:=Q2 h;simp [Qo a28];(repeat refine sdQ ?_);refine hK _ ?_;clear hK K;cases h;exact rn (s':=(s24.1++[IntKind.u8.wrap (ix (rx lists_ s16.2) s24.2)],s24.2+1)) hk24 (wkQ8 [(0,0)])
    have g25:¬ (s24.2<((rx lists_ s16.2).length:Int)):=gQ;clear g;replace h:=if_r g25 h;refine Qj (tx (lx (bh ?_)));cases h;exact jn (b:=s24.1) hk24 (wkQ8 [(0,0)])
   intro b19 hb19;have h:=h19;(try rw [← hb19] at h);clear h19;(try dsimp only at h);refine runQ hN fun K hK=>?_;replace ⟨a29,h⟩:=Q2 h;(try simp only [List.length_append,List.length_cons,List.length_nil] at a29);simp [a29];(repeat refine sdQ ?_);refine hK _ ?_;clear hK K;refine bn (tn (Q4 (st':=⟨(3,.own 0 0 ((b19++[255]).length))::YS lists_ [(11,iV s16.2)],[(0,.row 1 (Us (b19++[255])))],1⟩) (wkQ8 [(2,0)]) (runQ hN fun K hK=>?_)));replace ⟨a30,h⟩:=Q2 h;simp [Qo a30];(repeat refine sdQ ?_);refine hK _ ?_;clear hK K;cases h;exact rn (s':=(b19++[255],s16.2+1)) hk16 (wkQ8 [(0,0)])
  have g17:¬ (s16.2<(lists_.length:Int)):=gQ;clear g;replace h:=if_r g17 h;refine Qj (tx (lx (bh ?_)));cases h;exact jn (b:=s16.1) hk16 (wkQ8 [(0,0)])
 intro b1 hb1;have h:=h1;try rw [← hb1] at h
 clear h1;try dsimp only at h
 refine Q0 (Qg [32] mo (by rw [hN];decide) fun K hK=>?_);simp;repeat refine sdQ ?_
 refine hK _ (tn (Q4 (st':=⟨[(2,.val (.string (Q1X b1)))],[],0⟩) (wkQ8 []) (Qe ?_)));clear hK K;have hr:=Option.some.inj h;rw [← hr];refine ⟨_,(.tmp .nil),?_⟩;refine ⟨(.one rfl rfl .nil),[.val (.string (Q1X b1))],[],by simp [UA,U1,IA,I1,LA,L1,BA,B1,EA,E1,E2,eB,eI,eL],by simp,(UpL.refl _)⟩
section
attribute [local simp] Qf QG Qu Q15 QD
theorem Q9t {α β:Type} [DecidableEq α] (k k':α) (v:β) (m:List (α × β)):Q1J k (tset k' v m)=if k'=k then some v else Q1J k m:=by
 induction m with
 | nil=>simp [tset,Q1J]
 | cons p r ih =>
  obtain ⟨a,x⟩:=p;unfold tset
  by_cases h:a=k'
  ·subst h;rw [if_pos rfl]
   by_cases h2:a=k<;>simp [Q1J,h2]
  rw [if_neg h];simp only [Q1J,ih]
  by_cases h2:a=k
  ·subst h2;rw [if_pos rfl,if_pos rfl,if_neg (fun e=>h e.symm)]
  rw [if_neg h2,if_neg h2]
theorem Q7G (ns:List Int):(Q1X ns).data.toList=ns.map fun n=>UInt8.ofNat n.toNat:=by
 have:∀ (ns:List Int) (s:ByteArray),(ns.foldl (fun r n=>r.push (UInt8.ofNat n.toNat)) s).data.toList=s.data.toList++ns.map fun n=>UInt8.ofNat n.toNat:=by
  intro ns
  induction ns with
  | nil=>intro s;simp
  | cons n ns ih=>intro s;simp only [List.foldl_cons,ih,List.map_cons];simp [ByteArray.push]
 simpa [Q1X] using this ns ByteArray.empty
theorem Q7d {α β:Type} {f:α→β}:∀ {a b:List α},(∀ x∈a,∀ y∈b,f x=f y→x=y)→a.map f=b.map f→a=b:=by
 intro a
 induction a with
 | nil=>intro b _ h;cases b with|nil=>rfl|cons=>simp at h
 | cons x a ih =>
  intro b hi h;cases b with
  | nil=>simp at h
  | cons y b =>
   simp only [List.map_cons,List.cons.injEq] at h;rw [hi x (by simp) y (by simp) h.1,ih (fun u hu v hv=>hi u (by simp [hu]) v (by simp [hv])) h.2]
theorem Q8T {a b:List Int} (ha:∀ x∈a,0≤x∧x<256) (hb:∀ x∈b,0≤x∧x<256) (h:Q1X a=Q1X b):a=b:=by
 have h1:=congrArg (fun s=>s.data.toList) h;simp only [Q7G] at h1;refine Q7d (fun x hx y hy e=>?_) h1;have e2:=congrArg UInt8.toNat e;have p1:=ha x hx;have p2:=hb y hy;simp only [UInt8.toNat_ofNat'] at e2;omega
theorem wrap8 {n:Int} (h0:0≤n) (h1:n<256):IntKind.u8.wrap n=n:=by
 simp [IntKind.wrap,IntKind.signed,IntKind.bits];omega
theorem wrap8_b (n:Int):0≤IntKind.u8.wrap n∧IntKind.u8.wrap n<256:=by
 simp [IntKind.wrap,IntKind.signed,IntKind.bits];omega
theorem fstN_at {n:Nat} {p:Nat→Prop} {m:Nat} (hm:m<n) (hp:p m) (hlt:∀ k,k<m→¬ p k):fstN n p=(m:Int):=by
 unfold fstN;rw [show ((List.range n).find? fun i=>bo (p i))=some m from List.find?_eq_some_iff_getElem.2 ⟨by rw [bo_tt];exact hp,m,by simpa using hm,by simp,fun j hj=>by simp [Qw (hlt j hj)]⟩];rfl
theorem fstN_no {n:Nat} {p:Nat→Prop} (h:∀ i,i<n→¬ p i):fstN n p = -1:=by
 rcases Q8y n p with ⟨h1,_⟩|⟨k,h1,h2,_⟩
 ·exact h1
 exact absurd h2 (h k h1)
end
end Go.Vc.T
