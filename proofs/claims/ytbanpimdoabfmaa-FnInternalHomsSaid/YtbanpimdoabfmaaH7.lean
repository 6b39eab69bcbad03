/- A part of the proof. -/
import Derived.Test.YtbanpimdoabfmaaH6
set_option maxRecDepth 100000
set_option maxHeartbeats 4000000
set_option linter.unusedSimpArgs false
set_option linter.unusedVariables false
set_option linter.unusedSectionVars false
set_option linter.unnecessarySimpa false

open Option.some renaming injEq→qA
open List renaming getD_eq_getElem?_getD→qB
open Prod.mk renaming injEq→qC
open Array renaming getElem?_eq_getElem→zP
open Bool renaming and_eq_true→qG
open List renaming getElem?_eq_getElem→qI
open Option renaming getD_some→zQ
namespace Go.Vc
open Go
section
attribute [local simp] Qi QP Qv
def TrL(P:Program)(mt:MT)(all:Array Oper)(os:List Oper)(S:Nat→St)(E:Nat→Option Eff):Prop:=∀k o,os[k]? =some o→match E k with
 |some e=>Q2f all o (S k)=some true∧AOp P mt o.op (S k).ev (S k).hp (S k).n e∧S (k+1)=(S k).app o.dst e
 |none=>Q2f all o (S k)=some false∧S (k+1)=(S k).app o.dst {v:=.tup []}
theorem Q82{P:Program}{mt:MT}{all:Array Oper}{G:St→Prop}{Pr:(Nat→St)→Prop}{os2:List Oper}(hG:∀sa,G sa→∃S E,S 0=sa∧Pr S∧TrL P mt all os2 S E):
  ∀(os1:List Oper) (st:St),Q38 P mt all os1 st G→∃S E,S 0=st∧Pr (λk=>S (os1.length+k))∧TrL P mt all (os1++os2) S E:=by
 intro os1
 induction os1 with
 |nil=>
  intro st h;obtain⟨S,E,h1,h2,h3⟩:=hG st h;exact⟨S,E,h1,by simpa using h2,h3⟩
 |cons o os ih=>
  intro st h;have hp:∀(S:Nat→St),Pr (λk=>S (os.length+k))→Pr (λk=>(λk=>match k with|0=>st|k+1=>S k:Nat→St) ((o::os).length+k)):=by
   intro S h2;have:(λk=>(λk=>match k with|0=>st|k+1=>S k:Nat→St) ((o::os).length+k))=λk=>S (os.length+k):=by
    funext k
    show(match(o::os).length+k with|0=>st|k+1=>S k)=_;rw[show(o::os).length+k=(os.length+k)+1 by simp;omega]
   rw[this];exact h2
  rcases h with⟨hw,e,hop,h⟩|⟨hw,h⟩
  ·obtain⟨S,E,h1,h2,h3⟩:=ih _ h;refine⟨λk=>match k with|0=>st|k+1=>S k,λk=>match k with|0=>some e|k+1=>E k,rfl,hp S h2,λk o' ho=>?_⟩;cases k with
   |zero=>simp at ho;subst ho;exact⟨hw,hop,h1⟩
   |succ k=>exact h3 k o' (by simpa using ho)
  obtain⟨S,E,h1,h2,h3⟩:=ih _ h;refine⟨λk=>match k with|0=>st|k+1=>S k,λk=>match k with|0=>none|k+1=>E k,rfl,hp S h2,λk o' ho=>?_⟩;cases k with
  |zero=>simp at ho;subst ho;exact⟨hw,h1⟩
  |succ k=>exact h3 k o' (by simpa using ho)
def nmOk(rs:List Nat):AV→Bool
 | .own id _ _=>rs.contains id
 | .adr id _ _=>rs.contains id
 | .rptr _=>true
 | .lst _ _ _=>true
 |_=>false
def Q6C:Op→Option Nat
 | .load _ (.tmp t)=>some t
 | .indexAddr _ (.tmp t) _=>some t
 |_=>none
def stays(ops:Array Oper)(i J t:Nat):Bool:=(List.range J).all λk=>decide (k<i)||(ops[k]?).bind (·.dst)!=some t
def farS(fl sl:List Nat)(J:Nat)(ops:Array Oper):Bool:=fl.all λi=>match(ops[i]?).bind (λo=>Q6C o.op)with
 |some t=>sl.contains t&&stays ops i J t
 |none=>true
def oneW(mt:MT)(ops:Array Oper)(J:Nat):Bool:=(List.range (J - 1)).all λk=>!isW mt ops k
def farAt(ops:Array Oper)(fl:List Nat)(J i j:Nat):Bool:=decide (j+1=J)&&(decide (i<j)&&(fl.contains i&&((ops[i]?).bind (λo=>Q6C o.op)).isSome))
def Q6y:Option Ent→Bool
 |some (.ali _ _ _ _)=>false
 |some _=>true
 |none=>false
@[simp] def seqOk:Nat→Nat→List Nat→Bool
 |a,b,[]=>a==b
 |a,b,x::r=>x==a&&seqOk (a+1) b r
theorem seqOk_mem{b:Nat}:∀{nl:List Nat} {a id:Nat},seqOk a b nl=true→a≤id→id<b→id∈nl:=by
 intro nl
 induction nl with
 |nil=>intro a id h h1 h2;simp at h;omega
 |cons x r ih=>
  intro a id h h1 h2;simp only[seqOk,qG,beq_iff_eq]at h;obtain⟨rfl,h⟩:=h
  by_cases hq:id=x
  ·subst hq;simp
  exact List.mem_cons_of_mem _ (ih h (by omega) h2)
attribute [simp] nmOk Q6y
@[simp] def FarC(mx:Bool)(rs sl nl:List Nat)(st sa sb:St):Prop:=
 (∀t∈sl,nmOk rs (sb.get t)=true)∧(∀id∈rs,Q6y (look id sa.h)=true∧look id sb.h=look id sa.h)∧(if mx=true then∀id∈rs,Qm (look id sa.h)=true else seqOk st.n sa.n nl=true)∧∀id∈nl,look id sb.h=look id sa.h
section
variable {P:Program}{mt:MT}{ops:Array Oper}{S:Nat→St}{E:Nat→Option Eff}
theorem Q8X{h h':HP}{id:Nat}{x:Ent}(hx:h id=some x)(hy:h' id=some x)(hn:Q6y (some x)=true):∀d,cont h d id=cont h' d id:=by
 intro d;cases d with
 |zero=>rfl
 |succ d=>
  simp only[cont,hx,hy];cases x with
  |ali=>cases hn
  |_=>rfl
theorem loadv_one{h h':HP}{rs:List Nat}{a:AV}(ha:nmOk rs a=true)(hs:∀id∈rs,∃x,h id=some x∧h' id=some x∧Q6y (some x)=true)(ty:Option Tyi)(n:Nat):Q1X ty a h n=Q1X ty a h' n:=by
 cases ty with
 |none=>cases a<;>rfl
 |some t=>
  cases a with
  |adr id i k=>
   obtain⟨x,h1,h2,h3⟩:=hs id (by simpa[nmOk]using ha);have hc:=Q8X h1 h2 h3 depth;cases x with
   |ali=>cases h3
   |_=>simp only[Q1X,h1,h2,hc]
  |_=>rfl
theorem Q8k{h h':HP}{rs:List Nat}{a i:AV}(ha:nmOk rs a=true)(hs:∀id∈rs,∃x,h id=some x∧h' id=some x∧Q6y (some x)=true)(ty:Option Tyi):QY ty a i h=QY ty a i h':=by
 cases a with
 |own id off m=>
  obtain⟨x,h1,h2,h3⟩:=hs id (by simpa[nmOk]using ha);have hc:=Q8X h1 h2 h3 depth;unfold QY;split<;>first|rfl|(rename_i he;cases he;rw[hc])|(rename_i he _;cases he;rw[hc])|simp_all
 |_=>unfold QY;split<;>first|rfl|simp_all
theorem get_keepF(T:Tr P mt ops S E){s a:Nat}:∀b,a≤b→b≤ops.size→(∀m,a≤m→m<b→(ops[m]?).bind (·.dst)≠some s)→(S b).get s=(S a).get s:=by
 intro b
 induction b with
 |zero=>
  intro h _ _;have:a=0:=by omega
  subst this;rfl
 |succ b ih=>
  intro h hb hk;rcases Nat.lt_or_ge a (b+1)with h'|h'
  ·obtain⟨_,hS,_⟩:=T.step (zP (show b<ops.size by omega));rw[hS,Q2P,if_neg]
   ·exact ih (by omega) (by omega) λm h1 h2=>hk m h1 (by omega)
   have:=hk b (by omega) (by omega);rw[zP (show b<ops.size by omega)]at this;exact this
  have:a=b+1:=by omega
  subst this;rfl
theorem mov_far(T:Tr P mt ops S E){rs:List Nat}{J:Nat}(hJ:0<J∧J≤ops.size)(hw:oneW mt ops J=true){mx:Bool}{fl sl nl:List Nat}(hsl:farS fl sl J ops=true)(hC:FarC mx rs sl nl (S 0) (S (J - 1)) (S J)){i j:Nat}(hf:farAt ops fl J i j=true):MovF P mt ops S E i j:=by
 intro oi hi;simp only[farAt,qG,decide_eq_true_eq]at hf;obtain⟨hjJ,hij,hfl,hrd⟩:=hf;rw[hi]at hrd;have hnw:∀k,k<J - 1→∀o,ops[k]? =some o→wrM mt o.op=false:=λk hk o ho=>by
  have:=List.all_eq_true.1 hw k (List.mem_range.2 hk);simpa[isW,ho]using this
 have hsame:∀k,k≤J - 1→HS S E ops.size k=HS S E ops.size 0:=by
  intro k
  induction k with
  |zero=>intro _;rfl
  |succ k ih=>
   intro hk;have hks:k<ops.size:=(by omega);have hg:=zP hks;have h1:=(T.step hg).2.2.1 (hnw k (by omega) _ hg);rw[Q3Y T hks,QH h1.1 h1.2];exact ih (by omega)
 refine⟨hnw i (by omega) oi hi,λev e _ _ hop he up nw hev=>?_⟩;have hJ1:j+1=J:=hjJ;rw[hJ1];have hii:HS S E ops.size i=HS S E ops.size (J - 1):=(hsame i (by omega)).trans (hsame (J - 1) (by omega)).symm;rw[hii]at up nw;have hs:∀id∈rs,∃x,HS S E ops.size (J - 1) id=some x∧HS S E ops.size J id=some x∧Q6y (some x)=true:=by
  intro id hid;obtain⟨h1,h2⟩:=hC.2.1 id hid;cases hl:look id (S (J - 1)).h with
  |none=>rw[hl]at h1;cases h1
  |some x=>
   rw[hl]at h1 h2;exact⟨x,by simp only[HS,hl],by simp only[HS,h2],h1⟩
 obtain⟨t,ht⟩:=Option.isSome_iff_exists.1 hrd;simp only[Option.bind_some]at ht;have hslot:nmOk rs (ev (.tmp t))=true:=by
  have h1:=List.all_eq_true.1 hsl i (by simpa using hfl);rw[hi]at h1;simp only[Option.bind_some,ht,qG]at h1;obtain⟨h2,h3⟩:=h1;have h4:=get_keepF T (s:=t) (a:=i) J (by omega) hJ.2 λm h5 h6=>by
   have:=List.all_eq_true.1 h3 m (List.mem_range.2 h6);simp only[Bool.or_eq_true,decide_eq_true_eq]at this;rcases this with h7|h7
   ·omega
   simpa using h7
  have h5:(.tmp t:Operand)∈oi.op.operands:=by
   unfold Q6C at ht;split at ht<;>first|(cases ht;simp_all[Op.operands];done)|cases ht
  rw[hev t h5,←h4];exact hC.1 t (by simpa using h2)
 have hpl:Q1b oi.op=true:=by
  unfold Q6C at ht;split at ht<;>first|(rename_i q;rw[q];rfl)|cases ht
 have hnone:mx=true→∀p∈e.new,False:=by
  intro hmx p hp;have hmix:=hC.2.2.1;rw[if_pos hmx]at hmix;obtain⟨c,h1,h2⟩:=up.plain hpl;unfold Q6C at ht;split at ht
  ·rename_i ty t' q;cases ht;rw[q]at h1;simp only[opF]at h1;generalize ev (.tmp t)=av at h1 hslot;generalize tyi P ty=tq at h1;cases tq with
   |none=>cases av<;>simp[Q1X]at h1
   |some T0=>
    cases av with
    |adr id i0 k0=>
     have hid:id∈rs:=(by simpa[nmOk]using hslot);obtain⟨x,g1,_,_⟩:=hs id hid;have g2:=hmix id hid;have g3:look id (S (J - 1)).h=some x:=by
      cases hl:look id (S (J - 1)).h with
      |none=>rw[hl]at g2;cases g2
      |some y=>simp only[HS,hl]at g1;exact g1
     rw[g3]at g2;cases x with
     |mix=>
      simp only[Q1X,g1,qA,qC]at h1;obtain⟨_,rfl⟩:=h1;cases hp
     |_=>cases g2
    |rptr cs=>
     simp only[Q1X,qA,qC]at h1;obtain⟨_,rfl⟩:=h1;cases hp
    |_=>simp[Q1X]at h1
  ·rename_i ty t' x q;cases ht;rw[q]at h1;simp only[opF]at h1;split at h1
   ·unfold QY at h1;split at h1
    ·split at h1
     ·split at h1
      ·simp only[qA,qC]at h1;obtain⟨_,rfl⟩:=h1;cases hp
      cases h1
     cases h1
    ·split at h1
     ·simp only[qA,qC]at h1;obtain⟨_,rfl⟩:=h1;cases hp
     cases h1
    cases h1
   cases h1
  cases ht
 constructor
 ·obtain⟨c,h1,h2⟩:=up.plain hpl;refine .blt (c:=c) ?_ h2;rw[←h1];unfold Q6C at ht;split at ht
  ·rename_i ty t' q;cases ht;rw[q];exact(loadv_one hslot hs _ _).symm
  ·rename_i ty t' x q;cases ht;rw[q];simp only[opF];cases elm P ty with
   |none=>rfl
   |some et=>exact(Q8k hslot hs _).symm
  cases ht
 intro p hp;have h1:=nw p hp;have hfe:e.fine (S i).n:=by rw[he];exact(T.step hi).1
 have h2:=hfe.new p hp;have hni:=T.n (show i<ops.size by omega);rw[←he]at hni;have h3:=T.nle (show i+1≤J - 1 by omega) (by omega);have h4:=T.nle (show 0≤i by omega) (by omega);have h5:look p.1 (S J).h=look p.1 (S (J - 1)).h:=by
  cases mx with
  |false=>exact hC.2.2.2 p.1 (seqOk_mem hC.2.2.1 (by omega) (by omega))
  |true=>exact(hnone rfl p hp).elim
 cases hl:look p.1 (S (J - 1)).h with
 |some x=>
  rw[hl]at h5;simp only[HS,hl]at h1;simp only[HS,h5];exact h1
 |none=>
  simp only[HS,hl]at h1;have hge:=Q3I T (ops.size - (J - 1)) (J - 1) (by omega);have:=Q8s (λq hq=>(hge q hq).1) h1;omega
end
theorem w_runXG{P:Program}{F:Fx}{AQ:Exit→St→Prop}{st:St}{id:Nat}{ops:Array Oper}(lk mx:Bool)(fz rs fl sl nl ro:List Nat)(J:Nat)(hm:P.follows .mixedOrders=true)(hok:(okN F.N ops&&(okFar ⟨true,ro,lk,[],false⟩ (farAt ops fl J) ops&&(Q2b ops&&(oneW ⟨true,ro,lk,[],false⟩ ops J&&(farS fl sl J ops&&decide (0<J∧J≤ops.size))))))=true)(h:∀K:St→Prop,(∀st',AQ .normal st'→K st')→runX P ⟨true,ro,lk,[],false⟩ fz ops (ops.toList.take (J - 1)) st λsa=>runX P ⟨true,ro,lk,[],false⟩ fz ops ((ops.toList.drop (J - 1)).take 1) sa λsb=>FarC mx rs sl nl st sa sb∧runX P ⟨true,ro,lk,[],false⟩ fz ops (ops.toList.drop J) sb K):Wp P F (.region id ops true) AQ st:=by
 intro a w hr;obtain⟨R',hX,hr⟩:=hr;simp only[qG,decide_eq_true_eq]at hok;obtain⟨k1,k2,k3,k4,k7,k5,k6⟩:=hok;have hl1:(ops.toList.take (J - 1)).length=J - 1:=by simp;omega
 have hl2:((ops.toList.drop (J - 1)).take 1).length=1:=by simp;omega
 have hl3:(ops.toList.drop J).length=ops.size - J:=by simp
 obtain⟨S,E,h0,hPr,htr⟩:=Q82 (P:=P) (mt:=⟨true,ro,lk,[],false⟩) (all:=ops) (G:=λsa=>runX P ⟨true,ro,lk,[],false⟩ fz ops ((ops.toList.drop (J - 1)).take 1) sa λsb=>FarC mx rs sl nl st sa sb∧runX P ⟨true,ro,lk,[],false⟩ fz ops (ops.toList.drop J) sb (AQ .normal))
  (Pr:=λS=>FarC mx rs sl nl st (S 0) (S 1)∧AQ .normal (S (1+(ops.size - J)))) (os2:=(ops.toList.drop (J - 1)).take 1++ops.toList.drop J) (λsa hsa=>by
   obtain⟨S,E,g0,g1,g2⟩:=Q82 (P:=P) (mt:=⟨true,ro,lk,[],false⟩) (all:=ops) (G:=λsb=>FarC mx rs sl nl st sa sb∧runX P ⟨true,ro,lk,[],false⟩ fz ops (ops.toList.drop J) sb (AQ .normal))
    (Pr:=λS=>FarC mx rs sl nl st sa (S 0)∧AQ .normal (S (ops.size - J))) (os2:=ops.toList.drop J) (λsb ⟨c1,c2⟩=>by
     obtain⟨S,E,e0,e1,e2⟩:=Q4t ops _ _ _ (Q3H _ _ _ c2);rw[hl3]at e1;exact⟨S,E,e0,⟨by rw[e0];exact c1,e1⟩,e2⟩) _ _ (Q3H _ _ _ hsa)
   rw[hl2]at g1;exact⟨S,E,g0,⟨by rw[g0];exact g1.1,g1.2⟩,g2⟩) _ _ (Q3H _ _ _ (h (AQ .normal) λ_ h=>h))
 rw[hl1]at hPr;have hall:ops.toList.take (J - 1)++((ops.toList.drop (J - 1)).take 1++ops.toList.drop J)=ops.toList:=by
  have e1:(ops.toList.drop (J - 1)).take 1++ops.toList.drop J=ops.toList.drop (J - 1):=by
   have:=List.take_append_drop 1 (ops.toList.drop (J - 1));rw[List.drop_drop,show J - 1+1=J by omega]at this;exact this
  rw[e1,List.take_append_drop]
 rw[hall]at htr;obtain⟨hF,hend⟩:=hPr;subst h0;have T:Tr P ⟨true,ro,lk,[],false⟩ ops S E:=⟨hr.ok,(λ_ _ _ h=>by have:=(Q77 _).symm.trans h;cases this),λk o ho=>htr k o (by simpa using ho)⟩;have hF':FarC mx rs sl nl (S 0) (S (J - 1)) (S J):=by
  have:=hF;simp only[Nat.add_zero,show J - 1+1=J by omega]at this;exact this
 have hend':AQ .normal (S ops.size):=by
  have hend:AQ .normal (S (J - 1+(1+(ops.size - J)))):=hend;rw[show J - 1+(1+(ops.size - J))=ops.size by omega]at hend;exact hend
 exact Q9L rfl rfl (farAt ops fl J) T k1 (λi j hf=>mov_far T ⟨k5,k6⟩ k4 k7 hF' hf) k2 k3 hm hr λR'' a' w' hX' h'=>⟨_,⟨R'',hX.trans hX' (Nat.le_refl _),h'⟩,hend'⟩
theorem w_runXF{P:Program}{F:Fx}{AQ:Exit→St→Prop}{st:St}{id:Nat}{ops:Array Oper}(lk mx:Bool)(fz rs fl sl nl ro:List Nat)(j:Nat)(hm:P.follows .mixedOrders=true)(hok:(okN F.N ops&&(okFar ⟨true,ro,lk,[],false⟩ (farAt ops fl (j+1)) ops&&(Q2b ops&&(oneW ⟨true,ro,lk,[],false⟩ ops (j+1)&&(farS fl sl (j+1) ops&&decide (0<j+1∧j+1≤ops.size))))))=true)(h:∀K:St→Prop,(∀st',AQ .normal st'→K st')→runX P ⟨true,ro,lk,[],false⟩ fz ops (ops.toList.take j) st λsa=>runX P ⟨true,ro,lk,[],false⟩ fz ops ((ops.toList.drop j).take 1) sa λsb=>FarC mx rs sl nl st sa sb∧runX P ⟨true,ro,lk,[],false⟩ fz ops (ops.toList.drop (j+1)) sb K):Wp P F (.region id ops true) AQ st:=
 w_runXG lk mx fz rs fl sl nl ro (j+1) hm hok h
end
section
attribute [local simp] Qi QP Qv
mutual
inductive FrA(h:HP)(T:List Nat):AV→AV→Prop
 |ro {a}:a.ro=true→FrA h T a a
 |row {id sz es n}:h id=some (.row sz es)→id∈T→n=es.length→FrA h T (.own id 0 n) (.lst true sz es)
 |part {id sz es off n}:h id=some (.row sz es)→id∈T→(off+n≤es.length∨n=0)→FrA h T (.own id off n) (.lst true sz ((es.drop off).take n))
 |lit {id sz es n}:h id=some (.mix sz es)→id∈T→n=es.length→roRows sz es→FrA h T (.own id 0 n) (.lst true sz es)
 |mp {id kd es}:h id=some (.mapE kd es)→id∈T→kd.plain=true→FrA h T (.mp id) (.cmap kd es)
 |adr {id sz cs cs'}:h id=some (.mix sz [cs])→id∈T→cs.length=sz→FrL h T cs cs'→FrA h T (.adr id 0 0) (.rptr cs')
inductive FrL(h:HP)(T:List Nat):List AV→List AV→Prop
 |nil:FrL h T [] []
 |cons {a a' cs cs'}:FrA h T a a'→FrL h T cs cs'→FrL h T (a::cs) (a'::cs')
end
def fzd(T:List Nat)(o:Nat→Option (List Nat)):Nat→Option (List Nat):=λb=>match o b with
 |some (x::M)=>if x∈T then none else some (x::M)
 |y=>y
theorem Q5Q{T:List Nat}{o:Nat→Option (List Nat)}{b x:Nat}{M:List Nat}(h:o b=some (x::M))(hx:x∉T):fzd T o b=some (x::M):=by
 simp only[fzd,h,if_neg hx]
theorem fzd_none{T:List Nat}{o:Nat→Option (List Nat)}{b x:Nat}{M:List Nat}(h:o b=some (x::M))(hx:x∈T):fzd T o b=none:=by
 simp[fzd,h,hx]
theorem fzd_some{T:List Nat}{o:Nat→Option (List Nat)}{b:Nat}{L:List Nat}(h:fzd T o b=some L):o b=some L:=by
 unfold fzd at h;split at h
 ·split at h
  ·cases h
  rename_i hb _;rw[hb];exact h
 exact h
def only(id:Nat)(o:Nat→Option (List Nat)):Nat→Option (List Nat):=λb=>match o b with
 |some (x::M)=>if x=id then some (x::M)else none
 |_=>none
theorem Q7T{id:Nat}{o:Nat→Option (List Nat)}{b:Nat}{L:List Nat}(h:only id o b=some L):∃M,o b=some (id::M):=by
 unfold only at h;split at h
 ·rename_i x M hb
  by_cases hx:x=id
  ·exact⟨M,by rw[hb,hx]⟩
  simp[hx]at h
 cases h
def RT(g:Gh)(T:List Nat):Nat→Prop:=λb=>g.R b∨∃id M,id∈T∧g.o b=some (id::M)
mutual
theorem FrA.rel{w:World}{g:Gh}{h:HP}{T:List Nat}(H:HRel w g h):∀{a a':AV} {v:Value},FrA h T a a'→XRel w g.R g.ρ v a→RRel w (RT g T) v a'
 |a,_,v,.ro hr,hv=>(hv.toR hr).mono λb hb=>⟨.inl hb,rfl⟩
 |_,_,v,.row (id:=id) (sz:=sz) (es:=es) (n:=n) hi hT hn,hv=>by
  rcases hv.own_eq with⟨sz',cap,e1,e2,_,e4⟩|⟨b,sz',cap,cc,x,e1,e2,e3,e4,e5,e6,e7⟩
  ·rw[e2];have:es=[]:=List.length_eq_zero_iff.1 (by omega);subst this;exact .nil (by simp)
  obtain⟨v0,t1,t2⟩:=H.row id sz es _ hi e1;have hx0:x=0:=e6 rfl;subst hx0;rw[e2];have t1':RRel w (RT g T) v0 (.lst true sz es):=(t1.mono (R':=g.R) (o':=only id g.o) [id] (λb M hb=>⟨by
   have h3:g.o b=some (id::M):=(by simpa using hb);simp[only,h3],rfl⟩)).pure λb hb=>by
    rcases hb with hb|⟨L,hb⟩
    ·exact .inl hb
    obtain⟨M,hM⟩:=Q7T hb;exact .inr ⟨id,M,hT,hM⟩
  cases t2 with
  |own=>
   cases t1' with
   |nil h1=>subst hn;exact .nil (by omega)
   |lst us q1 q2 q3 q4 q5 q6 q7 q8=>
    subst hn;exact .lst us q1 q2 (by omega) (by omega) q5 q6 q7 q8
 |_,_,v,.part (id:=id) (sz:=sz) (es:=es) (off:=off) (n:=n) hi hT hn,hv=>by
  rcases hv.own_eq with⟨sz',cap,e1,e2,e3,e4⟩|⟨b,sz',cap,cc,x,e1,e2,e3,e4,e5,e6,e7⟩
  ·rw[e2,e4,List.take_zero];exact .nil (by simp)
  obtain⟨v0,t1,t2⟩:=H.row id sz es _ hi e1;rw[e2];have t1':RRel w (RT g T) v0 (.lst true sz es):=(t1.mono (R':=g.R) (o':=only id g.o) [id] (λb M hb=>⟨by
   have h3:g.o b=some (id::M):=(by simpa using hb);simp[only,h3],rfl⟩)).pure λb hb=>by
    rcases hb with hb|⟨L,hb⟩
    ·exact .inl hb
    obtain⟨M,hM⟩:=Q7T hb;exact .inr ⟨id,M,hT,hM⟩
  by_cases hn0:n=0
  ·subst hn0;rw[List.take_zero];exact .nil (by omega)
  have hx:=e5 (by omega);subst hx;cases t2 with
  |own=>
   cases t1' with
   |nil h1=>simp at hn;omega
   |lst us q1 q2 q3 q4 q5 q6 q7 q8=>
    have hlen:((es.drop off).take n).length=n:=(by simp;omega);have hget:∀i,i<n→((es.drop off).take n).getD i []=es.getD (off+i) []:=λi hi=>by
     simp only[qB,List.getElem?_take,List.getElem?_drop];rw[if_pos hi]
    have:=RRel.lst (w:=w) (R:=RT g T) (u:=true) (sz:=sz) (es:=(es.drop off).take n) (b:=b) (x:=off*sz) (cap:=cc) (λi k=>us (off+i) k) q1 q2 (by omega) (by omega)
     (λi hi=>by rw[hget i (by omega)];exact q5 (off+i) (by omega))
     (λi k hi hk=>by
      have:=q6 (off+i) k (by omega) hk;rw[Nat.add_mul]at this;rw[←this];congr 1;omega)
     (λi k hi hk=>q7 (off+i) k (by omega) hk)
     (λi k hi hk=>by rw[hget i (by omega)];exact q8 (off+i) k (by omega) hk)
    rw[hlen]at this;exact this
 |_,_,v,.lit (id:=id) (sz:=sz) (es:=es) (n:=n) hi hT hn hr,hv=>by
  rcases hv.own_eq with⟨sz',cap,e1,e2,_,e4⟩|⟨b,sz',cap,cc,x,e1,e2,e3,e4,e5,e6,e7⟩
  ·rw[e2];have:es=[]:=List.length_eq_zero_iff.1 (by omega);subst this;exact .nil (by simp)
  obtain⟨b',cur,el,us,cp,p1,p2,p3,p4,p5,p6,p7,p8,p9,p10⟩:=(H.mix id sz es _ hi e1).ex (by simp);simp only[Bk.mk.injEq,qA]at p1;obtain⟨rfl,rfl,rfl⟩:=p1;have hx0:x=0:=e6 rfl;subst hx0;rw[e2];subst hn;refine .lst us (.inr ⟨id,[],hT,p2⟩) p3 e4 (by omega) p7 (λi k hi hk=>by rw[Nat.zero_add];exact p8 i k hi hk) p9 λi k hi hk=>?_;have hm:es.getD i []∈es:=by simp[qB,qI hi]
  have hk':k<(es.getD i []).length:=by rw[(hr _ hm).1];exact hk
  have hro:((es.getD i []).getD k .bot).ro=true:=(hr _ hm).2 _ (by
   generalize es.getD i []=q at hk';simp[qB,qI hk'])
  exact((p10 i k hi hk).toR hro).mono λb hb=>⟨.inl hb,rfl⟩
 |_,_,v,.mp (id:=id) (kd:=kd) (es:=es) hi hT hp,hv=>by
  cases hv with
  |r h=>cases h
  |mp e=>
   obtain⟨b',h1,h2,h3,h4⟩:=(H.map id kd es _ hi e).plain (MK.plain_ne hp);simp only[Bk.mk.injEq,qA]at h1;obtain⟨rfl,_,_⟩:=h1;exact .cmap (.inr ⟨id,[],hT,h2⟩) h3 h4
 |_,_,v,.adr (id:=id) (sz:=sz) (cs:=cs) (cs':=cs') hi hT hz hl,hv=>by
  cases hv with
  |r h=>cases h
  |@adr _ b sz' cap _ _ e=>
   obtain⟨b',cur,el,us,cp,p1,p2,p3,p4,p5,p6,p7,p8,p9,p10⟩:=(H.mix id sz [cs] _ hi e).ex (by simp);simp only[Bk.mk.injEq,qA]at p1;obtain⟨rfl,rfl,rfl⟩:=p1;have hL:=hl.rel H (vs:=us 0) λk hk=>by
    have:=p10 0 k (by simp) (by omega);simpa using this
   refine .rptr (us 0) (.inr ⟨id,[],hT,p2⟩) p3 (λk hk=>?_) (λk hk=>?_) λk hk=>hL.2 k hk
   ·have:=p8 0 k (by simp) (by rw[←hz,←hL.1];exact hk);simpa using this
   exact p9 0 k (by simp) (by rw[←hz,←hL.1];exact hk)
theorem FrL.rel{w:World}{g:Gh}{h:HP}{T:List Nat}(H:HRel w g h):∀{cs cs':List AV} {vs:Nat→Value},FrL h T cs cs'→(∀k,k<cs.length→XRel w g.R g.ρ (vs k) (cs.getD k .bot))→
  cs'.length=cs.length∧∀k,k<cs'.length→RRel w (RT g T) (vs k) (cs'.getD k .bot)
 |_,_,vs,.nil,_=>⟨rfl,λk hk=>by simp at hk⟩
 |_,_,vs,.cons (a:=a) (a':=a') (cs:=cs) (cs':=cs') h1 h2,hv=>by
  have hh:=h1.rel H (v:=vs 0) (hv 0 (by simp));have ht:=h2.rel H (vs:=λk=>vs (k+1)) λk hk=>by
   have:=hv (k+1) (by simpa using hk);simpa using this
  refine⟨by simp[ht.1],λk hk=>?_⟩;cases k with
  |zero=>exact hh
  |succ k=>simpa using ht.2 k (by simpa using hk)
end
theorem FrA.part'{h:HP}{T:List Nat}{id sz off n:Nat}{es es2:List (List AV)}(h1:h id=some (.row sz es))(h2:id∈T)(h3:off+n≤es.length∨n=0)(h4:es2=(es.drop off).take n):FrA h T (.own id off n) (.lst true sz es2):=h4▸.part h1 h2 h3
theorem frz_n{α:Type}{p:α→Prop}:∀x∈([]:List α),p x:=by simp
theorem Q9u{α:Type}{p:α→Prop}{q:α}{l:List α}(h:p q)(t:∀x∈l,p x):∀x∈q::l,p x:=by simpa using⟨h,t⟩
theorem Wk.frzD{F:Fx}{st st':St}(hW:∀b,¬F.C.wrb b)(T:List Nat)(hs:∀q∈st'.s,st.get q.1=q.2∨q.2= .bot∨FrA st.hp T (st.get q.1) q.2)(hn:st'.n=st.n)(hh:∀q∈st'.h,q.1∉T∧look q.1 st.h=some q.2∧(match q.2 with|.ali _ _ _ _=>False|_=>True)):Wk F st st':=by
 intro a w ⟨R,hX,hr0⟩;obtain⟨r1,r2,r3,o,ρ,W,H,hx,hρ,hpn⟩:=hr0;have hent:∀id e,st'.hp id=some e→id∉T∧st.hp id=some e∧(match e with|.ali _ _ _ _=>False|_=>True):=λid e h=>hh (id,e) (Qg h);have hRR:∀b,R b→RT ⟨R,o,ρ⟩ T b∧w.heap[b]? =w.heap[b]?:=λb hb=>⟨.inl hb,rfl⟩;refine⟨RT ⟨R,o,ρ⟩ T,⟨λb hb=>.inl (hX.1 b hb),λb hb=>?_⟩,r1,r2,λid x hx'=>?_,fzd T o,ρ,⟨λb hb=>?_,λb L hb=>W.o b L (fzd_some hb),W.os,W.tape,W.output,W.size,W.keep⟩,
  ⟨λid z xs bk h1 h2=>?_,λid z xs bk h1 h2=>?_,λid c i' k' z bk h1 h2=>?_,λid kd xs bk h1 h2=>?_⟩,λt=>?_,λid kk hk'=>?_,λid hid=>hpn.1 id hid,by rw[hn];exact hpn.2⟩
 ·rcases hb with hb|⟨id,M,hT,hb⟩
  ·exact hX.2 b hb
  rcases(W.o b _ hb).2 with h|h
  ·exact .inr h
  exact absurd h (hW b)
 ·rw[hn];exact r3 _ _ (hent id x hx').2.1
 ·rcases hb with hb|⟨id,M,hT,hb⟩
  ·have h3:o b=none:=(W.R b hb).2;exact⟨(W.R b hb).1,by simp only[fzd,h3]⟩
  exact⟨(W.o b _ hb).1,fzd_none hb hT⟩
 ·obtain⟨q1,q2,_⟩:=hent id _ h1;rcases(H.mix id z xs bk q2 h2).ex0 with h0|⟨b,cur,el,us,cp,p1,p2,p3,p4,p5,p6,p7,p8,p9,p10⟩
  ·exact⟨.inl h0⟩
  exact .mk' ⟨b,cur,el,us,cp,p1,Q5Q p2 q1,p3,p4,p5,p6,p7,p8,p9,λi k hi hk=>(p10 i k hi hk).mono hRR (λ_ _ h=>h)⟩
 ·obtain⟨q1,q2,_⟩:=hent id _ h1;obtain⟨v,t1,t2⟩:=H.row id z xs bk q2 h2;exact⟨v,t1.mono [id] λb M hb=>⟨by
   have h3:o b=some (id::M):=(by simpa using hb);simpa using Q5Q h3 q1,rfl⟩,t2⟩
 ·exact(hent id _ h1).2.2.elim
 ·obtain⟨q1,q2,_⟩:=hent id _ h1;exact(H.map id kd xs bk q2 h2).move hRR λb M p2=>⟨Q5Q p2 q1,rfl⟩
 ·cases hl:look t st'.s with
  |none=>simp only[St.get,hl,Option.getD_none];exact .bot
  |some v=>
   simp only[St.get,hl,zQ];rcases hs _ (Qg hl)with h|h|h
   ·simp only at h;rw[←h];exact(hx t).mono hRR (λ_ _ h=>h)
   ·simp only at h;rw[h];exact .bot
   exact .r (h.rel H (hx t))
 rw[hn];exact hρ id kk hk'
end
section
attribute [local simp] Qi QP Qv
theorem Q51{P:Program}{f:Nat}{fn:Func}{c:Code}{args:List AV}{rvs:List ResultVar}{rs:List AV}{res:AV}(hf:P.funcs[f]? =some fn)(hb:fn.body=some c)(hrt:fn.results=rvs.toArray)(hrs:res=Qt rs)(hname:(fn.name=="runtime.NumGoroutine")=false)(hN:args.length≤fn.ntmps)(h:∀F:Fx,F.N=fn.ntmps→F.pins=0→(∀b,¬F.C.wrb b)→Wp P F c (retFGQ P rvs rs) ⟨Q39 0 args,[],0⟩):FContract P true f args res:=by
 subst hrs;refine⟨⟨fn,hf,hname,by rw[hb];rfl⟩,λw R vals hR hsz hx=>?_⟩;refine calls_of_wp hf hb ?_
 let C:Ctx:=⟨w,λ_=>False,λ_=>none,0⟩
 have hrel:Rel C R fn.ntmps {tmps:=vals++Array.replicate (fn.ntmps - vals.size) undef,defers:=[]} w ⟨Q39 0 args,[],0⟩:=by
  refine⟨by simp;omega,rfl,(λid x h=>by cases h),λ_=>none,noρ,⟨λb hb=>⟨hR b hb,rfl⟩,(λb L hb=>by cases hb),rfl,⟨rfl,Nat.le_refl _⟩,rfl,Nat.le_refl _,λb _ _=>rfl⟩,⟨(λid sz es bk _ hb=>by cases hb),(λid sz es bk _ hb=>by cases hb),(λid c i k sz bk _ hb=>by cases hb),(λid kd es bk _ hb=>by cases hb)⟩,λt=>?_,(λid k hk=>by cases hk),?_⟩;rotate_left
  ·exact⟨λid hid=>absurd hid (Nat.not_lt_zero id),Nat.zero_le _⟩
  simp only[St.get,Q2w]
  by_cases ht:t<args.length
  ·rw[if_pos (by omega)];simp only[Nat.sub_zero,zQ];have:=hx t ht;have h2:(vals++Array.replicate (fn.ntmps - vals.size) undef).getD t undef=vals.getD t undef:=by
    simp[Array.getElem?_append,show t<vals.size by omega]
   rw[h2];exact this
  rw[if_neg (by omega)];exact .bot
 refine Q3T (λe a w' hq=>?_) (h ⟨C,R,fn.ntmps,0,rfl⟩ rfl rfl (λ_ q=>q) _ w (.of hrel));obtain⟨st,⟨R',hX,hr⟩,hq⟩:=hq;have fin:RetFG P rvs st rs→a.defers=[]∧∃v,(results fn a.tmps).run P w'= .ok v w'∧∃v' R1,Ending.returned v= .returned v'∧Blw w.heap.size w w'∧(∀b,R1 b→b<w'.heap.size∧((true=true∧R b)∨w.heap.size≤b))∧XRel w' R1 noρ v' (Qt rs):=by
  intro hA;obtain⟨az,hg,hl,hp⟩:=hA.ex;obtain⟨_,hdef,_,o,ρ,W,H,hxx,_⟩:=hr;obtain⟨vs,h1,h2,h3⟩:=Q5G H hxx hg
  let R1:Nat→Prop:=RAll ⟨R',o,ρ⟩
  have hown:∀b L,o b=some L→b<w'.heap.size∧w.heap.size≤b:=λb L hb=>by
   obtain⟨q1,q2⟩:=W.o b L hb;exact⟨q1,q2.resolve_right id⟩
  have hR1:∀b,R1 b→b<w'.heap.size∧((true=true∧R b)∨w.heap.size≤b):=λb hb=>by
   rcases(show RAll ⟨R',o,ρ⟩ b from hb)with hb|⟨L,hb⟩
   ·exact⟨(W.R b hb).1,(hX.2 b hb).imp (λh=>⟨rfl,h⟩) id⟩
   exact⟨(hown b L hb).1,.inr (hown b L hb).2⟩
  have hcell:∀k,k<vs.length→XRel w' R1 noρ (vs.getD k undef) (rs.getD k .bot):=λk hk=>(Q5Z H (hp k (by omega)) (h3 k (by omega))).1;refine⟨hdef,_,Q3d hrt h1,_,R1,rfl,⟨W.os,W.tape,W.output,W.size,λb hb=>W.keep b hb id⟩,hR1,?_⟩;have hl2:vs.length=rs.length:=by omega
  match vs,rs,hl2,hcell with
  |[],[],_,_=>exact .tup rfl λk hk=>by simp at hk
  |[t],[r],_,hcell=>exact hcell 0 (by simp)
  |t::u::ts,r::s::rs,hl,hcell=>
   simp only[Q2R,Qt];refine .tup (by simp at hl;simp;omega) λk hk=>?_;have hk':k<(t::u::ts).length:=(by simp at hl hk;simp;omega);have:=hcell k hk';have h1:((t::u::ts).toArray).getD k undef=(t::u::ts).getD k undef:=by
    have hk2:k<(t::u::ts).toArray.size:=(by simpa using hk');rw[Array.getD_eq_getD_getElem?,zP hk2,zQ];simp only[List.getElem_toArray];rw[qB,qI hk',zQ]
   rw[h1];exact this
 cases e with
 |normal=>exact fin hq
 |ret=>exact fin hq
 |_=>exact hq.elim
end
end Go.Vc
