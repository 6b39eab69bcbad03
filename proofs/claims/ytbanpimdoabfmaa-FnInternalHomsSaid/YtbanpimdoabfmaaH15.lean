/- A part of the proof. -/
import Derived.Test.YtbanpimdoabfmaaH14
import Derived.ChangeArms
import Derived.WideShapes
import Derived.Deep.Slices
set_option maxRecDepth 100000
set_option maxHeartbeats 4000000
set_option linter.unusedSimpArgs false
set_option linter.unusedVariables false
set_option linter.unusedSectionVars false
set_option linter.unnecessarySimpa false

namespace Go.Vc
open Go
section
attribute [local simp] Qi QP Qv
def Reads{H:Type}(enc:TypeId×Value→H)(P:Program)(w:World)(t:TypeId){α:Type}(cells:α→List AV):Prop:=
 ∀fuel cs x,DataW.trod enc P w 0 (λ_=>true) true fuel t cs=some x→
  ∃a:α,cs.length=(cells a).length∧∀k,k<cs.length→one (cs.getD k undef)∧RRel w (λb=>b<w.heap.size) (cs.getD k undef) ((cells a).getD k .bot)
section
variable {H:Type}{enc:TypeId × Value→H}{P:Program}{w:World}
theorem Q8v{t e:TypeId}{α:Type}{cells:α→List AV}{sz:Nat}(u:Bool)(ht:P.underlying t=some (.slice e))(hc:P.cellsOf e=sz)(hp:0<sz)(hl:∀a,(cells a).length=sz)(he:Reads enc P w e cells):
  Reads enc P w t (λxs:List α=>[.lst u sz (xs.map cells)]):=by
 intro fuel cs x h;subst hc;rcases DataW.trod_slice ht h with⟨rfl,_⟩|⟨a,len,cap,elems,rest,n,_,rfl,_,_,hlc,hcm,hlen,hel,_⟩
 ·refine⟨[],rfl,λk hk=>?_⟩;have:k=0:=by simpa using hk
  subst this;exact⟨rfl,.nil (Nat.zero_le _)⟩
 have each:∀i,i<len→∃y:List Value×α,w.cells? 0 (a.add (i*P.cellsOf e)) (P.cellsOf e)=some y.1∧y.1.length=(cells y.2).length∧
   ∀k,k<y.1.length→one (y.1.getD k undef)∧RRel w (λb=>b<w.heap.size) (y.1.getD k undef) ((cells y.2).getD k .bot):=by
  intro i hi;have h1:=hel i hi;rw[List.getElem?_eq_getElem (by omega)]at h1;obtain⟨cs',h2,h3⟩:=Option.bind_eq_some_iff.1 h1;obtain⟨y,h4,h5⟩:=he _ _ _ h3;exact⟨(cs',y),h2,h4,h5⟩
 by_cases h0:len=0
 ·refine⟨[],rfl,λk hk=>?_⟩;have hk0:k=0:=by simpa using hk
  subst hk0 h0;exact⟨rfl,.nil hcm⟩
 obtain⟨y0,_⟩:=each 0 (by omega)
 haveI:Inhabited (List Value×α):=⟨y0⟩
 obtain⟨y,hy⟩:=Go.Deep.choose_lt each;refine⟨(List.range len).map λi=>(y i).2,rfl,λk hk=>?_⟩;have hk0:k=0:=by simpa using hk
 subst hk0;refine⟨rfl,?_⟩;simp only[List.getD_cons_zero];have hcell:∀i k,i<len→k<P.cellsOf e→w.cell? ((a.add (i*P.cellsOf e)).add k)=some ((y i).1.getD k undef):=by
  intro i k hi hk;obtain⟨_,g1,g2⟩:=World.cells?_some (hy i hi).1;rw[g2 k hk,List.getD_eq_getElem?_getD,List.getElem?_eq_getElem (by omega)];rfl
 have h00:=hcell 0 0 (by omega) hp;have hsp:a.spot=none:=by simpa[Addr.add]using World.cell?_spot h00
 obtain⟨b,off,spot⟩:=a;simp only at hsp;subst hsp;have hadd:∀i k,((⟨b,off,none⟩:Addr).add (i*P.cellsOf e)).add k=⟨b,off+i*P.cellsOf e+k,none⟩:=by
  intro i k;simp only[Addr.add];split
  ·rename_i hk;subst hk;split
   ·rename_i hz;rw[hz];rfl
   rfl
  split
  ·rename_i hz;rw[hz];rfl
  rfl
 have hblk:∃cur el fr,w.heap[b]? =some (.cells cur el fr):=by
  rw[hadd]at h00;simp only[World.cell?]at h00;split at h00
  ·rename_i cur el fr hh;exact⟨cur,el,fr,hh⟩
  cases h00
 obtain⟨cur,el,fr,hh⟩:=hblk;have hcur:∀i k,i<len→k<P.cellsOf e→cur[off+i*P.cellsOf e+k]? =some ((y i).1.getD k undef):=by
  intro i k hi hk;have:=hcell i k hi hk;rw[hadd]at this;simpa[World.cell?,hh]using this
 have hbs:b<w.heap.size:=by
  rcases Nat.lt_or_ge b w.heap.size with h|h
  ·exact h
  rw[Array.getElem?_eq_none h]at hh;cases hh
 have hget:∀i,i<len→(((List.range len).map λi=>(y i).2).map cells).getD i []=cells (y i).2:=by
  intro i hi;simp[List.getD_eq_getElem?_getD,hi]
 have hlen2:(((List.range len).map λi=>(y i).2).map cells).length=len:=by simp
 have key:=RRel.lst (w:=w) (R:=λb=>b<w.heap.size) (u:=u) (sz:=P.cellsOf e) (es:=((List.range len).map λi=>(y i).2).map cells) (b:=b) (x:=off) (cap:=cap) (cur:=cur) (e:=el) (fr:=fr)
  (λi k=>(y i).1.getD k undef) hbs hh (by rw[hlen2];exact hlc) hcm (λi hi=>by rw[hlen2]at hi;rw[hget i hi];exact hl _) (λi k hi hk=>by rw[hlen2]at hi;exact hcur i k hi hk)
  (λi k hi hk=>by rw[hlen2]at hi;exact((hy i hi).2.2 k (by rw[(hy i hi).2.1,hl];exact hk)).1)
  (λi k hi hk=>by rw[hlen2]at hi;rw[hget i hi];exact((hy i hi).2.2 k (by rw[(hy i hi).2.1,hl];exact hk)).2)
 rw[hlen2]at key;exact key
end
end
end Go.Vc
