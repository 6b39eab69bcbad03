/- A part of the proof. -/
import Derived.Test.YtbanpimdoabfmaaH4
import Derived.Tactics
set_option maxRecDepth 100000
set_option maxHeartbeats 4000000
set_option linter.unusedSimpArgs false
set_option linter.unusedVariables false
set_option linter.unusedSectionVars false
set_option linter.unnecessarySimpa false

open List renaming getD_eq_getElem?_getD→qB
open List renaming length_append→qD
open Nat renaming le_refl→qF
open List renaming length_cons→qH
open List renaming length_nil→zX
open Option renaming getD_some→zQ
open List renaming eq_nil_of_length_eq_zero→qQ
open Array renaming replicate→zY
open List renaming getD_cons_zero→qV
open List renaming flatMap_cons→zZ
namespace Go.Vc
open Go
inductive Up:AV→AV→Prop
 |refl {a}:Up a a
 |nil {u sz}:Up (.val (.slice none 0 0)) (.lst u sz [])
 | lst {sz es fs}:es.length=fs.length→(∀ i,i<es.length→(fs.getD i []).length=(es.getD i []).length) →
   (∀i k,i<es.length→k<(es.getD i []).length→Up ((es.getD i []).getD k .bot) ((fs.getD i []).getD k .bot))→Up (.lst true sz es) (.lst true sz fs)
inductive UpL:List AV→List AV→Prop
 |nil:UpL [] []
 |cons {a b az bs}:Up a b→UpL az bs→UpL (a::az) (b::bs)
theorem UpL.refl:∀az,UpL az az
 |[]=>.nil
 |_::az=>.cons .refl (UpL.refl az)
theorem UpL.get{az bs:List AV}(h:UpL az bs):az.length=bs.length∧∀k,k<az.length→Up (az.getD k .bot) (bs.getD k .bot):=by
 induction h with
 |nil=>exact⟨rfl,λk hk=>by simp at hk⟩
 |cons h _ ih=>
  refine⟨by simp[ih.1],λk hk=>?_⟩;cases k with
  |zero=>simpa using h
  |succ k=>simpa using ih.2 k (by simpa using hk)
theorem TRel.up{w:World}{R:Nat→Prop}{o:Nat→Option (List Nat)}{a b:AV}(hu:Up a b):∀{L:List Nat} {v:Value},TRel w R o L v a→TRel w R o L v b:=by
 induction hu with
 |refl=>intro L v h;exact h
 |nil=>
  intro L v h;cases h with
  |val=>exact .nil
 |@lst sz es fs h1 h2 _ ih=>
  intro L v h;cases h with
  |nil=>
   have:fs=[]:=qQ (by simpa using h1.symm);subst this;exact .nil
  |own us a1 a2 a3 a4 a5 a6 a7 a8 a9=>
   rw[h1];exact .own us a1 a2 a3 (by omega) a5 (λi hi=>by rw[h2 i (by omega)];exact a6 i (by omega)) (λi k hi hk=>a7 i k (by omega) hk) (λi k hi hk=>a8 i k (by omega) hk)
    λi k hi hk=>ih i k (by omega) (by rw[a6 i (by omega)];exact hk) (a9 i k (by omega) hk)
def resT(rs:Array ResultVar):Option (List Nat):=
 match rs.toList with
 |[]=>some []
 |[.tmp a]=>some [a]
 |[.tmp a,.tmp b]=>some [a,b]
 |[.tmp a,.tmp b,.tmp c]=>some [a,b,c]
 |[.tmp a,.tmp b,.tmp c,.tmp d]=>some [a,b,c,d]
 |_=>none
def Q2R(vs:List Value):Value:=
 match vs with
 |[v]=>v
 |vs=>.tuple vs.toArray
theorem Q63{P:Program}{w:World}{fn:Func}{ts:List Nat}(h:resT fn.results=some ts)(tmps:Array Value):(results fn tmps).run P w= .ok (Q2R (ts.map λt=>tmps.getD t undef)) w:=by
 have key:∀l:List ResultVar,fn.results=l.toArray→fn.results.toList=l:=λl h=>by rw[h]
 obtain⟨l,hl⟩:∃l:List ResultVar,fn.results=l.toArray:=⟨fn.results.toList,by simp⟩;have hk:=key l hl;unfold resT at h;split at h
 ·rename_i h0;cases h;rw[hk]at h0;subst h0;simp[results,hl,Q2R]
 ·rename_i h0;cases h;rw[hk]at h0;subst h0;simp[results,hl,Q2R]
 ·rename_i h0;cases h;rw[hk]at h0;subst h0;simp[results,hl,Q2R]
 ·rename_i h0;cases h;rw[hk]at h0;subst h0;simp[results,hl,Q2R]
 ·rename_i h0;cases h;rw[hk]at h0;subst h0;simp[results,hl,Q2R]
 cases h
def Qt(az:List AV):AV:=
 match az with
 |[a]=>a
 |az=>.tup az
inductive ShL:List AV→List AV→Prop
 |nil:ShL [] []
 |agg {cs ds az bs}:cs.length=ds.length→ShL az bs→ShL (.agg cs::az) (.agg ds::bs)
 |one {a b az bs}:Q8U a=true→Q8U b=true→ShL az bs→ShL (a::az) (b::bs)
structure RetV(az:List AV)(st:St)(rs:List AV):Prop where
 sh:ShL az rs
 pk:∃q ds,layCs st.hp (az.flatMap AV.cells)=some (q,ds)∧ds.Nodup∧UpL q (rs.flatMap AV.cells)
abbrev RetA(ts:List Nat)(st:St)(rs:List AV):Prop:=RetV (ts.map st.get) st rs
def retQ(ts:List Nat)(rs:List AV):Exit→St→Prop
 | .normal,st=>RetA ts st rs
 | .ret,st=>RetA ts st rs
 |_,_=>False
def Q39:Nat→List AV→List (Nat×AV)
 |_,[]=>[]
 |k,a::r=>(k,a)::Q39 (k+1) r
theorem Q2w:∀(az:List AV) (k t:Nat),look t (Q39 k az)=if k≤t∧t<k+az.length then some (az.getD (t - k) .bot)else none:=by
 intro az
 induction az with
 |nil=>intro k t;simp only[Q39,look];rw[if_neg (by simp)]
 |cons a az ih=>
  intro k t;simp only[Q39,look]
  by_cases h:k=t
  ·subst h;simp
  rw[if_neg h,ih]
  by_cases h2:k+1≤t∧t<k+1+az.length
  ·rw[if_pos h2,if_pos (by simp;omega)];have:t - k=(t - (k+1))+1:=(by omega);rw[this,List.getD_cons_succ]
  rw[if_neg h2,if_neg (by simp;omega)]
section
variable {w:World}{g:Gh}{h:HP}
theorem Q7o{v:Value}(h:one v):v.cells.toList=[v]:=by revert h;unfold one Value.oneCell';cases v<;>simp[Value.cells]
theorem Q3l{a:AV}(h:Q8U a=true):a.cells=[a]:=by cases a<;>first|rfl|cases h
theorem XRel.cellOne{R:Nat→Prop}{ρ:Nat→Option Bk}{v:Value}{a:AV}(ha:Q8U a=true)(hx:XRel w R ρ v a):one v:=by
 cases hx with
 |r h=>exact h.one
 |agg=>cases ha
 |tup=>cases ha
 |bot=>cases ha
 |_=>rfl
theorem Q4G{α:Type}{xs ys:List α}{k:Nat}{d:α}(h:k<xs.length):(xs++ys).getD k d=xs.getD k d:=by
 simp only[qB];rw[List.getElem?_append_left h]
theorem Q4q{α:Type}{xs ys:List α}{k:Nat}{d:α}(h:xs.length≤k):(xs++ys).getD k d=ys.getD (k - xs.length) d:=by
 simp only[qB];rw[List.getElem?_append_right h]
theorem ret_cells{R:Nat→Prop}{ρ:Nat→Option Bk}:∀(az rs:List AV) (vs:List Value),ShL az rs→vs.length=az.length→(∀k,k<az.length→XRel w R ρ (vs.getD k undef) (az.getD k .bot))→
  (∀k,k<az.length→Sh1 (vs.getD k undef) (rs.getD k .bot))∧
   (vs.flatMap λv=>v.cells.toList).length=(az.flatMap AV.cells).length∧(rs.flatMap AV.cells).length=(az.flatMap AV.cells).length∧rs.length=az.length∧
   ∀k,k<(az.flatMap AV.cells).length→XRel w R ρ ((vs.flatMap λv=>v.cells.toList).getD k undef) ((az.flatMap AV.cells).getD k .bot):=by
 intro az rs vs hs
 induction hs generalizing vs with
 |nil=>intro hl _;have:vs=[]:=qQ hl;subst this;simp
 |@agg cs ds az bs hcd _ ih=>
  intro hl hx;cases vs with
  |nil=>simp at hl
  |cons v vs=>
   have h0:=hx 0 (by simp);simp only[qV]at h0;obtain⟨us,rfl,e1,e2,e3⟩:=h0.agg_eq;obtain⟨i1,i2,i3,i4,i5⟩:=ih vs (by simpa using hl) λk hk=>by have:=hx (k+1) (by simpa using hk);simpa using this
   have hus:(Value.agg us).cells.toList=us.toList:=rfl;refine⟨λk hk=>?_,?_,?_,by simp[i4],λk hk=>?_⟩
   ·cases k with
    |zero=>exact⟨us,rfl,by show us.size=ds.length;omega⟩
    |succ k=>simpa using i1 k (by simpa using hk)
   ·simp only[zZ,qD,i2,hus,AV.cells,Array.length_toList,e1]
   ·simp only[zZ,qD,i3,AV.cells,hcd]
   simp only[zZ,hus,AV.cells];simp only[zZ,qD,AV.cells]at hk
   by_cases hkc:k<cs.length
   ·rw[Q4G (by simp;omega),Q4G hkc];have:=e3 k hkc;simpa[qB,Array.getD_eq_getD_getElem?]using this
   rw[Q4q (by simp;omega),Q4q (by omega)];have:=i5 (k - cs.length) (by omega);simpa[e1]using this
 |@one a b az bs ha hb _ ih=>
  intro hl hx;cases vs with
  |nil=>simp at hl
  |cons v vs=>
   have h0:=hx 0 (by simp);simp only[qV]at h0;have hone:=h0.cellOne ha;obtain⟨i1,i2,i3,i4,i5⟩:=ih vs (by simpa using hl) λk hk=>by have:=hx (k+1) (by simpa using hk);simpa using this
   refine⟨λk hk=>?_,?_,?_,by simp[i4],λk hk=>?_⟩
   ·cases k with
    |zero=>
     simp only[qV];cases b with
     |agg=>cases hb
     |tup=>cases hb
     |bot=>cases hb
     |_=>exact hone
    |succ k=>simpa using i1 k (by simpa using hk)
   ·simp only[zZ,qD,i2,Q7o hone,Q3l ha,qH,zX]
   ·simp only[zZ,qD,i3,Q3l ha,Q3l hb,qH,zX]
   simp only[zZ,Q7o hone,Q3l ha];simp only[zZ,qD,Q3l ha,qH,zX]at hk;cases k with
   |zero=>simpa using h0
   |succ k=>simpa using i5 k (by omega)
theorem one_or(vs:List Value)(rs:List AV)(hvl:vs.length=rs.length)(c1:∀k,k<rs.length→Sh1 (vs.getD k undef) (rs.getD k .bot)):
  flat (Qt rs)=rs.flatMap AV.cells∧Q2O (Q2R vs)=(vs.flatMap λv=>v.cells.toList)∧Sh (Q2R vs) (Qt rs):=by
 have many:Q2R vs= .tuple vs.toArray→Qt rs= .tup rs→flat (Qt rs)=rs.flatMap AV.cells∧Q2O (Q2R vs)=(vs.flatMap λv=>v.cells.toList)∧Sh (Q2R vs) (Qt rs):=by
  intro e1 e2;rw[e1,e2];refine⟨rfl,by simp[Q2O],vs.toArray,rfl,by simpa using hvl,λk hk=>?_⟩;have:=c1 k hk;simpa[qB]using this
 cases vs with
 |nil=>
  cases rs with
  |nil=>exact many rfl rfl
  |cons r rs=>simp at hvl
 |cons v vs=>
  cases rs with
  |nil=>simp at hvl
  |cons r rs=>
   cases vs with
   |nil=>
    cases rs with
    |cons r' rs=>simp at hvl
    |nil=>
     have h1:=c1 0 (by simp);simp only[qV]at h1;refine⟨?_,?_,?_⟩
     ·cases r with
      |tup=>exact h1.elim
      |_=>simp[Qt,flat]
     ·cases r with
      |tup=>exact h1.elim
      |agg cs=>obtain⟨us,rfl,_⟩:=h1;simp[Q2R,Q2O]
      |_=>
       have h2:one v:=h1;simp only[Q2R,zZ,List.flatMap_nil,List.append_nil]
       revert h2;unfold one Value.oneCell';cases v<;>simp[Q2O]
     cases r with
     |tup=>exact h1.elim
     |_=>exact h1
   |cons v' vs=>
    cases rs with
    |nil=>simp at hvl
    |cons r' rs=>exact many rfl rfl
theorem Q78{C:Ctx}{R:Nat→Prop}{w:World}{st:St}{o:Nat→Option (List Nat)}{ρ:Nat→Option Bk}(W:WF C w ⟨R,o,ρ⟩)(H:HRel w ⟨R,o,ρ⟩ st.hp)(hw:C.wrb=λ_=>False){vs:List Value}{az rs:List AV}(hA:RetV az st rs)(hvl:vs.length=az.length)(hx:∀k,k<az.length→XRel w R ρ (vs.getD k undef) (az.getD k .bot)):
  Blw C.w0.heap.size C.w0 w∧∃o,(∀b L,o b=some L→C.w0.heap.size≤b∧b<w.heap.size)∧Res w o (Q2R vs) (Qt rs):=by
 obtain⟨q,ds,hq,hnd,hup⟩:=hA.pk;obtain⟨c1,c2,c3,c4,c5⟩:=ret_cells (w:=w) (R:=R) (ρ:=ρ) az rs vs hA.sh hvl hx;obtain⟨hlen,_,ky,hk,hL⟩:=Q7K H (λk=>(vs.flatMap λv=>v.cells.toList).getD k undef) (λk=>[k]) _ q ds 0 hq λj hj=>by
  simpa using c5 j hj
 have hnd':(ky.map Prod.fst).Nodup:=by rw[hk];exact hnd
 let o':Nat→Option (List Nat):=λb=>match o b with
  |some (x::M)=>match look x ky with
   |some L=>some (L++M)
   |none=>none
  |_=>none
 have ho':∀p∈ky,∀b M,o b=some (p.1::M)→o' b=some (p.2++M):=by
  intro p hp b M hb;simp only[o',hb,QQ hnd' hp]
 have hflat:=one_or vs rs (by rw[c4];exact hvl) (by rw[←c4]at c1;exact c1);obtain⟨f1,f2,f3⟩:=hflat;refine⟨⟨W.os,W.tape,W.output,W.size,λk hk=>W.keep k hk (by rw[hw];exact λh=>h)⟩,o',λb L hb=>?_,⟨f3,λk hk=>?_⟩⟩
 ·simp only[o']at hb;split at hb
  ·rename_i x M hM;have:=W.o b _ hM;rw[hw]at this;exact⟨this.2.resolve_right λh=>h,this.1⟩
  cases hb
 rw[f1]at hk⊢;rw[f2];obtain⟨u1,u2⟩:=hup.get;have hkq:k<q.length:=by omega
 have:=hL k hkq w o' (λ_ _=>rfl) λp hp b M hb=>⟨ho' p hp b M hb,rfl⟩;simp only[Nat.zero_add]at this;exact(TRel.up (u2 k hkq) this).anyR
theorem ret_res{C:Ctx}{R:Nat→Prop}{N:Nat}{a:Act}{w:World}{st:St}(hr:Rel C R N a w st)(hw:C.wrb=λ_=>False){ts:List Nat}{rs:List AV}(hA:RetA ts st rs):
  Blw C.w0.heap.size C.w0 w∧∃o,(∀b L,o b=some L→C.w0.heap.size≤b∧b<w.heap.size)∧Res w o (Q2R (ts.map λt=>a.tmps.getD t undef)) (Qt rs):=by
 obtain⟨_,_,_,o,ρ,W,H,hx,_⟩:=hr;refine Q78 W H hw hA (by simp) λk hk=>?_;rw[List.length_map]at hk;have h1:(ts.map λt=>a.tmps.getD t undef).getD k undef=a.tmps.getD (ts.getD k 0) undef:=by simp[qB,hk]
 have h2:(ts.map st.get).getD k .bot=st.get (ts.getD k 0):=by simp[qB,hk]
 rw[h1,h2];exact hx _
end
theorem Qu{P:Program}{f:Nat}{fn:Func}{c:Code}{args:List AV}{ts:List Nat}{rs:List AV}{res:AV}(hf:P.funcs[f]? =some fn)(hb:fn.body=some c)(hrt:resT fn.results=some ts)(hrs:res=Qt rs)(hname:(fn.name=="runtime.NumGoroutine")=false)(hN:args.length≤fn.ntmps)(h:∀F:Fx,F.N=fn.ntmps→F.pins=0→Wp P F c (retQ ts rs) ⟨Q39 0 args,[],0⟩):Contract P f args res:=by
 subst hrs;refine⟨⟨fn,hf,hname,by rw[hb];rfl⟩,λw R vals hR hsz hx=>?_⟩;refine calls_of_wp hf hb ?_
 let C:Ctx:=⟨w,λ_=>False,λ_=>none,0⟩
 have hrel:Rel C R fn.ntmps {tmps:=vals++zY (fn.ntmps - vals.size) undef,defers:=[]} w ⟨Q39 0 args,[],0⟩:=by
  refine⟨by simp;omega,rfl,(λid x h=>by cases h),λ_=>none,noρ,⟨λb hb=>⟨hR b hb,rfl⟩,(λb L hb=>by cases hb),rfl,⟨rfl,qF _⟩,rfl,qF _,λb _ _=>rfl⟩,⟨(λid sz es bk _ hb=>by cases hb),(λid sz es bk _ hb=>by cases hb),(λid c i k sz bk _ hb=>by cases hb),(λid kd es bk _ hb=>by cases hb)⟩,λt=>?_,(λid k hk=>by cases hk),(λid hid=>by cases hid),qF _⟩;simp only[St.get,Q2w]
  by_cases ht:t<args.length
  ·rw[if_pos (by omega)];simp only[Nat.sub_zero,zQ];have:=hx t ht;have h2:(vals++zY (fn.ntmps - vals.size) undef).getD t undef=vals.getD t undef:=by
    simp[Array.getElem?_append,show t<vals.size by omega]
   rw[h2];exact this
  rw[if_neg (by omega)];exact .bot
 refine Q3T (λe a w' hq=>?_) (h ⟨C,R,fn.ntmps,0,rfl⟩ rfl rfl _ w (.of hrel));obtain⟨st,⟨R',hX,hr⟩,hq⟩:=hq;have fin:RetA ts st rs→a.defers=[]∧∃v,(results fn a.tmps).run P w'= .ok v w'∧∃v' o,Ending.returned v= .returned v'∧Blw w.heap.size w w'∧(∀b L,o b=some L→w.heap.size≤b∧b<w'.heap.size)∧Res w' o v' (Qt rs):=by
  intro hA;obtain⟨h1,o,h2,h3⟩:=ret_res hr rfl hA;exact⟨hr.defers,_,Q63 hrt _,_,o,rfl,h1,h2,h3⟩
 cases e with
 |normal=>exact fin hq
 |ret=>exact fin hq
 |_=>exact hq.elim
theorem Q4w{P:Program}{w:World}{t:TypeId}{ty:Tyi}(ht:tyi P t=some ty){b x:Nat}{us:Nat→Value}(hc:∀j,j<ty.sz→w.cell? ⟨b,x+j,none⟩=some (us j)):
  (loadVar t ⟨b,x,none⟩).run P w= .ok (bif ty.agg then .agg ((List.range ty.sz).map us).toArray else us 0) w:=by
 have h:=(Q4i (P:=P) (w:=w) ht hc).1;simpa[Instr.loadAt,Instr.sureAddr]using h
structure RetC(a:Nat)(ty:Tyi)(st:St)(res:AV):Prop where
 ex:∃id i k sz es,st.get a= .adr id i k∧look id st.h=some (.mix sz es)∧i<es.length∧k+ty.sz≤sz∧RetV [.agg (((es.getD i []).drop k).take ty.sz)] st [res]
def retCQ(a:Nat)(ty:Tyi)(res:AV):Exit→St→Prop
 | .normal,st=>RetC a ty st res
 | .ret,st=>RetC a ty st res
 |_,_=>False
theorem Q31{P:Program}{f:Nat}{fn:Func}{c:Code}{args:List AV}{a0:Nat}{t:TypeId}{ty:Tyi}{res:AV}(hf:P.funcs[f]? =some fn)(hb:fn.body=some c)(hrt:fn.results=#[.cell a0 t])(hty:tyi P t=some ty)(hag:ty.agg=true)(hname:(fn.name=="runtime.NumGoroutine")=false)(hN:args.length≤fn.ntmps)(h:∀F:Fx,F.N=fn.ntmps→F.pins=0→Wp P F c (retCQ a0 ty res) ⟨Q39 0 args,[],0⟩):Contract P f args res:=by
 refine⟨⟨fn,hf,hname,by rw[hb];rfl⟩,λw R vals hR hsz hx=>?_⟩;refine calls_of_wp hf hb ?_
 let C:Ctx:=⟨w,λ_=>False,λ_=>none,0⟩
 have hrel:Rel C R fn.ntmps {tmps:=vals++zY (fn.ntmps - vals.size) undef,defers:=[]} w ⟨Q39 0 args,[],0⟩:=by
  refine⟨by simp;omega,rfl,(λid x h=>by cases h),λ_=>none,noρ,⟨λb hb=>⟨hR b hb,rfl⟩,(λb L hb=>by cases hb),rfl,⟨rfl,qF _⟩,rfl,qF _,λb _ _=>rfl⟩,⟨(λid sz es bk _ hb=>by cases hb),(λid sz es bk _ hb=>by cases hb),(λid c i k sz bk _ hb=>by cases hb),(λid kd es bk _ hb=>by cases hb)⟩,λt=>?_,(λid k hk=>by cases hk),(λid hid=>by cases hid),qF _⟩;simp only[St.get,Q2w]
  by_cases ht:t<args.length
  ·rw[if_pos (by omega)];simp only[Nat.sub_zero,zQ];have:=hx t ht;have h2:(vals++zY (fn.ntmps - vals.size) undef).getD t undef=vals.getD t undef:=by
    simp[Array.getElem?_append,show t<vals.size by omega]
   rw[h2];exact this
  rw[if_neg (by omega)];exact .bot
 refine Q3T (λe a w' hq=>?_) (h ⟨C,R,fn.ntmps,0,rfl⟩ rfl rfl _ w (.of hrel));obtain⟨st,⟨R',hX,hr⟩,hq⟩:=hq;have fin:RetC a0 ty st res→a.defers=[]∧∃v,(results fn a.tmps).run P w'= .ok v w'∧∃v' o,Ending.returned v= .returned v'∧Blw w.heap.size w w'∧(∀b L,o b=some L→w.heap.size≤b∧b<w'.heap.size)∧Res w' o v' res:=by
  intro hA;obtain⟨id,i,k,sz,es,h1,h2,h3,h4,h5⟩:=hA.ex;obtain⟨_,hdef,_,o,ρ,W,H,hxx,_⟩:=hr;have hxa:=hxx a0;rw[h1]at hxa;obtain⟨b,bsz,cap,hbk,hv⟩:=hxa.adr_eq;obtain⟨b',cur,el,us,cpm,hbk',ho',hh,hsz',hcp,hml,hl,hcur,hone,hxr⟩:=(H.mix id sz es _ h2 hbk).ex (by simp);simp only[Bk.mk.injEq,Option.some.injEq]at hbk';obtain⟨rfl,rfl,_⟩:=hbk';have hrun:=Q4w (P:=P) (w:=w') hty (b:=b) (x:=i*bsz+k) (us:=λj=>us i (k+j)) (λj hj=>by
   rw[Q1I hh,Nat.add_assoc];exact hcur i (k+j) h3 (by omega))
  rw[hag]at hrun;simp only[cond_true]at hrun;have hlen:(((es.getD i []).drop k).take ty.sz).length=ty.sz:=by rw[List.length_take,List.length_drop,hl i h3];omega
  have hX:XRel w' R' ρ (.agg ((List.range ty.sz).map λj=>us i (k+j)).toArray) (.agg (((es.getD i []).drop k).take ty.sz)):=by
   refine .agg (by rw[hlen];simp) ?_ ?_
   ·intro j hj;rw[hlen]at hj;rw[Q1M _ _ _ hj];exact hone _ _ h3 (by omega)
   intro j hj;rw[hlen]at hj;rw[Q1M _ _ _ hj];have:=hxr i (k+j) h3 (by omega);simpa[qB,List.getElem?_take,List.getElem?_drop,hj]using this
  obtain⟨q1,o1,q2,q3⟩:=Q78 W H rfl h5 (vs:=[.agg ((List.range ty.sz).map λj=>us i (k+j)).toArray]) rfl λj hj=>by
   have:j=0:=(by simpa using hj);subst this;exact hX
  have hv2:(a.tmps[a0]?).getD undef= .pointer (some ⟨b,i*bsz+k,none⟩):=by rw[←hv];simp
  refine⟨hdef,_,?_,_,o1,rfl,q1,q2,q3⟩;simp[results,hrt,hv2,asAddr,hrun,Q2R]
 cases e with
 |normal=>exact fin hq
 |ret=>exact fin hq
 |_=>exact hq.elim
def St.put(st:St)(t:Nat)(a:AV):St:={st with s:=putS t a st.s}
theorem putS_look:∀(s:List (Nat×AV)) (t:Nat) (a:AV),look t s=some a→putS t a s=s:=by
 intro s
 induction s with
 |nil=>intro t a h;cases h
 |cons p r ih=>
  obtain⟨i,x⟩:=p;intro t a h;simp only[look]at h;simp only[putS];split
  ·rename_i hi;subst hi;rw[if_pos rfl]at h;cases h;rfl
  rename_i hi;rw[if_neg hi]at h;rw[ih t a h]
theorem St.put_get{st:St}{t:Nat}{a:AV}(h:st.get t=a)(ha:a≠.bot):st.put t a=st:=by
 unfold St.get at h;cases hl:look t st.s with
 |none=>rw[hl]at h;exact absurd h.symm ha
 |some x=>
  rw[hl]at h;simp only[zQ]at h;subst h;simp only[St.put,putS_look _ _ _ hl]
def callA(P:Program)(mt:MT)(all:Array Oper)(f:Nat)(az:List AV)(dst:Option Nat)(os:List Oper)(st:St)(K:St→Prop):Prop:=
 (∃bs res,PurL st.hp az bs∧Contract P f bs res∧Q38 P mt all os (st.app dst (unk st.n res)) K)∨
 (mt.may f=true∧∃args ms res m Pt sets dels,MContract P f args ms res∧MCall st.hp st.n ms m Pt sets dels∧az.length=args.length∧(∀k,k<args.length→MArg m (az.getD k .bot) (args.getD k .bot))∧
  (∀j,j<ms.length→∃k,k<args.length∧Occ (m.getD j 0) (az.getD k .bot))∧Q38 P mt all os (st.app dst {v:=res,set:=sets,del:=dels}) K)∨
 (mt.may f=true∧∃e,ICon P f az st.hp st.n e∧Q38 P mt all os (st.app dst e) K)
def stoA(P:Program)(mt:MT)(all:Array Oper)(t:TypeId)(av xv:AV)(dst:Option Nat)(os:List Oper)(st:St)(K:St→Prop):Prop:=
 (∃ty id i k b sz es ds dels,tyi P t=some ty∧ty.sz=1∧av= .adr id i k∧Sto st.hp st.n id i k xv b sz es ds dels∧
  Q38 P mt all os (st.app dst {v:=.bot,set:=[(id,.row sz (es.set i ((es.getD i []).set k b)))],del:=ds++dels}) K)∨
 ∃ty id i az bs sz es ds dels,tyi P t=some ty∧ty.sz=sz∧av= .adr id i 0∧xv= .agg az∧StoG st.hp st.n id i az bs sz es ds dels∧
  Q38 P mt all os (st.app dst {v:=.bot,set:=[(id,.row sz (es.set i bs))],del:=ds++dels}) K
def Q56(R:St→Prop)(Z:Prop)(dst:Option Nat)(st:St):Option (Prop×Eff)→Prop
 |some (c,e)=>c∧R (st.app dst e)
 |none=>Z
def Q6j(R:St→Prop)(dst:Option Nat)(st:St):Option (Prop×Eff)→Prop
 |some (c,e)=>c∧R (st.app dst e)
 |none=>False
def callE(P:Program)(mt:MT)(all:Array Oper)(az:List AV)(dst:Option Nat)(os:List Oper)(st:St)(K:St→Prop):AV→Prop
 | .fn f caps=>callA P mt all f (az++caps) dst os st K
 |_=>False
def Q5u(P:Program)(mt:MT)(all:Array Oper)(os:List Oper)(K R:St→Prop)(dst:Option Nat)(st:St)(op:Op):Prop:=
 match op with
 | .call ⟨.value x,args,_⟩=>callE P mt all (args.toList.map st.ev) dst os st K (st.ev x)
 | .store t a x=>Q56 R (stoA P mt all t (st.ev a) (st.ev x) dst os st K) dst st (Q3w (tyi P t) (st.ev a) (st.ev x) st.hp)
 |op=>Q6j R dst st (opF P op st.ev st.hp st.n)
def guardW(P:Program)(mt:MT)(all:Array Oper)(os:List Oper)(K R:St→Prop)(dst:Option Nat)(st:St)(op:Op)(t:Nat)(want:Bool):AV→Prop
 | .val (.bool b)=>(b=want→Q5u P mt all os K R dst (st.put t (.val (.bool want))) op)∧(b= !want→R ((st.put t (.val (.bool !want))).app dst {v:=.tup []}))
 | .tup []=>R (st.app dst {v:=.tup []})
 |_=>False
def Q8g(P:Program)(mt:MT)(all:Array Oper)(os:List Oper)(K R:St→Prop)(dst:Option Nat)(st:St)(op:Op)(want:Bool):Option Nat→Prop
 |some t=>guardW P mt all os K R dst st op t want (st.get t)
 |none=>False
def Q1s(P:Program)(mt:MT)(all:Array Oper):List Oper→St→(St→Prop)→Prop
 |[],st,K=>K st
 |o::os,st,K=>match o.guard with
  |none=>Q5u P mt all os K (λst'=>Q1s P mt all os st' K) o.dst st o.op
  |some (j,want)=>Q8g P mt all os K (λst'=>Q1s P mt all os st' K) o.dst st o.op want ((all[j]?).bind (·.dst))
theorem Q5J{mt:MT}{op:Op}{st:St}{x:Operand}{args:Array Operand}{ts:Array TypeId}{f:Nat}{caps:List AV}(h0:mt.may f=true)(ho:op= .call ⟨.value x,args,ts⟩)(hx:st.ev x= .fn f caps):(mt.on&&wrM mt op)=true:=by
 subst ho;unfold MT.may at h0;rw[Bool.and_eq_true]at h0;have:roC mt.ro (.call ⟨.value x,args,ts⟩)=false:=by
  unfold roC;split
  ·rename_i f' _ _ e;cases e;simp only[St.ev,AV.fn.injEq]at hx;rw[hx.1];simpa using h0.2
  rfl
 simp[wrM,Q2Q,h0.1,this]
theorem Q7E{P:Program}{mt:MT}{all:Array Oper}{o:Oper}{os:List Oper}{st:St}{K R:St→Prop}(hw:Q2f all o st=some true)(ih:∀st',R st'→Q38 P mt all os st' K)(h:Q5u P mt all os K R o.dst st o.op):Q38 P mt all (o::os) st K:=by
 refine .inl ⟨hw,?_⟩;unfold Q5u at h;split at h
 ·rename_i x args ts ho;unfold callE at h;split at h
  ·rename_i f caps hx;rcases h with⟨bs,res,h1,h2,h3⟩|⟨h0,args,ms,res,m,Pt,sets,dels,h1,h2,h3,h4,h5,h6⟩|⟨h0,e,h1,h2⟩
   ·exact⟨_,.call ho rfl hx h1 h2,h3⟩
   ·exact⟨_,.mcall (Q5J h0 ho hx) ho rfl hx h1 h2 h3 h4 h5,h6⟩
   exact⟨_,.icall (Q5J h0 ho hx) ho rfl hx h1,h2⟩
  exact h.elim
 ·rename_i t a x ho;unfold Q56 at h;split at h
  ·rename_i c e he;exact⟨e,.blt (by rw[ho];exact he) h.1,ih _ h.2⟩
  rcases h with⟨ty,id,i,k,b,sz,es,ds,dels,h1,h2,h3,h4,h5⟩|⟨ty,id,i,az,bs,sz,es,ds,dels,h1,h2,h3,h3',h4,h5⟩
  ·exact⟨_,.sto ho h1 h2 h3 h4,h5⟩
  exact⟨_,.stg ho h1 h2 h3 h3' h4,h5⟩
 unfold Q6j at h;split at h
 ·rename_i c e he;exact⟨e,.blt he h.1,ih _ h.2⟩
 exact h.elim
theorem Q5S{P:Program}{mt:MT}{all:Array Oper}:∀(os:List Oper) (st:St) (K:St→Prop),Q1s P mt all os st K→Q38 P mt all os st K:=by
 intro os
 induction os with
 |nil=>intro st K h;exact h
 |cons o os ih=>
  intro st K h;unfold Q1s at h;split at h
  ·rename_i hg;exact Q7E (by simp[Q2f,hg]) (λst'=>ih st' K) h
  rename_i j want hg;unfold Q8g at h;split at h
  ·rename_i t ht;unfold guardW at h;split at h
   ·rename_i b hb;have hput:∀b',b=b'→st.put t (.val (.bool b'))=st:=(by rintro _ rfl;exact St.put_get hb (by simp));obtain⟨h1,h2⟩:=h
    by_cases hbw:b=want
    ·have h1:=h1 hbw;rw[hput _ hbw]at h1;exact Q7E (by simp only[Q2f,hg,ht,hb,hbw,beq_self_eq_true]) (λst'=>ih st' K) h1
    have hb':b= !want:=(by cases b<;>cases want<;>simp_all);have h2:=h2 hb';rw[hput _ hb']at h2;refine .inr ⟨?_,ih _ _ h2⟩;have:(b==want)=false:=(by simpa using hbw);simp only[Q2f,hg,ht,hb,this]
   ·rename_i htt;refine .inr ⟨?_,ih _ _ h⟩;simp only[Q2f,hg,ht,htt]
   exact h.elim
  exact h.elim
theorem Q3{P:Program}{mt:MT}{all:Array Oper}{f:Nat}{az bs:List AV}{res:AV}{dst:Option Nat}{os:List Oper}{st:St}{K:St→Prop}(hc:Contract P f bs res)(hp:PurL st.hp az bs)(h:Q1s P mt all os (st.app dst (unk st.n res)) K):callA P mt all f az dst os st K:=.inl ⟨bs,res,hp,hc,Q5S _ _ _ h⟩
theorem w_run{P:Program}{F:Fx}{AQ:Exit→St→Prop}{st:St}{id:Nat}{ops:Array Oper}{d:Bool}(hm:P.follows .mixedOrders=true)(hok:(okN F.N ops&&(!d||(Q4N false ops&&Q2b ops)))=true)(h:∀K:St→Prop,(∀st',AQ .normal st'→K st')→Q1s P false ops ops.toList st K):Wp P F (.region id ops d) AQ st:=
 Q7g hm hok λK hK=>Q5S _ _ _ (h K hK)
theorem PurL.nil{h:HP}:PurL h [] []:=⟨rfl,λk hk=>by simp at hk⟩
theorem PurL.cons{h:HP}{a b:AV}{az bs:List AV}(h1:PurTo h a b)(h2:PurL h az bs):PurL h (a::az) (b::bs):=by
 refine⟨by simp[h2.1],λk hk=>?_⟩;cases k with
 |zero=>simpa using h1
 |succ k=>simpa using h2.2 k (by simpa using hk)
theorem PurTo.whole{h:HP}{id n u sz es}(hc:cont h depth id=some (sz,es))(hm:Qm (h id)=false)(hn:n=es.length):PurTo h (.own id 0 n) (.lst u sz es):=
 .row hc hm (by omega) (by subst hn;simp)
theorem PurTo.w{h:HP}{id n u sz es}(hc:cont h depth id=some (sz,es):=by simp)(hm:Qm (h id)=false:=by simp)(hn:n=es.length:=by simp):PurTo h (.own id 0 n) (.lst u sz es):=.whole hc hm hn
end Go.Vc
