/- A part of the proof. -/
import Derived.Test.YtbanpimdoabfmaaH1
set_option maxRecDepth 100000
set_option maxHeartbeats 4000000
set_option linter.unusedSimpArgs false
set_option linter.unusedVariables false
set_option linter.unusedSectionVars false
set_option linter.unnecessarySimpa false

open Option.some renaming injEq→qA
open List renaming getD_eq_getElem?_getD→qB
open Prod.mk renaming injEq→qC
open List renaming length_append→qD
open Prod renaming fst→qE
open Nat renaming le_refl→qF
open Nat renaming le_trans→qK
open Nat renaming mul_le_mul_right→qM
open List renaming eq_nil_of_length_eq_zero→qQ
open Array renaming getElem?_append→zJ
open Nat renaming add_mul→qT
open Nat renaming zero_add→qU
open List renaming getElem?_append→zK
namespace Go.Vc
open Go
structure Sto(h:HP)(n id i k:Nat)(x b:AV)(sz:Nat)(es:List (List AV))(ds dels:List Nat):Prop where
 ent:h id=some (.row sz es)
 lay:layC h x=some (b,ds)
 hi:i<es.length
 hk:k<sz
 nodup:(id::ds).Nodup
 lt:∀y∈ds++dels,y<n
 alis:∀id' c i' k' s,id'<n→h id'=some (.ali c i' k' s)→id'∈dels∨∃d r,Vc.root h d c=some r∧r≠id
theorem Q9q{v:Value}(h:one v):v.cells=#[v]:=by revert h;unfold one Value.oneCell';cases v<;>simp[Value.cells]
theorem Q7I{h h':HP}{id:Nat}(hs:∀c e,h' c=some e→c≠id→h c=some e):∀(d c:Nat) (x:Nat×List (List AV)),(∀d r,Vc.root h d c=some r→r≠id)→(h id).isSome=true→(∀z zz,h id≠some (.mix z zz))→Qm (h' id)=false→
  (∀c i k s,h id≠some (.ali c i k s))→cont h' d c=some x→cont h d c=some x∧∃e,h' c=some e∧h c=some e:=by
 intro d
 induction d with
 |zero=>intro c x _ _ _ _ _ hx;cases hx
 |succ d ih=>
  intro c x hf hid hmix hmix' hali hx;have hcid:c≠id:=by
   rintro rfl
   obtain⟨e,he⟩:=Option.isSome_iff_exists.1 hid;have:Vc.root h 1 c=some c:=by
    cases e with
    |mix z zz=>exact absurd he (hmix z zz)
    |row=>simp[Vc.root,he]
    |mapE=>simp[Vc.root,he]
    |ali c2 i2 k2 s2=>exact absurd he (hali c2 i2 k2 s2)
   exact hf 1 c this rfl
  have hcn:∃e,h' c=some e:=by
   cases hh:h' c with
   |none=>simp only[cont,hh]at hx;cases hx
   |some e=>exact⟨e,rfl⟩
  obtain⟨e,hce⟩:=hcn;have hc':=hs c e hce hcid;refine⟨?_,e,hce,hc'⟩;unfold cont at hx⊢;rw[hce]at hx;rw[hc'];cases e with
  |mix=>exact hx
  |row=>exact hx
  |mapE=>exact hx
  |ali c2 i2 k2 s2=>
   simp only at hx⊢;split at hx
   ·cases hx
   rename_i hm2;cases hc2:cont h' d c2 with
   |none=>simp[hc2]at hx
   |some p=>
    obtain⟨h4,e2,h5,h6⟩:=ih c2 p (λd r hr=>hf (d+1) r (by simp[Vc.root,hc',hr])) hid hmix hmix' hali hc2;rw[hc2]at hx;rw[h5]at hm2;rw[h6,if_neg hm2,h4];exact hx
section
variable {P:Program}{C:Ctx}{a:Act}{w:World}{g:Gh}{h:HP}{n:Nat}{ev:Operand→AV}
theorem step_sto(hev:∀x,XRel w g.R g.ρ (a.eval x) (ev x))(W:WF C w g)(H:HRel w g h)(hlim:∀id k,g.ρ id=some k→id<n){o:Oper}{t:TypeId}{x y:Operand}{ty:Tyi}{id i k sz:Nat}{b:AV}{es:List (List AV)}{ds dels:List Nat}(ho:o.op= .store t x y)(hty:tyi P t=some ty)(hts:ty.sz=1)(hxx:ev x= .adr id i k)(hS:Sto h n id i k (ev y) b sz es ds dels):
  StepR P C o a w g h n {v:=.bot,set:=[(id,.row sz (es.set i ((es.getD i []).set k b)))],del:=ds++dels}:=by
 intro K Q kk;obtain⟨hent,hlay,hi,hk,hnd,hlt,halis⟩:=hS;have hx:=hev x;rw[hxx]at hx;obtain⟨b0,bsz,cap0,hb,hv⟩:=hx.adr_eq;have hids:id∉ds:=(List.nodup_cons.1 hnd).1;obtain⟨hone,ky,hky,hL⟩:=Q6Y H _ _ _ _ [id,i,k] hlay (hev y);have hnk:(ky.map qE).Nodup:=by rw[hky];exact(List.nodup_cons.1 hnd).2
 obtain⟨v0,hv0,hh0⟩:=H.row id sz es _ hent hb;cases hv0 with
 |nil=>simp at hi
 |@own _ _ _ b1 cap cur el us a1 a2 a3 a4 a5 a6 a7 a8 a9=>
  cases hh0;have hcs:(a.eval y).cells=#[a.eval y]:=by
   have:=Q9q hone;exact this
  have hmul:=qM sz a4;have hcl:=Q2N hi hk;have hfit:i*sz+k+ty.sz≤cur.size:=by rw[hts];omega
  have hrun:=Q3M (P:=P) hty a2 (v:=a.eval y) (by rw[hcs,hts];rfl) hfit (λj hj=>by
   rw[hts]at hj;have:j=0:=(by omega);subst this;rw[hcs];exact hone)
  rw[hts,hcs]at hrun;generalize hu:a.eval y=u at hrun hone hL hcs;have hfit':i*sz+k+(#[u]:Array Value).size≤cur.size:=by simp;omega
  have hnew:=Q4M cur (i*sz+k) #[u] hfit';have hnsz:(cur.toList.take (i*sz+k)++[u]++cur.toList.drop (i*sz+k+1)).toArray.size=cur.size:=Q5E cur (i*sz+k) #[u] hfit';simp only[List.size_toArray,List.length_singleton]at hnew hrun;generalize (cur.toList.take (i*sz+k)++[u]++cur.toList.drop (i*sz+k+1)).toArray=cur' at hrun hnew hnsz;have hexec:(execOp a.eval o).run P w= .ok .skip (w.setRow b0 cur'):=by simp[execOp,ho,hv,hu,hrun]
  have hoth:∀b',g.o b'≠some [id]→(w.setRow b0 cur').heap[b']? =w.heap[b']?:=λb' hb'=>setRow_other w b0 b' cur' (by rintro rfl;exact hb' a1);have hRr:∀b',g.R b'→(w.setRow b0 cur').heap[b']? =w.heap[b']?:=λb' hb'=>hoth b' (by rw[(W.R b' hb').2];simp);have hset:=λj l=>Q5H es i k b j l hi (by rw[a6 i hi];exact hk);have hlen:(es.set i ((es.getD i []).set k b)).length=es.length:=by simp
  have hkey:∀z,z∉ds→look z ky=none:=λz hz=>Q3q (by rw[hky];exact hz);have hsame:∀b' z M,z∉ds→g.o b'=some (z::M)→mv ky g.o b'=some (z::M):=λb' z M hz hb'=>Q5D (hkey z hz) hb';have hold:∀c e,happ {v:=.bot,set:=[(id,.row sz (es.set i ((es.getD i []).set k b)))],del:=ds++dels} h c=some e→c≠id→h c=some e∧c∉ds∧c∉dels:=by
   intro c e he hc;simp only[happ,look]at he;rw[if_neg (Ne.symm hc)]at he;simp only at he;split at he
   ·cases he
   rename_i hd;simp only[List.mem_append,not_or]at hd;exact⟨he,hd.1,hd.2⟩
  have hself:happ {v:=.bot,set:=[(id,.row sz (es.set i ((es.getD i []).set k b)))],del:=ds++dels} h id=some (.row sz (es.set i ((es.getD i []).set k b))):=by simp[happ,look]
  refine Q3C hexec (kk undef _ (mv ky g.o) g.ρ ⟨λb' hb'=>?_,λb' L hb'=>?_,W.os,W.tape,W.output,by simpa using W.size,λb' hb' hw=>?_⟩ ⟨λid' sz' es' bk he hbk=>?_,λid' sz' es' bk he hbk=>?_,λid' c i' k' s bk he hbk=>?_,λid' kd es' bk he hbk=>?_⟩ (λ_ _ h=>h) (λ_ _ h=>.inl h) .bot hRr);rotate_left 6
  ·have hne:id'≠id:=(by rintro rfl;rw[hself]at he;cases he);obtain⟨h1,h2,_⟩:=hold id' _ he hne;exact(H.map id' kd es' bk h1 hbk).move (λb hb=>⟨hb,hRr b hb⟩) λb' M q2=>⟨hsame b' id' M h2 q2,hoth b' (by rw[q2];intro h3;cases h3;exact hne rfl)⟩
  ·exact⟨by simpa using(W.R b' hb').1,Q72 (W.R b' hb').2⟩
  ·obtain⟨M,hM⟩:=Q1Y hb';exact⟨by simpa using(W.o b' M hM).1,(W.o b' M hM).2⟩
  ·rw[hoth b' (λh1=>by
    rcases(W.o b' _ h1).2 with h2|h2
    ·omega
    exact hw h2)]
   exact W.keep b' hb' hw
  ·have hne:id'≠id:=(by rintro rfl;rw[hself]at he;cases he);obtain⟨h1,h2,_⟩:=hold id' _ he hne;exact(H.mix id' sz' es' bk h1 hbk).mono hRr (λ_ _ h=>h) λb' hbo=>⟨hsame b' id' [] h2 hbo,hoth b' (by rw[hbo];intro h3;cases h3;exact hne rfl)⟩
  ·by_cases hne:id'=id
   ·subst hne;rw[hself]at he;cases he;rw[hb]at hbk;cases hbk;refine⟨.slice (some ⟨b0,0,none⟩) es.length cap0,?_,.own⟩;have:=TRel.own (w:=w.setRow b0 cur') (R:=g.R) (o:=mv ky g.o) (L:=[id']) (sz:=sz) (es:=es.set i ((es.getD i []).set k b)) (cap:=cap0) (cur:=cur') (e:=el)
     (λj l=>if j=i∧l=k then u else us j l) (hsame _ id' [] hids a1) (setRow_heap w b0 cur cur' el (0,0) a2) (by rw[hnsz];exact a3) (by rw[hlen];exact a4) a5
     (λj hj=>by rw[hlen]at hj;rw[Q8A];exact a6 j hj)
     (λj l hj hl=>by
      rw[hlen]at hj;rw[hnew]
      by_cases hjl:j=i∧l=k
      ·obtain⟨rfl,rfl⟩:=hjl;rw[if_pos (by omega),if_pos ⟨rfl,rfl⟩,Nat.sub_self];rfl
      rw[if_neg hjl,if_neg]
      ·exact a7 j l hj hl
      intro hq
      by_cases hji:j=i
      ·subst hji;exact hjl ⟨rfl,by omega⟩
      exact Q4X (m:=1) hl (by omega) hji hq)
     (λj l hj hl=>by
      rw[hlen]at hj;split
      ·exact hone
      exact a8 j l hj hl)
     (λj l hj hl=>by
      rw[hlen]at hj;rw[hset]
      by_cases hjl:j=i∧l=k
      ·rw[if_pos hjl,if_pos hjl];obtain⟨rfl,rfl⟩:=hjl;exact hL _ _ hRr λp hp b' M hbo=>⟨Q6x (QQ hnk hp) hbo,hoth b' (by
        rw[hbo];intro h3;cases h3;exact hids (by rw[←hky];exact List.mem_map.2 ⟨p,hp,rfl⟩))⟩
      rw[if_neg hjl,if_neg hjl];exact(a9 j l hj hl).same λb' M hbo=>⟨hsame b' id' _ hids (by simpa using hbo),hoth b' (by rw[hbo];simp)⟩)
    rw[hlen]at this;exact this
   obtain⟨h1,h2,_⟩:=hold id' _ he hne;obtain⟨v,hv',hh⟩:=H.row id' sz' es' bk h1 hbk;exact⟨v,hv'.same λb' M hbo=>⟨hsame b' id' M h2 hbo,hoth b' (by rw[show g.o b'=some (id'::M) from hbo];intro h3;cases h3;exact hne rfl)⟩,hh⟩
  have hne:id'≠id:=by rintro rfl;rw[hself]at he;cases he
  obtain⟨h1,h2,h3⟩:=hold id' _ he hne;obtain⟨d0,r0,hr0,hl0⟩:=(halis id' c i' k' s (hlim id' bk hbk) h1).resolve_left h3;have hfree:∀d r,Vc.root h d c=some r→r≠id:=by
   intro d r hr;rw[←Q7a _ _ _ _ _ hr0 hr];exact hl0
  obtain⟨q1,bkc,q2,q3⟩:=H.ali id' c i' k' s bk h1 hbk;refine⟨q1,bkc,q2,λd szc esc hcc hmc hi' hk'=>?_⟩;obtain⟨hc1,e,hc2,hc3⟩:=Q7I (λc e he hc=>(hold c e he hc).1) d c _ hfree (by rw[hent];rfl) (by rw[hent];intro z zz hz;cases hz) (by rw[hself];rfl) (by rw[hent];intro z z1 z2 z3 hz;cases hz) hcc;have hmc':Qm (h c)=false:=by rw[hc3,←hc2];exact hmc
  obtain⟨bc,cur3,el3,v,h4,h5,h6,h7⟩:=q3 d szc esc hc1 hmc' hi' hk';obtain⟨_,v3,r,M,hroot,_,ht,hhd⟩:=Q5A H d c szc esc bkc hc1 hmc' q2;refine⟨bc,cur3,el3,v,h4,?_,h6,h7⟩;cases ht with
  |nil=>simp at hi'
  |own us2 hob=>
   cases hhd;cases h4;exact(hoth _ (by rw[hob];intro h8;cases h8;exact hfree d _ hroot rfl)).trans h5
theorem Sto.up{h':HP}(hs:∀id x,h id=some x→h' id=some x)(hlt:∀id,id<n→h' id=h id){id i k:Nat}{x b:AV}{sz:Nat}{es:List (List AV)}{ds dels:List Nat}(hS:Sto h n id i k x b sz es ds dels):Sto h' n id i k x b sz es ds dels:=by
 refine⟨hs _ _ hS.ent,Q8n hs hS.lay,hS.hi,hS.hk,hS.nodup,hS.lt,λid' c i' k' s hid he=>?_⟩;rw[hlt id' hid]at he;rcases hS.alis id' c i' k' s hid he with h1|⟨d,r,h1,h2⟩
 ·exact .inl h1
 exact .inr ⟨d,r,Q8z hs d c r h1,h2⟩
end
structure StoG(h:HP)(n id i:Nat)(az bs:List AV)(sz:Nat)(es:List (List AV))(ds dels:List Nat):Prop where
 ent:h id=some (.row sz es)
 lay:layCs h az=some (bs,ds)
 hi:i<es.length
 hs:az.length=sz
 nodup:(id::ds).Nodup
 lt:∀y∈ds++dels,y<n
 alis:∀id' c i' k' s,id'<n→h id'=some (.ali c i' k' s)→id'∈dels∨∃d r,Vc.root h d c=some r∧r≠id
theorem Q7D(es:List (List AV))(i:Nat)(bs:List AV)(j:Nat)(hi:i<es.length):(es.set i bs).getD j []=if j=i then bs else es.getD j []:=by
 by_cases hj:j=i
 ·subst hj;simp[qB,hi]
 simp[qB,hj,Ne.symm hj]
section
variable {P:Program}{C:Ctx}{a:Act}{w:World}{g:Gh}{h:HP}{n:Nat}{ev:Operand→AV}
theorem step_stg(hev:∀x,XRel w g.R g.ρ (a.eval x) (ev x))(W:WF C w g)(H:HRel w g h)(hlim:∀id k,g.ρ id=some k→id<n){o:Oper}{t:TypeId}{x y:Operand}{ty:Tyi}{id i sz:Nat}{az bs:List AV}{es:List (List AV)}{ds dels:List Nat}(ho:o.op= .store t x y)(hty:tyi P t=some ty)(hts:ty.sz=sz)(hxx:ev x= .adr id i 0)(hyy:ev y= .agg az)(hS:StoG h n id i az bs sz es ds dels):
  StepR P C o a w g h n {v:=.bot,set:=[(id,.row sz (es.set i bs))],del:=ds++dels}:=by
 intro K Q kk;obtain⟨hent,hlay,hi,hsz,hnd,hlt,halis⟩:=hS;have hx:=hev x;rw[hxx]at hx;have hy:=hev y;rw[hyy]at hy;obtain⟨cs,hcs0,hcsz,hcone,hcrel⟩:=hy.agg_eq;obtain⟨b0,bsz,cap0,hb,hv⟩:=hx.adr_eq;have hids:id∉ds:=(List.nodup_cons.1 hnd).1;obtain⟨hbl,hone,ky,hky,hL⟩:=Q7K H (λl=>cs.getD l undef) (λl=>[id,i,l]) az bs ds 0 hlay (λj hj=>by rw[qU];exact hcrel j hj);simp only[qU]at hone hL;have hnk:(ky.map qE).Nodup:=by rw[hky];exact(List.nodup_cons.1 hnd).2
 obtain⟨v0,hv0,hh0⟩:=H.row id sz es _ hent hb;cases hv0 with
 |nil=>simp at hi
 |@own _ _ _ b1 cap cur el us a1 a2 a3 a4 a5 a6 a7 a8 a9=>
  cases hh0;have hcs:(a.eval y).cells=cs:=by rw[hcs0];rfl
  have hmul:=qM sz a4;have hmul2:i*sz+sz≤es.length*sz:=by
   have:=qM sz (show i+1≤es.length by omega);rw[qT,Nat.one_mul]at this;exact this
  have hcz:cs.size=sz:=by omega
  have hfit:i*sz+ty.sz≤cur.size:=by rw[hts];omega
  have hrun:=Q3M (P:=P) hty a2 (v:=a.eval y) (by rw[hcs,hts];exact hcz) hfit (λj hj=>by
   rw[hts]at hj;rw[hcs];exact hcone j (by omega))
  rw[hts,hcs]at hrun;have hfit':i*sz+cs.size≤cur.size:=by omega
  have hnew:=Q4M cur (i*sz) cs hfit';have hnsz:(cur.toList.take (i*sz)++cs.toList++cur.toList.drop (i*sz+cs.size)).toArray.size=cur.size:=Q5E cur (i*sz) cs hfit';rw[←hcz]at hrun;simp only[hcz]at hnew hrun hnsz;generalize (cur.toList.take (i*sz)++cs.toList++cur.toList.drop (i*sz+sz)).toArray=cur' at hrun hnew hnsz;have hv2:a.eval x= .pointer (some ⟨b0,i*sz,none⟩):=by rw[hv];simp
  have hexec:(execOp a.eval o).run P w= .ok .skip (w.setRow b0 cur'):=by simp[execOp,ho,hv2,hrun]
  have hoth:∀b',g.o b'≠some [id]→(w.setRow b0 cur').heap[b']? =w.heap[b']?:=λb' hb'=>setRow_other w b0 b' cur' (by rintro rfl;exact hb' a1);have hRr:∀b',g.R b'→(w.setRow b0 cur').heap[b']? =w.heap[b']?:=λb' hb'=>hoth b' (by rw[(W.R b' hb').2];simp);have hset:=λj=>Q7D es i bs j hi;have hlen:(es.set i bs).length=es.length:=by simp
  have hkey:∀z,z∉ds→look z ky=none:=λz hz=>Q3q (by rw[hky];exact hz);have hsame:∀b' z M,z∉ds→g.o b'=some (z::M)→mv ky g.o b'=some (z::M):=λb' z M hz hb'=>Q5D (hkey z hz) hb';have hold:∀c e,happ {v:=.bot,set:=[(id,.row sz (es.set i bs))],del:=ds++dels} h c=some e→c≠id→h c=some e∧c∉ds∧c∉dels:=by
   intro c e he hc;simp only[happ,look]at he;rw[if_neg (Ne.symm hc)]at he;simp only at he;split at he
   ·cases he
   rename_i hd;simp only[List.mem_append,not_or]at hd;exact⟨he,hd.1,hd.2⟩
  have hself:happ {v:=.bot,set:=[(id,.row sz (es.set i bs))],del:=ds++dels} h id=some (.row sz (es.set i bs)):=by simp[happ,look]
  refine Q3C hexec (kk undef _ (mv ky g.o) g.ρ ⟨λb' hb'=>?_,λb' L hb'=>?_,W.os,W.tape,W.output,by simpa using W.size,λb' hb' hw=>?_⟩ ⟨λid' sz' es' bk he hbk=>?_,λid' sz' es' bk he hbk=>?_,λid' c i' k' s bk he hbk=>?_,λid' kd es' bk he hbk=>?_⟩ (λ_ _ h=>h) (λ_ _ h=>.inl h) .bot hRr);rotate_left 6
  ·have hne:id'≠id:=(by rintro rfl;rw[hself]at he;cases he);obtain⟨h1,h2,_⟩:=hold id' _ he hne;exact(H.map id' kd es' bk h1 hbk).move (λb hb=>⟨hb,hRr b hb⟩) λb' M q2=>⟨hsame b' id' M h2 q2,hoth b' (by rw[q2];intro h3;cases h3;exact hne rfl)⟩
  ·exact⟨by simpa using(W.R b' hb').1,Q72 (W.R b' hb').2⟩
  ·obtain⟨M,hM⟩:=Q1Y hb';exact⟨by simpa using(W.o b' M hM).1,(W.o b' M hM).2⟩
  ·rw[hoth b' (λh1=>by
    rcases(W.o b' _ h1).2 with h2|h2
    ·omega
    exact hw h2)]
   exact W.keep b' hb' hw
  ·have hne:id'≠id:=(by rintro rfl;rw[hself]at he;cases he);obtain⟨h1,h2,_⟩:=hold id' _ he hne;exact(H.mix id' sz' es' bk h1 hbk).mono hRr (λ_ _ h=>h) λb' hbo=>⟨hsame b' id' [] h2 hbo,hoth b' (by rw[hbo];intro h3;cases h3;exact hne rfl)⟩
  ·by_cases hne:id'=id
   ·subst hne;rw[hself]at he;cases he;rw[hb]at hbk;cases hbk;refine⟨.slice (some ⟨b0,0,none⟩) es.length cap0,?_,.own⟩;have:=TRel.own (w:=w.setRow b0 cur') (R:=g.R) (o:=mv ky g.o) (L:=[id']) (sz:=sz) (es:=es.set i bs) (cap:=cap0) (cur:=cur') (e:=el)
     (λj l=>if j=i then cs.getD l undef else us j l) (hsame _ id' [] hids a1) (setRow_heap w b0 cur cur' el (0,0) a2) (by rw[hnsz];exact a3) (by rw[hlen];exact a4) a5
     (λj hj=>by
      rw[hlen]at hj;rw[hset];split
      ·omega
      exact a6 j hj)
     (λj l hj hl=>by
      rw[hlen]at hj;rw[hnew]
      by_cases hji:j=i
      ·subst hji;rw[if_pos (by omega),if_pos rfl,show j*sz+l - j*sz=l by omega];have hl':l<cs.size:=(by omega);simp[hl']
      rw[if_neg hji,if_neg]
      ·exact a7 j l hj hl
      intro hq;have q1:=qM sz (show 1≤1 from qF _);rcases Nat.lt_or_gt_of_ne hji with q|q
      ·have:=qM sz (show j+1≤i by omega);rw[qT,Nat.one_mul]at this;omega
      have:=qM sz (show i+1≤j by omega);rw[qT,Nat.one_mul]at this;omega)
     (λj l hj hl=>by
      rw[hlen]at hj;split
      ·exact hcone l (by omega)
      exact a8 j l hj hl)
     (λj l hj hl=>by
      rw[hlen]at hj;rw[hset]
      by_cases hji:j=i
      ·subst hji;rw[if_pos rfl,if_pos rfl];exact hL l (by omega) _ _ hRr λp hp b' M hbo=>⟨Q6x (QQ hnk hp) hbo,hoth b' (by
        rw[hbo];intro h3;cases h3;exact hids (by rw[←hky];exact List.mem_map.2 ⟨p,hp,rfl⟩))⟩
      rw[if_neg hji,if_neg hji];exact(a9 j l hj hl).same λb' M hbo=>⟨hsame b' id' _ hids (by simpa using hbo),hoth b' (by rw[hbo];simp)⟩)
    rw[hlen]at this;exact this
   obtain⟨h1,h2,_⟩:=hold id' _ he hne;obtain⟨v,hv',hh⟩:=H.row id' sz' es' bk h1 hbk;exact⟨v,hv'.same λb' M hbo=>⟨hsame b' id' M h2 hbo,hoth b' (by rw[show g.o b'=some (id'::M) from hbo];intro h3;cases h3;exact hne rfl)⟩,hh⟩
  have hne:id'≠id:=by rintro rfl;rw[hself]at he;cases he
  obtain⟨h1,h2,h3⟩:=hold id' _ he hne;obtain⟨d0,r0,hr0,hl0⟩:=(halis id' c i' k' s (hlim id' bk hbk) h1).resolve_left h3;have hfree:∀d r,Vc.root h d c=some r→r≠id:=by
   intro d r hr;rw[←Q7a _ _ _ _ _ hr0 hr];exact hl0
  obtain⟨q1,bkc,q2,q3⟩:=H.ali id' c i' k' s bk h1 hbk;refine⟨q1,bkc,q2,λd szc esc hcc hmc hi' hk'=>?_⟩;obtain⟨hc1,e,hc2,hc3⟩:=Q7I (λc e he hc=>(hold c e he hc).1) d c _ hfree (by rw[hent];rfl) (by rw[hent];intro z zz hz;cases hz) (by rw[hself];rfl) (by rw[hent];intro z z1 z2 z3 hz;cases hz) hcc;have hmc':Qm (h c)=false:=by rw[hc3,←hc2];exact hmc
  obtain⟨bc,cur3,el3,v,h4,h5,h6,h7⟩:=q3 d szc esc hc1 hmc' hi' hk';obtain⟨_,v3,r,M,hroot,_,ht,hhd⟩:=Q5A H d c szc esc bkc hc1 hmc' q2;refine⟨bc,cur3,el3,v,h4,?_,h6,h7⟩;cases ht with
  |nil=>simp at hi'
  |own us2 hob=>
   cases hhd;cases h4;exact(hoth _ (by rw[hob];intro h8;cases h8;exact hfree d _ hroot rfl)).trans h5
theorem Q9A{f f':AV→Option (AV×List Nat)}(hf:∀a r,f a=some r→f' a=some r):∀(az:List AV) (r:List AV×List Nat),Q2F f az=some r→Q2F f' az=some r:=by
 intro az
 induction az with
 |nil=>intro r h;exact h
 |cons a az ih=>
  intro r hl;simp only[Q2F]at hl⊢;split at hl
  ·rename_i b d1 q ds hc hcs;rw[hf _ _ hc,ih _ hcs];exact hl
  cases hl
theorem StoG.up{h':HP}(hs:∀id x,h id=some x→h' id=some x)(hlt:∀id,id<n→h' id=h id){id i:Nat}{az bs:List AV}{sz:Nat}{es:List (List AV)}{ds dels:List Nat}(hS:StoG h n id i az bs sz es ds dels):StoG h' n id i az bs sz es ds dels:=by
 refine⟨hs _ _ hS.ent,Q9A (λ_ _ h=>Q8n hs h) _ _ hS.lay,hS.hi,hS.hs,hS.nodup,hS.lt,λid' c i' k' s hid he=>?_⟩;rw[hlt id' hid]at he;rcases hS.alis id' c i' k' s hid he with h1|⟨d,r,h1,h2⟩
 ·exact .inl h1
 exact .inr ⟨d,r,Q8z hs d c r h1,h2⟩
end
theorem HRel.growR{w:World}{g:Gh}{h:HP}(H:HRel w g h){R':Nat→Prop}(hR:∀b,g.R b→R' b):HRel w ⟨R',g.o,g.ρ⟩ h:=by
 refine⟨λid sz es bk he hb=>?_,λid sz es bk he hb=>?_,λid c i k sz bk he hb=>H.ali id c i k sz bk he hb,λid kd es bk he hb=>(H.map id kd es bk he hb).move (λb hb=>⟨hR b hb,rfl⟩) λb M h=>⟨h,rfl⟩⟩
 ·rcases(H.mix id sz es bk he hb).ex0 with h0|⟨b,cur,e,us,cp,h1,h2,h3,h4,h5,h5',h6,h7,h8,h9⟩
  ·exact⟨.inl h0⟩
  exact .mk' ⟨b,cur,e,us,cp,h1,h2,h3,h4,h5,h5',h6,h7,h8,λi k hi hk=>(h9 i k hi hk).mono (λb hb=>⟨hR b hb,rfl⟩) (λ_ _ h=>h)⟩
 obtain⟨v,hv,hh⟩:=H.row id sz es bk he hb;exact⟨v,hv.anyR,hh⟩
def AV.ro1:AV→Bool
 | .val _=>true
 | .lst _ _ _=>true
 | .rptr _=>true
 | .cmap _ _=>true
 | .cmapM _ _ _=>true
 |_=>false
def AV.ro:AV→Bool
 | .val _=>true
 | .lst _ _ _=>true
 | .rptr _=>true
 | .cmap _ _=>true
 | .cmapM _ _ _=>true
 | .fn _ cs=>cs.all AV.ro1
 |_=>false
theorem ro1_getD{az:List AV}(h:az.all AV.ro1=true){k:Nat}(hk:k<az.length):(az.getD k .bot).ro1=true:=by
 rw[qB,List.getElem?_eq_getElem hk];exact List.all_eq_true.1 h _ (List.getElem_mem hk)
theorem XRel.toR{w:World}{R:Nat→Prop}{ρ:Nat→Option Bk}{v:Value}{a:AV}(h:XRel w R ρ v a)(ha:a.ro=true):RRel w R v a:=by
 cases h with
 |r h=>exact h
 |@fn f cs az h1 h2=>
  refine .fn h1 λk hk=>?_;have h3:=h2 k hk;have h4:=ro1_getD ha hk;generalize az.getD k .bot=a at h3 h4⊢;generalize cs.getD k undef=v at h3⊢;cases h3 with
  |r h=>exact h
  |_=>cases h4
 |_=>cases ha
section
variable {P:Program}{C:Ctx}{a:Act}{w:World}{g:Gh}{h:HP}{n:Nat}{e:Eff}{c:Prop}{ev:Operand→AV}
theorem WF.allocR(W:WF C w g)(ob:Obj):WF C (w.alloc ob) ⟨λb=>g.R b∨b=w.heap.size,g.o,g.ρ⟩:=by
 refine⟨λb hb=>?_,λb M hb=>?_,W.os,W.tape,W.output,?_,λb hb hw=>?_⟩
 ·rcases hb with hb|rfl
  ·have:=W.R b hb;exact⟨by simp;omega,this.2⟩
  refine⟨by simp,?_⟩;show g.o w.heap.size=none;cases ho:g.o w.heap.size with
  |none=>rfl
  |some L=>have:=(W.o _ L ho).1;omega
 ·have:=W.o b M hb;exact⟨by simp;omega,this.2⟩
 ·simp;have:=W.size;omega
 rw[Q1m _ _ (by have:=W.size;omega)];exact W.keep b hb hw
def AV.shr:AV→Bool
 | .agg _=>true
 |y=>y.ro
def boxr(x:AV):Option (Prop×Eff):=
 if x.cells.all AV.ro&&x.shr then some (True,{v:=.rptr x.cells})else none
theorem step_boxr(hev:∀x,XRel w g.R g.ρ (a.eval x) (ev x))(W:WF C w g)(H:HRel w g h){o:Oper}{t:TypeId}{x:Operand}(ho:o.op= .box t x)(he:boxr (ev x)=some (c,e)):Step P C o a w g h n e:=by
 have hx:=hev x;have hrun:(execOp a.eval o).run P w= .ok (.value (.pointer (some ⟨w.heap.size,0,none⟩))) (w.alloc (.cells (a.eval x).cells t)):=by
   simp[execOp,ho,Instr.box,newVar,newRow]
 unfold boxr at he;split at he
 case isFalse=>cases he
 rename_i hro;simp only[qA,qC]at he;obtain⟨_,rfl⟩:=he;simp only[Bool.and_eq_true,List.all_eq_true]at hro;obtain⟨hro,hsh⟩:=hro;have key:(a.eval x).cells.size=(ev x).cells.length∧(∀k,k<(ev x).cells.length→one ((a.eval x).cells.getD k undef))∧(∀k,k<(ev x).cells.length→RRel w g.R ((a.eval x).cells.getD k undef) ((ev x).cells.getD k .bot)):=by
   have memD:∀k,k<(ev x).cells.length→(ev x).cells.getD k .bot∈(ev x).cells:=λk hk=>by
     simp[qB,List.getElem?_eq_getElem hk]
   generalize hax:ev x=ax at hx hro hsh memD;cases ax with
   | agg az =>
     obtain⟨cs,hv,hl,h1,h2⟩:=hx.agg_eq;rw[hv];exact⟨hl,h1,λk hk=>(h2 k hk).toR (hro _ (memD k hk))⟩
   | _ =>
     first
       |(cases hsh;done)
       | (have hr:=hx.toR hsh
          have h1:=hr.one;have hc:(a.eval x).cells=#[a.eval x]:=(by revert h1;unfold one Value.oneCell';cases a.eval x<;>simp[Value.cells]);rw[hc];refine⟨rfl,λk hk=>?_,λk hk=>?_⟩
          · have:k=0:=by simpa [AV.cells] using hk
            subst this;exact h1
          have:k=0:=(by simpa[AV.cells]using hk);subst this;exact hr)
 obtain⟨hl,h1,h2⟩:=key;intro K Q k;have hold:∀b,g.R b→(w.alloc (.cells (a.eval x).cells t)).heap[b]? =w.heap[b]?:=λb hb=>Q1m _ _ (W.R b hb).1;refine Q2a hrun (k _ _ (λb=>g.R b∨b=w.heap.size) g.o g.ρ ⟨λb hb=>.inl hb,λb hb=>hb.imp id λhb=>by rw[hb];exact W.size⟩ (W.allocR _) ?_ (λ_ _ h=>h) (λ_ _ h=>.inl h) ?_ hold)
 · rw [QH rfl rfl]
   have H2:HRel (w.alloc (.cells (a.eval x).cells t)) ⟨g.R,g.o,g.ρ⟩ h:=H.mono hold (λb L hb=>⟨hb,Q1m _ _ (W.o b L hb).1⟩) (λ_ _ h=>h)
     (λid sz es bk _ h1 h2=>by rw[h1]at h2;cases h2) (λid sz es bk _ h1 h2=>by rw[h1]at h2;cases h2) (λid c i k sz bk _ h1 h2=>by rw[h1]at h2;cases h2)
   exact H2.growR λb hb=>.inl hb
 refine .r (.rptr (λk=>(a.eval x).cells.getD k undef) (.inr rfl) (Q2h _ _) (λk hk=>?_) h1 λk hk=>(h2 k hk).mono λb hb=>⟨.inl hb,hold b hb⟩);have:k<(a.eval x).cells.size:=by omega
 simp[this]
structure FContract(P:Program)(keep:Bool)(f:Nat)(args:List AV)(res:AV):Prop where
 enters:∃fn,P.funcs[f]? =some fn∧(fn.name=="runtime.NumGoroutine")=false∧fn.body.isSome=true
 calls:∀(w:World) (R:Nat→Prop) (vals:Array Value),(∀b,R b→b<w.heap.size)→vals.size=args.length→(∀k,k<args.length→XRel w R noρ (vals.getD k undef) (args.getD k .bot))→
  Callz P f vals w λe w'=>∃v R',e= .returned v∧Blw w.heap.size w w'∧(∀b,R' b→b<w'.heap.size∧((keep=true∧R b)∨w.heap.size≤b))∧XRel w' R' noρ v res
theorem noH(w:World)(R:Nat→Prop)(ρ:Nat→Option Bk):HRel w ⟨R,λ_=>none,ρ⟩ λ_=>none:=
 ⟨(λid sz es bk h _=>by cases h),(λid sz es bk h _=>by cases h),(λid c i k sz bk h _=>by cases h),(λid kd es bk h _=>by cases h)⟩
def keepH(keep:Bool)(h:HP):HP:=if keep then λ_=>none else h
theorem Q4B(hev:∀x,XRel w g.R g.ρ (a.eval x) (ev x)){args:Array Operand}{cs:Array Value}{caps:List AV}(hcl:cs.size=caps.length)(hcr:∀k,k<caps.length→XRel w g.R g.ρ (cs.getD k undef) (caps.getD k .bot)):
  (args.map a.eval++cs).size=(args.toList.map ev++caps).length∧∀j,j<(args.toList.map ev++caps).length→XRel w g.R g.ρ ((args.map a.eval++cs).getD j undef) ((args.toList.map ev++caps).getD j .bot):=by
 refine⟨by simp;omega,λj hj'=>?_⟩
 by_cases hlt:j<args.size
 ·have h1:(args.map a.eval++cs).getD j undef=a.eval (args[j]):=by
   simp[zJ,hlt]
  have h2:(args.toList.map ev++caps).getD j .bot=ev (args[j]):=by
   simp[qB,zK,hlt]
  rw[h1,h2];exact hev _
 have hjc:j - args.size<caps.length:=by simp at hj';omega
 have h1:(args.map a.eval++cs).getD j undef=cs.getD (j - args.size) undef:=by
  simp[zJ,hlt]
 have h2:(args.toList.map ev++caps).getD j .bot=caps.getD (j - args.size) .bot:=by
  simp[qB,zK,hlt]
 rw[h1,h2];exact hcr _ hjc
theorem Q4C(hev:∀x,XRel w g.R g.ρ (a.eval x) (ev x)){args:Array Operand}{cs:Array Value}{rs:List AV}(hcl:cs.size=rs.length)(hcr:∀k,k<rs.length→XRel w g.R g.ρ (cs.getD k undef) (rs.getD k .bot)):
  (cs++args.map a.eval).size=(rs++args.toList.map ev).length∧∀j,j<(rs++args.toList.map ev).length→XRel w g.R g.ρ ((cs++args.map a.eval).getD j undef) ((rs++args.toList.map ev).getD j .bot):=by
 refine⟨by simp;omega,λj hj'=>?_⟩
 by_cases hlt:j<cs.size
 ·have h1:(cs++args.map a.eval).getD j undef=cs.getD j undef:=by
   simp[zJ,hlt]
  have h2:(rs++args.toList.map ev).getD j .bot=rs.getD j .bot:=by
   simp[qB,zK,show j<rs.length by omega]
  rw[h1,h2];exact hcr _ (by omega)
 have hjc:j - rs.length<args.size:=by simp at hj';omega
 have h1:(cs++args.map a.eval).getD j undef=a.eval (args[j - rs.length]):=by
  simp[zJ,hcl,show¬j<rs.length by omega,hjc]
 have h2:(rs++args.toList.map ev).getD j .bot=ev (args[j - rs.length]):=by
  simp[qB,zK,show¬j<rs.length by omega,hjc]
 rw[h1,h2];exact hev _
theorem Q67(W:WF C w g)(H:HRel w g h){o:Oper}{f:Nat}{vals:Array Value}{az bs:List AV}{res:AV}{keep:Bool}(hrun:(execOp a.eval o).run P w= .ok (.enter f vals) w)(hvs:vals.size=az.length)(hva:∀j,j<az.length→XRel w g.R g.ρ (vals.getD j undef) (az.getD j .bot))(hp:az.length=bs.length∧∀k,k<az.length→PurTo (keepH keep h) (az.getD k .bot) (bs.getD k .bot))(hcon:FContract P keep f bs res):Step P C o a w g h n {v:=res}:=by
 intro K Q k;obtain⟨hpl,hpk⟩:=hp
 let RR:Nat→Prop:=if keep then g.R else RAll g
 have hRR:∀b,RR b→b<w.heap.size:=λb hb=>by
  cases keep with
  |true=>exact(W.R b hb).1
  |false=>
   rcases(show RAll g b from hb)with hb|⟨L,hb⟩
   ·exact(W.R b hb).1
   exact(W.o b L hb).1
 have hpur:∀{v av bv},PurTo (keepH keep h) av bv→XRel w g.R g.ρ v av→XRel w RR noρ v bv:=by
  intro v av bv h1 h2;cases keep with
  |true=>exact((Q5Z (noH w g.R g.ρ) h1 h2).1).mono (λb hb=>⟨hb.elim id λ⟨L,hL⟩=>(by cases hL),rfl⟩) λ_ _ h=>h
  |false=>exact(Q5Z H h1 h2).1
 have hargs:=hcon.calls w RR vals hRR (by omega) (λj hj=>hpur (hpk j (by omega)) (hva j (by omega)));unfold Oper.wpU;rw[hrun,Oper.uponU_enter];refine⟨rfl,?_⟩;refine hargs.mono λe w' ⟨v,R1,he,hb,hR1,hres⟩=>?_;subst he;have hlow:∀b,b<w.heap.size→w'.heap[b]? =w.heap[b]?:=λb hb'=>hb.block b hb';have hR2:∀b,R1 b→b<w'.heap.size∧(g.R b∨w.heap.size≤b):=λb hb'=>by
  obtain⟨q1,q2⟩:=hR1 b hb';refine⟨q1,?_⟩;rcases q2 with⟨rfl,q2⟩|q2
  ·exact .inl q2
  exact .inr q2
 have hon:∀b,w.heap.size≤b→g.o b=none:=λb hb'=>by
  cases ho:g.o b with
  |none=>rfl
  |some L=>have:=(W.o _ L ho).1;omega
 refine k v w' (λb=>g.R b∨R1 b) g.o g.ρ ⟨λb hb'=>.inl hb',λb hb'=>?_⟩ ⟨λb hb'=>?_,λb L hb'=>?_,hb.os.trans W.os,tpt hb.tape W.tape,hb.output.trans W.output,qK W.size hb.size,λb hb' hw=>?_⟩ ?_ (λ_ _ h=>h) (λ_ _ h=>.inl h) ?_ (λb hb'=>hlow b (W.R b hb').1)
 ·rcases hb' with hb'|hb'
  ·exact .inl hb'
  rcases(hR2 b hb').2 with h|h
  ·exact .inl h
  exact .inr (qK W.size h)
 ·rcases hb' with hb'|hb'
  ·have:=W.R b hb';exact⟨Nat.lt_of_lt_of_le this.1 hb.size,this.2⟩
  obtain⟨q1,q2⟩:=hR2 b hb';refine⟨q1,?_⟩;rcases q2 with q2|q2
  ·exact(W.R b q2).2
  exact hon b q2
 ·have:=W.o b L hb';exact⟨Nat.lt_of_lt_of_le this.1 hb.size,this.2⟩
 ·rw[hlow b (by have:=W.size;omega)];exact W.keep b hb' hw
 ·rw[QH rfl rfl];have H2:HRel w' ⟨g.R,g.o,g.ρ⟩ h:=H.mono (λb hb'=>hlow b (W.R b hb').1) (λb L hb'=>⟨hb',hlow b (W.o b L hb').1⟩) (λ_ _ h=>h)
   (λid sz es bk _ h1 h2=>by rw[h1]at h2;cases h2) (λid sz es bk _ h1 h2=>by rw[h1]at h2;cases h2) (λid c i k sz bk _ h1 h2=>by rw[h1]at h2;cases h2)
  exact H2.growR λb hb=>.inl hb
 exact hres.mono (λb hb'=>⟨.inr hb',rfl⟩) λid k hk=>by cases hk
def srcM(h:HP)(sz:Nat)(x:AV):Option (Prop×List (List AV)):=
 match x with
 | .val (.slice none 0 0)=>some (True,[])
 | .lst _ sz' es=>if sz'=sz then some (True,es)else none
 | .own id off n=>match h id with
  |some (.mix sz' es)=>if sz'=sz then some (off+n≤es.length,(es.drop off).take n)else none
  |_=>none
 |_=>none
def Q6h(h:HP)(sz:Nat)(s:AV):Option (Prop×List (List AV)×List Nat):=
 match s with
 | .val (.slice none 0 0)=>some (True,[],[])
 | .own id 0 m=>match h id with
  |some (.mix sz' es)=>if sz'=sz then some (m=es.length,es,[id])else none
  |_=>none
 |_=>none
def appM(ty:Option Tyi)(s x:AV)(h:HP)(n:Nat):Option (Prop×Eff):=
 match ty with
 |some t=>match Q6h h t.sz s,srcM h t.sz x with
  |some (c1,es,i),some (c2,news)=>
   some ((0<news.length∨i≠[])∧n∉i∧c1∧c2∧(es.length+news.length)*t.bytes≤140737488355328∧es.length+news.length≤140737488355328∧0<t.sz,
    {v:=.own n 0 (es.length+news.length),del:=i,new:=[(n,.mix t.sz (es++news))],cnt:=1})
  |_,_=>none
 |none=>none
def sty(P:Program)(t:TypeId):Bool:=match P.underlying t with
 |some (.struct _)=>true
 |_=>false
theorem sty_eq{P:Program}{t:TypeId}(h:sty P t=true):∃fs,P.underlying t=some (.struct fs):=by
 unfold sty at h;split at h
 ·exact⟨_,by assumption⟩
 cases h
def slt(P:Program)(t:TypeId):Bool:=match P.underlying t with
 |some (.slice _)=>true
 |_=>false
theorem slt_eq{P:Program}{t:TypeId}(h:slt P t=true):∃e,P.underlying t=some (.slice e):=by
 unfold slt at h;split at h
 ·exact⟨_,by assumption⟩
 cases h
def mth(P:Program)(t:TypeId)(name:String):Option Nat:=match P.info? t with
 |some ti=>match ti.methods.find? (·.name==name)with
  |some m=>match m.path.toList,m.func with
   |[],some (f,false)=>if sty P t||slt P t then some f else none
   |_,_=>none
  |none=>none
 |none=>none
theorem Q9T(hev:∀x,XRel w g.R g.ρ (a.eval x) (ev x))(W:WF C w g)(H:HRel w g h){o:Oper}{cl:Call}{x:Operand}{f:Nat}{caps bs:List AV}{res:AV}{keep:Bool}(ho:o.op= .call cl)(hc:cl.callee= .value x)(hx:ev x= .fn f caps)(hp:(cl.args.toList.map ev++caps).length=bs.length∧∀k,k<(cl.args.toList.map ev++caps).length→PurTo (keepH keep h) ((cl.args.toList.map ev++caps).getD k .bot) (bs.getD k .bot))(hcon:FContract P keep f bs res):Step P C o a w g h n {v:=res}:=by
 have hxx:=hev x;rw[hx]at hxx;obtain⟨cs,hxv,hcl,hcr⟩:=hxx.fn_eq;obtain⟨fn,e1,e2,e3⟩:=hcon.enters;have hrun:(execOp a.eval o).run P w= .ok (.enter f (cl.args.map a.eval++cs)) w:=by
  obtain⟨body,e3'⟩:=Option.isSome_iff_exists.1 e3;have e2':fn.name≠"runtime.NumGoroutine" :=by simpa using e2
  simp[execOp,ho,resolve,hc,hxv,Deferred.ofValue,invoke,callFunc,e1,e2',e3']
 exact Q67 W H hrun (Q4B hev hcl hcr).1 (Q4B hev hcl hcr).2 hp hcon
theorem Q8F(hev:∀x,XRel w g.R g.ρ (a.eval x) (ev x))(W:WF C w g)(H:HRel w g h){o:Oper}{cl:Call}{x:Operand}{f:Nat}{caps bs:List AV}{res:AV}{keep:Bool}(ho:o.op= .call cl)(hc:cl.callee= .value x)(hx:ev x= .bnd f caps)(hp:(caps++cl.args.toList.map ev).length=bs.length∧∀k,k<(caps++cl.args.toList.map ev).length→PurTo (keepH keep h) ((caps++cl.args.toList.map ev).getD k .bot) (bs.getD k .bot))(hcon:FContract P keep f bs res):Step P C o a w g h n {v:=res}:=by
 have hxx:=hev x;rw[hx]at hxx;obtain⟨cs,hxv,hcl,hcr⟩:=hxx.bnd_eq;obtain⟨fn,e1,e2,e3⟩:=hcon.enters;have hrun:(execOp a.eval o).run P w= .ok (.enter f (cs++cl.args.map a.eval)) w:=by
  obtain⟨body,e3'⟩:=Option.isSome_iff_exists.1 e3;have e2':fn.name≠"runtime.NumGoroutine" :=by simpa using e2
  simp[execOp,ho,resolve,hc,hxv,Deferred.ofValue,invoke,callFunc,e1,e2',e3']
 exact Q67 W H hrun (Q4C hev hcl hcr).1 (Q4C hev hcl hcr).2 hp hcon
theorem srcM_rel(H:HRel w g h){sz:Nat}{av:AV}{xv:Value}{cn:Prop}{es:List (List AV)}(hs:srcM h sz av=some (cn,es))(hc:cn)(hx:XRel w g.R g.ρ xv av):
  ∃ad cx,∃us:Nat→Nat→Value,xv= .slice ad es.length cx∧(∀j,j<es.length→(es.getD j []).length=sz)∧
   (∀j k,j<es.length→k<sz→∃b x0,ad=some ⟨b,x0,none⟩∧w.cell? ⟨b,x0+(j*sz+k),none⟩=some (us j k))∧(∀j k,j<es.length→k<sz→one (us j k))∧
   ∀j k,j<es.length→k<sz→XRel w g.R g.ρ (us j k) ((es.getD j []).getD k .bot):=by
 unfold srcM at hs;split at hs
 ·simp only[qA,qC]at hs;obtain⟨rfl,rfl⟩:=hs;obtain⟨rfl,_⟩:=hx.val_eq;exact⟨none,0,λ_ _=>undef,rfl,λj hj=>by simp at hj,λj k hj=>by simp at hj,λj k hj=>by simp at hj,λj k hj=>by simp at hj⟩
 ·rename_i u sz' es';split at hs
  ·rename_i hsz;subst hsz;simp only[qA,qC]at hs;obtain⟨rfl,rfl⟩:=hs;have hx:=hx.lst_eq;cases hx with
   |nil=>exact⟨_,_,λ_ _=>undef,rfl,λj hj=>by simp at hj,λj k hj=>by simp at hj,λj k hj=>by simp at hj,λj k hj=>by simp at hj⟩
   |@lst _ _ _ b x0 cap cur el fr us hR hh h5 h6 h7 h8 h9 h10=>
    refine⟨_,_,us,rfl,h7,λj k hj hk=>⟨b,x0,rfl,?_⟩,h9,λj k hj hk=>.r (h10 j k hj hk)⟩;rw[Q1I hh,←Nat.add_assoc];exact h8 j k hj hk
  simp at hs
 ·rename_i id off m;split at hs
  ·rename_i sz' es' hent;split at hs
   ·rename_i hsz;subst hsz;simp only[qA,qC]at hs;obtain⟨rfl,rfl⟩:=hs;have hpl:=Q3K es' off m hc;rcases hx.own_eq with⟨s0,c0,hb,hv,_,rfl⟩|⟨b,bsz,cap,cc,x0,hb,hv,h5,h6,h7,h8,h9⟩
    ·rw[List.take_zero];exact⟨none,0,λ_ _=>undef,hv,λj hj=>by simp at hj,λj k hj=>by simp at hj,λj k hj=>by simp at hj,λj k hj=>by simp at hj⟩
    obtain⟨b',cur,el,us,cpm,hbk,ho',hh,hszc,hcp,hml,hl,hcur,h1,hxr⟩:=(H.mix id _ _ _ hent hb).ex (by simp);simp only[Bk.mk.injEq,qA]at hbk;obtain⟨rfl,rfl,_⟩:=hbk;refine⟨some ⟨b,x0,none⟩,cc,λj k=>us (off+j) k,by rw[hv,hpl],λj hj=>?_,λj k hj hk=>⟨b,x0,rfl,?_⟩,λj k hj hk=>?_,λj k hj hk=>?_⟩
    ·rw[hpl]at hj;rw[Q2G _ _ _ _ hj];exact hl _ (by omega)
    ·rw[hpl]at hj;rw[h7 (by omega),Q1I hh,←Nat.add_assoc,←qT];exact hcur (off+j) k (by omega) hk
    ·rw[hpl]at hj;exact h1 _ _ (by omega) hk
    rw[hpl]at hj;rw[Q2G _ _ _ _ hj];exact hxr _ _ (by omega) hk
   simp at hs
  simp at hs
 simp at hs
theorem baseM_rel(H:HRel w g h){sz:Nat}{av:AV}{sv:Value}{cn:Prop}{es:List (List AV)}{i0:List Nat}(hs:Q6h h sz av=some (cn,es,i0))(hc:cn)(hx:XRel w g.R g.ρ sv av):
  ∃bo cap cur el,∃us:Nat→Nat→Value,sv= .slice (bo.map λb=>⟨b,0,none⟩) es.length cap∧(∀b,bo=some b→w.heap[b]? =some (.cells cur el (0,0))∧cap*sz≤cur.size∧∃id,i0=[id]∧g.o b=some [id])∧
   (bo=none→es.length=0∧cap=0)∧es.length≤cap∧cap≤maxLen∧(∀j,j<es.length→(es.getD j []).length=sz)∧
   (∀j k,j<es.length→k<sz→cur[j*sz+k]? =some (us j k))∧(∀j k,j<es.length→k<sz→one (us j k))∧
   ∀j k,j<es.length→k<sz→XRel w g.R g.ρ (us j k) ((es.getD j []).getD k .bot):=by
 unfold Q6h at hs;split at hs
 ·simp only[qA,qC]at hs;obtain⟨rfl,rfl,rfl⟩:=hs;obtain⟨rfl,_⟩:=hx.val_eq;exact⟨none,0,#[],0,λ_ _=>undef,rfl,by simp,by simp,by simp,by simp,by simp,by simp,by simp,by simp⟩
 ·rename_i id m;split at hs
  ·rename_i sz' es' hent;split at hs
   ·rename_i hsz;subst hsz;simp only[qA,qC]at hs;obtain⟨rfl,rfl,rfl⟩:=hs;rcases hx.own_eq with⟨s0,c0,hb,hv,_,h0⟩|⟨b,bsz,cap,cc,x0,hb,hv,h5,h6,h7,h8,h9⟩
    ·have he0:es'=[]:=qQ (by omega);subst he0;exact⟨none,0,#[],0,λ_ _=>undef,hv,by simp,by simp,by simp,by simp,by simp,by simp,by simp,by simp⟩
    have hx0:=h8 rfl;subst hx0;obtain⟨b',cur,el,us,cpm,hbk,ho',hh,hszc,hcp,hml,hl,hcur,h1,hxr⟩:=(H.mix id _ _ _ hent hb).ex (by simp);simp only[Bk.mk.injEq,qA]at hbk;obtain⟨rfl,rfl,rfl⟩:=hbk;exact⟨some b,cc,cur,el,us,by rw[hv,hc];rfl,λb' hb'=>by cases hb';exact⟨hh,qK (qM _ (by omega)) hszc,id,rfl,ho'⟩,by simp,by omega,by omega,hl,hcur,h1,hxr⟩
   simp at hs
  simp at hs
 simp at hs
theorem move_finM(W:WF C w g)(H:HRel w g h){ky:List (Nat×List Nat)}{sz:Nat}{es:List (List AV)}{bk:Bk}{w':World}{o':Nat→Option (List Nat)}(hn:h n=some (.mix sz es))(hρ:g.ρ n=none)(hnk:n∉ky.map qE)(hos:w'.os=w.os)(htape:w'.tape=w.tape∧w.drawn≤w'.drawn)(hout:w'.output=w.output)(hsize:w.heap.size≤w'.heap.size)(hlab:∀b,b<w.heap.size→(∃x,g.o b=some [x]∧x∈ky.map qE)∨w'.heap[b]? =w.heap[b]?)(ho:∀b,b<w.heap.size→o' b=mv ky g.o b)(ho2:∀b L,o' b=some L→b<w'.heap.size)(hmix:MixRel w' ⟨g.R,o',upd g.ρ n bk⟩ n bk sz es):
  WF C w' ⟨g.R,o',upd g.ρ n bk⟩∧HRel w' ⟨g.R,o',upd g.ρ n bk⟩ (λid=>if id∈ky.map qE then none else h id)∧(∀b,g.R b→w'.heap[b]? =w.heap[b]?):=by
 have hR:∀b,g.R b→w'.heap[b]? =w.heap[b]?:=by
  intro b hb;obtain⟨h1,h2⟩:=W.R b hb;rcases hlab b h1 with⟨x,hx,_⟩|h'
  ·rw[h2]at hx;cases hx
  exact h'
 have hother:∀b x M,x∉ky.map qE→g.o b=some (x::M)→o' b=some (x::M)∧w'.heap[b]? =w.heap[b]?:=by
  intro b x M hx hb;have hlt:=(W.o b _ hb).1;refine⟨by rw[ho b hlt];exact Q5D (Q3q hx) hb,?_⟩;rcases hlab b hlt with⟨y,hy,hy2⟩|h'
  ·rw[hb]at hy;cases hy;exact absurd hy2 hx
  exact h'
 have hρ':∀id k,g.ρ id=some k→upd g.ρ n bk id=some k:=by
  intro id k hk;simp only[upd];rw[if_neg (by rintro rfl;rw[hρ]at hk;cases hk)];exact hk
 have hback:∀id k,id≠n→upd g.ρ n bk id=some k→g.ρ id=some k:=by
  intro id k hne hk;simp only[upd]at hk;rw[if_neg hne]at hk;exact hk
 have hsub:∀id e,(λid=>if id∈ky.map qE then none else h id) id=some e→h id=some e:=by
  intro id e he;simp only at he;split at he
  ·cases he
  exact he
 refine⟨⟨λb hb=>⟨?_,?_⟩,λb L hb=>?_,hos.trans W.os,tpt htape W.tape,hout.trans W.output,qK W.size hsize,λb hb hw=>?_⟩,⟨λid s es' bk' he hb=>?_,λid s es' bk' he hb=>?_,λid c i k s bk' he hb=>?_,λid kd es' bk' he hb=>?_⟩,hR⟩;rotate_left 7
 ·have he':=hsub _ _ he;have hid:id≠n:=by rintro rfl;rw[hn]at he';cases he'
  have hnot:id∉ky.map qE:=by intro hin;simp[hin]at he
  exact(H.map id kd es' bk' he' (hback _ _ hid hb)).move (λb hb=>⟨hb,hR b hb⟩) λb M h2=>hother b id M hnot h2
 ·have:=(W.R b hb).1;omega
 ·show o' b=none;rw[ho b (W.R b hb).1];exact Q72 (W.R b hb).2
 ·have hb':o' b=some L:=hb;refine⟨ho2 b L hb',?_⟩
  by_cases hlt:b<w.heap.size
  ·rw[ho b hlt]at hb';obtain⟨M,hM⟩:=Q1Y hb';exact(W.o b M hM).2
  left;have:=W.size;omega
 ·have hlt:b<w.heap.size:=by have:=W.size;omega
  rcases hlab b hlt with⟨x,hx,_⟩|h'
  ·rcases(W.o b _ hx).2 with h''|h''
   ·omega
   exact absurd h'' hw
  rw[h'];exact W.keep b hb hw
 ·have he':=hsub _ _ he
  by_cases hid:id=n
  ·subst hid;rw[hn]at he';simp only[qA,Ent.mix.injEq]at he';obtain⟨rfl,rfl⟩:=he';have hb':upd g.ρ id bk id=some bk':=hb;simp[upd]at hb';subst hb';exact hmix
  have hnot:id∉ky.map qE:=by intro hin;simp[hin]at he
  exact(H.mix id s es' bk' he' (hback _ _ hid hb)).mono hR hρ' λb hb=>hother b id [] hnot hb
 ·have he':=hsub _ _ he;have hid:id≠n:=by rintro rfl;rw[hn]at he';cases he'
  have hnot:id∉ky.map qE:=by intro hin;simp[hin]at he
  obtain⟨v',hv',hh'⟩:=H.row id s es' bk' he' (hback _ _ hid hb);exact⟨v',hv'.same λb M hb=>hother b id M hnot hb,hh'⟩
 have he':=hsub _ _ he;have hid:id≠n:=by rintro rfl;rw[hn]at he';cases he'
 obtain⟨h1,bkc,h2,h3⟩:=H.ali id c i k s bk' he' (hback _ _ hid hb);refine⟨h1,bkc,hρ' _ _ h2,λd szc esc hcc hmc hi hk=>?_⟩;obtain⟨hco,r,hr1,hr2,hr3⟩:=Q6O hsub d c _ hcc;have hmc':Qm (h c)=false:=by
  cases hcs:(λid=>if id∈ky.map qE then none else h id) c with
  |none=>
   cases d with
   |zero=>simp[cont]at hcc
   |succ d=>simp only at hcs;simp[cont,hcs]at hcc
  |some ec=>
   have:=hsub c ec hcs;rw[this];have hmc2:Qm ((λid=>if id∈ky.map qE then none else h id) c)=false:=hmc;rw[hcs]at hmc2;exact hmc2
 obtain⟨bc,cur,el,v',h4,h5,h6,h7⟩:=h3 d szc esc hco hmc' hi hk;obtain⟨_,v3,r3,M3,hroot,_,ht,hhd⟩:=Q2A H d c szc esc bkc hco hmc' h2;have hne:esc≠[]:=by rintro rfl;simp at hi
 have hhd:=hhd.resolve_right hne;rw[hroot]at hr2;cases hr2;refine⟨bc,cur,el,v',h4,?_,h6,h7⟩;have hrn:r∉ky.map qE:=by intro hin;simp[hin]at hr3
 cases ht with
 |nil=>exact absurd rfl hne
 |own us hob=>
  cases hhd;cases h4;exact(hother _ _ _ hrn hob).2.trans h5
theorem step_appM(hev:∀x,XRel w g.R g.ρ (a.eval x) (ev x))(W:WF C w g)(H:HRel w g h)(hnew:∀p∈e.new,h p.1=some p.2)(hfr:∀id,n≤id→id<n+e.cnt→g.ρ id=none){o:Oper}{t et:TypeId}{s x:Operand}(ho:o.op= .call {callee:=.builtin .append,args:=#[s,x],argTypes:=#[t,t]})(ht:elm P t=some et)(he:appM (tyi P et) (ev s) (ev x) h n=some (c,e))(hc:c):StepR P C o a w g h n e:=by
 have hu:=Q2T ht;unfold appM at he;split at he
 case h_2=>cases he
 rename_i ty hty;obtain⟨inf,d,z,h1,h2,h3,h4,hsc,h5,_⟩:=Q1V hty;subst h4;split at he
 case h_2=>cases he
 rename_i c1 es i0 c2 news hbase hsrc;simp only at hbase hsrc;simp only[qA,qC]at he;obtain⟨rfl,rfl⟩:=he;obtain⟨hne0,hni,hc1,hc2,hby,hlen,hpos⟩:=hc;have hby':(es.length+news.length)*inf.bytes≤140737488355328:=hby
 have hpos':0<inf.size:=hpos;obtain⟨bo,cap,cur,el,us,hsv,hb1,hb2,hb3,hb4,hb5,hb6,hb7,hb8⟩:=baseM_rel H hbase hc1 (hev s);obtain⟨ad,cx,us2,hxv,hs1,hs2,hs3,hs4⟩:=srcM_rel H hsrc hc2 (hev x)
 let nl:List Value:=(List.range (news.length*inf.size)).map λq=>us2 (q / inf.size) (q % inf.size)
 have hqd:∀q,q<news.length*inf.size→q / inf.size<news.length∧q % inf.size<inf.size∧q / inf.size*inf.size+q % inf.size=q:=by
  intro q hq;refine⟨Nat.div_lt_of_lt_mul (by rw[Nat.mul_comm];exact hq),Nat.mod_lt _ hpos',?_⟩;have:=Nat.div_add_mod q inf.size;rw[Nat.mul_comm]at this;exact this
 have hnlg:∀q,q<news.length*inf.size→nl[q]? =some (us2 (q / inf.size) (q % inf.size)):=by
  intro q hq;simp[nl,hq]
 have hnll:nl.length=news.length*inf.size:=by simp[nl]
 obtain⟨v,w',hrun,hres⟩:=Q6E (P:=P) (w:=w) (ty:=o.type) hu h1 h3 h5 bo es.length cap cur el (λb hb=>⟨(hb1 b hb).1,(hb1 b hb).2.1⟩) (λhb=>⟨(hb2 hb).1,(hb2 hb).2⟩) hb3 ad news.length cx nl hnll
  (λq u hq=>by
   have hlt:q<news.length*inf.size:=by
    rcases Nat.lt_or_ge q nl.length with h'|h'
    ·omega
    rw[List.getElem?_eq_none h']at hq;cases hq
   obtain⟨e1,e2,e3⟩:=hqd q hlt;obtain⟨b,x0,g1,g2⟩:=hs2 _ _ e1 e2;rw[hnlg q hlt]at hq;cases hq;exact⟨b,x0,g1,by rw[←e3];simpa[e3]using g2⟩)
  (λu hu=>by
   obtain⟨q,hq,rfl⟩:=List.mem_map.1 hu;obtain⟨e1,e2,_⟩:=hqd q (by simpa using hq);exact hs3 _ _ e1 e2) hpos' hby' hlen hb4
 have hexec:(execOp a.eval o).run P w= .ok (.value v) w':=by
  simp[execOp,ho,resolve,invoke,builtin,hsv,hxv,hrun]
 let ky:List (Nat×List Nat):=i0.map λid=>(id,[n])
 have hkyf:ky.map qE=i0:=by simp[ky,Function.comp_def]
 have hnk:n∉ky.map qE:=by rw[hkyf];exact hni
 have hn:h n=some (.mix inf.size (es++news)):=hnew (n,_) (by simp);have hρ:g.ρ n=none:=hfr n (qF _) (by simp);have hρ':∀bk id k,g.ρ id=some k→upd g.ρ n bk id=some k:=by
  intro bk id k hk;simp only[upd];rw[if_neg (by rintro rfl;rw[hρ]at hk;cases hk)];exact hk
 have hones:∀j k,j<(es++news).length→k<inf.size→one (if j<es.length then us j k else us2 (j - es.length) k):=by
  intro j k hj hk;simp only[qD]at hj;split
  ·rename_i hje;exact hb7 j k hje hk
  exact hs3 _ _ (by omega) hk
 have hlens:∀j,j<(es++news).length→((es++news).getD j []).length=inf.size:=by
  intro j hj;simp only[qD]at hj
  by_cases hje:j<es.length
  ·have:=hb5 j hje;simpa[qB,List.getElem?_append_left hje]using this
  have:=hs1 (j - es.length) (by omega);simpa[qB,List.getElem?_append_right (show es.length≤j by omega)]using this
 have hcells:∀(cur':Array Value),(∀q,q<es.length*inf.size→cur'[q]? =cur[q]?)→(∀q,q<news.length*inf.size→cur'[es.length*inf.size+q]? =nl[q]?)→
   ∀j k,j<(es++news).length→k<inf.size→cur'[j*inf.size+k]? =some (if j<es.length then us j k else us2 (j - es.length) k):=by
  intro cur' g1 g2 j k hj hk;simp only[qD]at hj
  by_cases hje:j<es.length
  ·rw[if_pos hje,g1 _ (Q2N hje hk)];exact hb6 j k hje hk
  rw[if_neg hje];have hlt:(j - es.length)*inf.size+k<news.length*inf.size:=Q2N (by omega) hk;have e1:j*inf.size+k=es.length*inf.size+((j - es.length)*inf.size+k):=by
   rw[←Nat.add_assoc,←qT,show es.length+(j - es.length)=j by omega]
  rw[e1,g2 _ hlt,hnlg _ hlt];have e2:((j - es.length)*inf.size+k) / inf.size=j - es.length:=by
   rw[Nat.add_comm,Nat.add_mul_div_right _ _ hpos',Nat.div_eq_of_lt hk,qU]
  rw[e2,Q5C hk]
 have hxs:∀(w':World) bk,(∀b,g.R b→w'.heap[b]? =w.heap[b]?)→∀j k,j<(es++news).length→k<inf.size→
   XRel w' g.R (upd g.ρ n bk) (if j<es.length then us j k else us2 (j - es.length) k) (((es++news).getD j []).getD k .bot):=by
  intro w' bk hR j k hj hk;have hmono:∀{v av},XRel w g.R g.ρ v av→XRel w' g.R (upd g.ρ n bk) v av:=λhv=>hv.mono (λb hb=>⟨hb,hR b hb⟩) (hρ' bk)
  by_cases hje:j<es.length
  ·rw[if_pos hje];have hget:((es++news).getD j [])=es.getD j []:=(by simp[qB,List.getElem?_append_left hje]);rw[hget];exact hmono (hb8 j k hje hk)
  rw[if_neg hje];have hlen2:(es++news).length=es.length+news.length:=by simp
  have hget:((es++news).getD j [])=news.getD (j - es.length) []:=by simp[qB,List.getElem?_append_right (show es.length≤j by omega)]
  rw[hget];exact hmono (hs4 (j - es.length) k (by omega) hk)
 intro K Q kk;have fin:∀(bk:Bk) (o':Nat→Option (List Nat)),w'.os=w.os→(w'.tape=w.tape∧w.drawn≤w'.drawn)→w'.output=w.output→w.heap.size≤w'.heap.size→(∀b,b<w.heap.size→(∃x,g.o b=some [x]∧i0=[x])∨w'.heap[b]? =w.heap[b]?)→
   (∀b,b<w.heap.size→o' b=mv ky g.o b)→(∀b L,o' b=some L→b<w'.heap.size)→MixRel w' ⟨g.R,o',upd g.ρ n bk⟩ n bk inf.size (es++news)→XRel w' g.R (upd g.ρ n bk) v (.own n 0 (es.length+news.length))→K (a.put o.dst v) w':=by
  intro bk o' q1 q2 q3 q4 q5 q6 q7 q8 q10;obtain⟨f1,f2,f3⟩:=move_finM W H hn hρ hnk q1 q2 q3 q4 (λb hb=>(q5 b hb).imp (λ⟨x,hx,hx2⟩=>⟨x,hx,by rw[hkyf,hx2];simp⟩) id) q6 q7 q8;refine kk v w' o' (upd g.ρ n bk) f1 ?_ (hρ' bk) ?_ q10 f3
  ·have:(λid=>if id∈ky.map qE then none else h id)=happ {v:=AV.own n 0 (es.length+news.length),del:=i0,new:=[(n,.mix inf.size (es++news))],cnt:=1} h:=by
    funext id;simp only[happ,look,hkyf]
   rw[←this];exact f2
  intro id k hk;simp only[upd]at hk;split at hk
  ·rename_i hid;subst hid;exact .inr ⟨qF _,by simp⟩
  exact .inl hk
 refine Q2a hexec ?_;rcases hres with⟨rfl,hz0,rfl,rfl⟩|⟨b,rfl,rfl,hroom,cur',hc's,rfl,g1,g2⟩|⟨cap',cur',rfl,hroom,hcm,hc's,rfl,g1,g2⟩
 ·
  obtain⟨he0,hc0⟩:=hb2 rfl;have hnil:es++news=[]:=qQ (by rw[qD];omega);refine fin ⟨none,inf.size,0⟩ (mv ky g.o) rfl ⟨rfl,by first|exact qF _|exact Nat.le_succ _|(simp;done)|(simp;omega)⟩ rfl (qF _) (λ_ _=>.inr rfl) (λ_ _=>rfl) (λb L hb=>?_) ⟨.inl ⟨hnil,0,rfl⟩⟩ ?_
  ·obtain⟨M,hM⟩:=Q1Y hb;exact(W.o b M hM).1
  rw[he0,hz0];exact .own0 (sz:=inf.size) (cap:=0) (by simp[upd])
 ·
  obtain⟨hh,hcs,x,hx1,hx2⟩:=hb1 b rfl;have hhb:∀b',b'<w.heap.size→(∃x,g.o b'=some [x]∧i0=[x])∨(w.setRow b cur').heap[b']? =w.heap[b']?:=by
   intro b' _
   by_cases hbb:b'=b
   ·subst hbb;exact .inl ⟨x,hx2,hx1⟩
   exact .inr (setRow_other w b b' cur' hbb)
  have hRb:∀b',g.R b'→(w.setRow b cur').heap[b']? =w.heap[b']?:=λb' hb'=>setRow_other w b b' cur' (by rintro rfl;have:=(W.R b' hb').2;rw[hx2]at this;cases this);refine fin ⟨some b,inf.size,cap⟩ (mv ky g.o) rfl ⟨rfl,by first|exact qF _|exact Nat.le_succ _|(simp;done)|(simp;omega)⟩ rfl (by simp) hhb (λ_ _=>rfl) (λb L hb=>?_) ?_ ?_
  ·obtain⟨M,hM⟩:=Q1Y hb;have:=(W.o _ M hM).1;simpa using this
  ·exact .mk' ⟨b,cur',el,_,cap,rfl,(Q6x (M:=[]) (by have:=QQ (ky:=ky) (by rw[hkyf,hx1];simp) (p:=(x,[n])) (by simp[ky,hx1]);exact this) hx2),setRow_heap w b cur cur' el (0,0) hh,by rw[hc's];exact hcs,by simpa using hroom,hb4,hlens,hcells cur' g1 g2,hones,hxs _ _ hRb⟩
  exact .own (sz:=inf.size) (by simp[upd]) (Nat.le_of_eq (qU _)) hroom (by simp) (by simp) hb4
 have hold:∀b,b<w.heap.size→(w.drew.alloc (.cells cur' et)).heap[b]? =w.heap[b]?:=λb hb=>Q1m w.drew _ hb;have ho':∀b,b<w.heap.size→upd (mv ky g.o) w.heap.size [n] b=mv ky g.o b:=λb hb=>by simp only[upd];rw[if_neg (by omega)]
 refine fin ⟨some w.heap.size,inf.size,cap'⟩ (upd (mv ky g.o) w.heap.size [n]) rfl ⟨rfl,by first|exact qF _|exact Nat.le_succ _|(simp;done)|(simp;omega)⟩ rfl (by simp) (λb hb=>.inr (hold b hb)) ho' (λb L hb=>?_) ?_ ?_
 ·simp only[upd]at hb;split at hb
  ·rename_i hbb;subst hbb;simp
  obtain⟨M,hM⟩:=Q1Y hb;have:=(W.o _ M hM).1;simp;omega
 ·exact .mk' ⟨w.heap.size,cur',et,_,cap',rfl,by simp[upd],Q2h w.drew _,Nat.le_of_eq hc's.symm,by simpa using hroom,hcm,hlens,hcells cur' g1 g2,hones,hxs _ _ λb hb=>hold b (W.R b hb).1⟩
 exact .own (sz:=inf.size) (by simp[upd]) (Nat.le_of_eq (qU _)) hroom (by simp) (by simp) hcm
end
end Go.Vc
