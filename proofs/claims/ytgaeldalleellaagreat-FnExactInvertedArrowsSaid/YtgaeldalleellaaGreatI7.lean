/- A part of the proof. -/
import Derived.Test.YtgaeldalleellaaGreatI6
set_option maxRecDepth 100000
set_option maxHeartbeats 4000000
set_option linter.unusedSimpArgs false
set_option linter.unusedVariables false
set_option linter.unusedSectionVars false
set_option linter.unnecessarySimpa false

open Option.some renaming injEq→qA
open List renaming getD_eq_getElem?_getD→qB
open Array renaming getElem?_eq_getElem→zK
open List renaming getElem?_eq_getElem→qF
open Prod renaming fst→qG
open Option renaming getD_some→zL
open Go.Op renaming operands→zH
open List renaming map_cons→qK
open List renaming mem_singleton→zI
open List renaming getElem?_map→yF
open List renaming mem_of_getElem?→yG
open Array renaming getElem?_toList→yH
open Option renaming getD_none→zO
open Array renaming getElem?_modify→yI
namespace Go.Vc
open Go
section
attribute [local simp] Qa QD Qo
theorem Qb6{β:Type}{k:Value}{es:List (Value×β)}(h:∀p∈es,p.1≠k):Q3a k es=none∧∀v,kset k v es=es++[(k,v)]:=by
 induction es with
 |nil=>exact⟨rfl,λ_=>rfl⟩
 |cons p r ih=>
  obtain⟨a,x⟩:=p;have h1:a≠k:=h (a,x) (by simp);obtain⟨i1,i2⟩:=ih λq hq=>h q (by simp[hq]);exact⟨by simp only[Q3a,if_neg h1];exact i1,λv=>by simp only[kset,if_neg h1,i2];rfl⟩
theorem kfind_at{β:Type}{k:Value}{es:List (Value×β)}(hn:(es.map qG).Nodup){j:Nat}{a:Value}{x:β}(hj:es[j]? =some (a,x))(ha:a=k):Q3a k es=some x∧∀v,kset k v es=es.set j (k,v):=by
 induction es generalizing j with
 |nil=>simp at hj
 |cons p r ih=>
  obtain⟨b,y⟩:=p;cases j with
  |zero=>
   simp only[List.getElem?_cons_zero,qA,Prod.mk.injEq]at hj;obtain⟨rfl,rfl⟩:=hj;subst ha;exact⟨by simp[Q3a],λv=>by simp[kset]⟩
  |succ j=>
   simp only[List.getElem?_cons_succ]at hj;simp only[qK,List.nodup_cons]at hn;have hb:b≠k:=by
    rintro rfl
    subst ha;exact hn.1 (List.mem_map.2 ⟨_,yG hj,rfl⟩)
   obtain⟨i1,i2⟩:=ih hn.2 hj;exact⟨by simp only[Q3a,if_neg hb];exact i1,λv=>by simp only[kset,if_neg hb,i2];rfl⟩
theorem cont_turn{h h':HP}(hh:∀id,h' id=h id∨h' id=none∨((∃kd es,h id=some (.mapE kd es))∧∃kd es,h' id=some (.mapE kd es))):∀(d c:Nat) (q:Nat×List (List AV)),cont h' d c=some q→cont h d c=some q∧h' c=h c:=by
 intro d
 induction d with
 |zero=>intro c q hx;simp[cont]at hx
 |succ d ih=>
  intro c q hx;rcases hh c with e|e|⟨_,kd,es,e⟩
  ·refine⟨?_,e⟩;unfold cont at hx⊢;rw[e]at hx;cases he:h c with
   |none=>simp[he]at hx
   |some x=>
    cases x with
    |mix=>simpa[he]using hx
    |row=>simpa[he]using hx
    |mapE=>simp[he]at hx
    |ali c2 i k s=>
     simp only[he]at hx⊢;split at hx
     ·cases hx
     rename_i hm;cases hc:cont h' d c2 with
     |none=>simp[hc]at hx
     |some p=>
      obtain⟨i1,i2⟩:=ih c2 p hc;rw[i2]at hm;rw[hc]at hx;rw[if_neg hm,i1];exact hx
  ·simp[cont,e]at hx
  simp[cont,e]at hx
theorem HRel.turn{w w':World}{g:Gh}{h h':HP}{o':Nat→Option (List Nat)}{ρ':Nat→Option Bk}(H:HRel w g h)(T:Nat→Prop)(hR:∀b,g.R b→w'.heap[b]? =w.heap[b]?)(hc:∀(b:Nat) (cur:Array Value) (e:TypeId),w.heap[b]? =some (.cells cur e (0,0))→w'.heap[b]? =some (.cells cur e (0,0)))(ho:∀b id M,¬T id→g.o b=some (id::M)→o' b=some (id::M)∧w'.heap[b]? =w.heap[b]?)(hρ:∀id k,g.ρ id=some k→ρ' id=some k)(hρ':∀id k,¬T id→ρ' id=some k→g.ρ id=some k)(hh:∀id,h' id=h id∨h' id=none∨((∃kd es,h id=some (.mapE kd es))∧∃kd es,h' id=some (.mapE kd es)))(hT:∀id,¬T id→h' id=h id)(hmap:∀id kd es bk,T id→h' id=some (.mapE kd es)→ρ' id=some bk→MapRel w' ⟨g.R,o',ρ'⟩ id bk kd es)(hmix:∀id sz es bk,T id→h' id=some (.mix sz es)→ρ' id=some bk→MixRel w' ⟨g.R,o',ρ'⟩ id bk sz es)(hrow:∀id sz es,T id→h' id≠some (.row sz es))(hali:∀id c i k s,T id→h' id≠some (.ali c i k s)):HRel w' ⟨g.R,o',ρ'⟩ h':=by
 refine⟨λid sz es bk he hb=>?_,λid sz es bk he hb=>?_,λid c i k s bk he hb=>?_,λid kd es bk he hb=>?_⟩
 ·by_cases ht:T id
  ·exact hmix id sz es bk ht he hb
  exact(H.mix id sz es bk (by rw[←hT id ht];exact he) (hρ' id bk ht hb)).mono hR hρ λb hb=>ho b id [] ht hb
 ·by_cases ht:T id
  ·exact absurd he (hrow id sz es ht)
  obtain⟨v,h1,h2⟩:=H.row id sz es bk (by rw[←hT id ht];exact he) (hρ' id bk ht hb);exact⟨v,h1.same λb M hb=>ho b id M ht hb,h2⟩
 ·by_cases ht:T id
  ·exact absurd he (hali id c i k s ht)
  obtain⟨e1,bkc,e2,e3⟩:=H.ali id c i k s bk (by rw[←hT id ht];exact he) (hρ' id bk ht hb);refine⟨e1,bkc,hρ _ _ e2,λd szc esc hcc hm hi hk=>?_⟩;obtain⟨q1,q2⟩:=cont_turn hh d c _ hcc;obtain⟨bc,cur,el,v,c1,c2,c3,c4⟩:=e3 d szc esc q1 (by rw[←q2];exact hm) hi hk;exact⟨bc,cur,el,v,c1,hc _ _ _ c2,c3,c4⟩
 by_cases ht:T id
 ·exact hmap id kd es bk ht he hb
 exact(H.map id kd es bk (by rw[←hT id ht];exact he) (hρ' id bk ht hb)).move (λb hb=>⟨hb,hR b hb⟩) λb M hb=>ho b id M ht hb
section
variable {P:Program}{op:Op}{ev:Operand→AV}{h:HP}{n:Nat}
theorem Q7R{w:World}{g:Gh}{h:HP}(H:HRel w g h){id b:Nat}{x:XP}(hh:h id=some (.mapE (.ext x) []))(hb:g.ρ id=some ⟨some b,0,0⟩):x.p w g.R (ownl g.o id) ⟨some b,0,0⟩:=by
 rcases H.map id _ _ _ hh hb with⟨x',h1,h2⟩|⟨h1,_⟩
 ·cases h1;exact h2
 exact absurd rfl (h1 x)
theorem Q7L{kt:TypeId}{kd:MK}(hr:KeyRun P kt kd)(w:World){β:Type}{ks:List (Value×β)}{ents:Array MapEntry}{kv:Value}(hk:ents.toList.map (·.key)=ks.map qG)(hn:(ks.map qG).Nodup)(hok:∀p∈ks,kd.ok p.1)(hkv:kd.ok kv):
  ((Instr.findKey kt kv ents.toList).run P w= .ok none w∧Q3a kv ks=none∧∀v,kset kv v ks=ks++[(kv,v)])∨
  ∃j en y,(Instr.findKey kt kv ents.toList).run P w= .ok (some (j,en.val)) w∧ents[j]? =some en∧en.key=kv∧ks[j]? =some (kv,y)∧Q3a kv ks=some y∧∀v,kset kv v ks=ks.set j (kv,v):=by
 have hmem:∀e∈ents.toList,∃p∈ks,p.1=e.key:=λe he=>by
  have:e.key∈ks.map qG:=by rw[←hk];exact List.mem_map.2 ⟨e,he,rfl⟩
  obtain⟨p,hp,q⟩:=List.mem_map.1 this;exact⟨p,hp,q⟩
 rcases hr.find w hkv ents.toList (λe he=>by obtain⟨p,hp,q⟩:=hmem e he;rw[←q];exact hok p hp)with⟨h1,h2⟩|⟨j,en,h1,h2,h3⟩
 ·obtain⟨q1,q2⟩:=Qb6 (k:=kv) (es:=ks) λp hp hpk=>by
   have:p.1∈ents.toList.map (·.key):=(by rw[hk];exact List.mem_map.2 ⟨p,hp,rfl⟩);obtain⟨e,he,q⟩:=List.mem_map.1 this;exact h2 e he (by simpa using q.trans hpk)
  exact .inl ⟨h1,q1,q2⟩
 have hj:(ks.map qG)[j]? =some kv:=by rw[←hk];simp only[yF,h2,Option.map_some,h3]
 simp only[yF]at hj;obtain⟨⟨k2,y⟩,g1,g2⟩:=Option.map_eq_some_iff.1 hj;simp only at g2;subst g2;obtain⟨q1,q2⟩:=kfind_at hn g1 rfl;exact .inr ⟨j,en,y,h1,by simpa using h2,h3,g1,q1,q2⟩
theorem WF.labels{C:Ctx}{w:World}{g:Gh}(W:WF C w g){o':Nat→Option (List Nat)}{ρ':Nat→Option Bk}(h0:∀b,g.o b=none→o' b=none)(h1:∀b L,o' b=some L→∃L',g.o b=some L'):WF C w ⟨g.R,o',ρ'⟩:=
 ⟨λb hb=>⟨(W.R b hb).1,h0 b (W.R b hb).2⟩,λb L hb=>by obtain⟨L',h2⟩:=h1 b L hb;exact W.o b L' h2,W.os,W.tape,W.output,W.size,W.keep⟩
end
theorem Wk.kind{F:Fx}{st st':St}{j:Nat}{kd kd':MK}{es es':List (Value×Value)}(hj:look j st.h=some (.mapE kd es))(hk:∀(w:World) (g:Gh) (bk:Bk),MapRel w g j bk kd es→MapRel w g j bk kd' es')(hs:∀q∈st'.s,st.get q.1=q.2∨q.2= .bot)(hn:st'.n=st.n)(hh:∀q∈st'.h,(q.1=j∧q.2= .mapE kd' es')∨(look q.1 st.h=some q.2∧(match q.2 with|.ali _ _ _ _=>False|_=>True))):Wk F st st':=by
 intro a w ⟨R,hX,hr0⟩;obtain⟨r1,r2,r3,o,ρ,W,H,hx,hρ,hpn⟩:=hr0;have hent:∀id e,st'.hp id=some e→(id=j∧e= .mapE kd' es')∨(st.hp id=some e∧(match e with|.ali _ _ _ _=>False|_=>True)):=λid e h=>hh (id,e) (Qf h);refine⟨R,hX,r1,r2,λid x hx'=>?_,o,ρ,⟨W.R,W.o,W.os,W.tape,W.output,W.size,W.keep⟩,
  ⟨λid z xs bk h1 h2=>?_,λid z xs bk h1 h2=>?_,λid c i' k' z bk h1 h2=>?_,λid kd xs bk h1 h2=>?_⟩,λt=>?_,λid kk hk'=>?_,λid hid=>hpn.1 id hid,by rw[hn];exact hpn.2⟩
 ·rw[hn];rcases hent id x hx' with⟨rfl,_⟩|⟨h,_⟩
  ·exact r3 _ _ hj
  exact r3 _ _ h
 ·rcases hent id _ h1 with⟨_,h⟩|⟨h,_⟩
  ·cases h
  exact H.mix id z xs bk h h2
 ·rcases hent id _ h1 with⟨_,h⟩|⟨h,_⟩
  ·cases h
  exact H.row id z xs bk h h2
 ·rcases hent id _ h1 with⟨_,h⟩|⟨_,h⟩
  ·cases h
  exact h.elim
 ·rcases hent id _ h1 with⟨rfl,h⟩|⟨h,_⟩
  ·cases h;exact hk w _ bk (H.map id _ _ bk hj h2)
  exact H.map id kd xs bk h h2
 ·cases hl:look t st'.s with
  |none=>simp only[St.get,hl,zO];exact .bot
  |some v=>
   simp only[St.get,hl,zL];rcases hs _ (Qf hl)with h|h
   ·simp only at h;rw[←h];exact hx t
   simp only at h;rw[h];exact .bot
 rw[hn];exact hρ id kk hk'
open Classical in
noncomputable def kidx{β:Type}(k:Value):List (Value×β)→Nat
 |[]=>0
 |(a,_)::r=>if a=k then 0 else kidx k r+1
open Classical in
noncomputable def kent{β:Type}(k:Value)(z:β):List (Value×β)→List (Value×β)
 |[]=>[(k,z)]
 |(a,x)::r=>if a=k then(a,x)::r else(a,x)::kent k z r
theorem Q6a{β:Type}{k:Value}{z v:β}:∀{es:List (Value×β)},(kent k z es).modify (kidx k es) (λp=>(p.1,v))=kset k v es:=by
 intro es
 induction es with
 |nil=>simp[kent,kidx,kset]
 |cons p r ih=>
  obtain⟨a,x⟩:=p
  by_cases h:a=k
  ·simp[kent,kidx,kset,h]
  simp[kent,kidx,kset,h,ih]
theorem kidx_lt{β:Type}{k:Value}{z:β}:∀{es:List (Value×β)},kidx k es<(kent k z es).length:=by
 intro es
 induction es with
 |nil=>simp[kent,kidx]
 |cons p r ih=>
  obtain⟨a,x⟩:=p
  by_cases h:a=k
  ·simp[kent,kidx,h]
  simp[kent,kidx,h,ih]
theorem kidx_none{β:Type}{k:Value}{z:β}:∀{es:List (Value×β)},(∀p∈es,p.1≠k)→kidx k es=es.length∧kent k z es=es++[(k,z)]:=by
 intro es
 induction es with
 |nil=>intro _;exact⟨rfl,rfl⟩
 |cons p r ih=>
  obtain⟨a,x⟩:=p;intro h;have h1:a≠k:=h (a,x) (by simp);obtain⟨i1,i2⟩:=ih λq hq=>h q (by simp[hq]);exact⟨by simp[kidx,h1,i1],by simp[kent,h1,i2]⟩
theorem kidx_at{β:Type}{k:Value}{z:β}:∀{es:List (Value×β)} {j:Nat} {x:β},(es.map qG).Nodup→es[j]? =some (k,x)→kidx k es=j∧kent k z es=es:=by
 intro es
 induction es with
 |nil=>intro j x _ h;simp at h
 |cons p r ih=>
  obtain⟨a,y⟩:=p;intro j x hn hj;cases j with
  |zero=>
   simp only[List.getElem?_cons_zero,qA,Prod.mk.injEq]at hj;obtain⟨rfl,rfl⟩:=hj;exact⟨by simp[kidx],by simp[kent]⟩
  |succ j=>
   simp only[List.getElem?_cons_succ]at hj;simp only[qK,List.nodup_cons]at hn;have hb:a≠k:=by
    rintro rfl
    exact hn.1 (List.mem_map.2 ⟨_,yG hj,rfl⟩)
   obtain⟨i1,i2⟩:=ih hn.2 hj;exact⟨by simp[kidx,hb,i1],by simp[kent,hb,i2]⟩
theorem ent_run{P:Program}{t kt et:TypeId}{kd:MK}{w:World}{b:Nat}{ents:Array MapEntry}{clk:Nat}{β:Type}{ks:List (Value×β)}{kv z:Value}(zb:β)(h1:P.underlying t=some (.map kt et))(h2:KeyRun P kt kd)(h4:∀w,(zeroValue et).run P w= .ok z w)(e3:w.heap[b]? =some (.map ents clk))(e0:Born ents clk)(e4:ents.toList.map (·.key)=ks.map qG)(e5:(ks.map qG).Nodup)(e7:∀p∈ks,kd.ok p.1)(hkok:kd.ok kv):
   ∃ (ents':Array MapEntry) (clk':Nat) (v0:Value),(Instr.mapEntry t (.map (some b)) kv).run P w = .ok (.tuple #[v0,goInt (kidx kv ks)]) { w with heap:=w.heap.setIfInBounds b (.map ents' clk') } ∧
     Born ents' clk'∧ents'.toList.map (·.key)=(kent kv zb ks).map qG∧((kent kv zb ks).map qG).Nodup∧(∀p∈kent kv zb ks,kd.ok p.1)∧(kent kv zb ks).length≤ks.length+1∧
     ((kidx kv ks<ks.length∧kent kv zb ks=ks∧ents'=ents∧∃en,ents[kidx kv ks]? =some en∧v0=en.val)∨
      (kidx kv ks=ks.length∧kent kv zb ks=ks++[(kv,zb)]∧ents'=ents.push {key:=kv,val:=z,born:=clk}∧v0=z)):=by
 have hsz:ents.size=ks.length:=by have:=congrArg List.length e4;simpa using this
 rcases Q7L h2 w e4 e5 e7 hkok with⟨f1,f2,f3⟩|⟨j,en,y,f1,f2,f3,f4,f5,f6⟩
 · have hne:∀p∈ks,p.1≠kv:=by
     have:∀l:List (Value×β),Q3a kv l=none→∀p∈l,p.1≠kv:=by
       intro l
       induction l with
       |nil=>intro _ p hp;cases hp
       | cons c r ih =>
         obtain⟨a1,a2⟩:=c;intro hl p hp;simp only[Q3a]at hl;split at hl
         · cases hl
         rename_i hne;rcases List.mem_cons.1 hp with rfl|hp
         · exact hne
         exact ih hl p hp
     exact this ks f2
   obtain⟨k1,k2⟩:=kidx_none (z:=zb) hne;refine⟨ents.push {key:=kv,val:=z,born:=clk},clk+1,z,?_,e0.push,?_,?_,?_,?_,.inr ⟨k1,k2,rfl,rfl⟩⟩
   · have:clk=kidx kv ks:=by rw [k1,← hsz];exact e0.1
     rw[←this];simp[Instr.mapEntry,run_underlying h1,MapKept.run_getObj_map e3,h2.check w _ hkok,f1,h4,MapKept.run_setObj_map _ e3,Result.andThen]
   · rw[k2];simp[e4]
   · rw [k2,List.map_append,List.nodup_append]
     refine⟨e5,by simp,λa ha c hc=>?_⟩;simp only[qK,List.map_nil,zI]at hc
     rintro rfl
     subst hc;obtain⟨p,hp,q⟩:=List.mem_map.1 ha;exact hne p hp q
   · intro p hp
     rw[k2]at hp;rcases List.mem_append.1 hp with hp|hp
     · exact e7 p hp
     simp only[zI]at hp;subst hp;exact hkok
   rw[k2];simp
 obtain⟨k1,k2⟩:=kidx_at (z:=zb) e5 f4;have hlt:j<ents.size:=(Array.getElem?_eq_some_iff.1 f2).1;have hsame:ents.modify j (λe=>{e with key:=kv})=ents:=by
   apply Array.ext_getElem?;intro i;rw[yI]
   by_cases hij:j=i
   · subst hij
     rw[if_pos rfl,f2,←f3];rfl
   rw[if_neg hij]
 refine⟨ents,clk,en.val,?_,e0,by rw[k2];exact e4,by rw[k2];exact e5,by rw[k2];exact e7,by rw[k2];omega,.inl ⟨by omega,k2,rfl,en,by rw[k1];exact f2,rfl⟩⟩;have hb:=e0.2 j en f2;rw[k1];simp[Instr.mapEntry,run_underlying h1,MapKept.run_getObj_map e3,h2.check w _ hkok,f1,f2,f3,h2.stays w hkok,hsame,hb,MapKept.run_setObj_map _ e3,Result.andThen]
theorem est_run{P:Program}{t:TypeId}{w:World}{b:Nat}{ents:Array MapEntry}{clk j:Nat}{v:Value}(e3:w.heap[b]? =some (.map ents clk))(e0:Born ents clk)(hj:j<ents.size):
  (Instr.entryStore t (.map (some b)) (goInt j) v).run P w= .ok () {w with heap:=w.heap.setIfInBounds b (.map (ents.modify j λe=>{e with val:=v}) clk)}:=by
 have hidx:ents.findIdx? (λe=>((e.born:Nat):Int)==((j:Nat):Int))=some j:=by
  rw[Array.findIdx?_eq_some_iff_getElem];refine⟨hj,?_,λi hi=>?_⟩
  ·have:=e0.2 j ents[j] (zK hj);simp[this]
  have:=e0.2 i ents[i] (zK (by omega));simp only[this,beq_iff_eq,Int.natCast_inj];omega
 simp[Instr.entryStore,MapKept.run_getObj_map e3,asInt,asIntOf,goInt,hidx,MapKept.run_setObj_map _ e3,Result.andThen]
section
variable {P:Program}{C:Ctx}{w:World}{g:Gh}{h:HP}{n:Nat}{op:Op}{ev:Operand→AV}
theorem Qaz{c id:Nat}{M:List Nat}{ents0 ents':Array MapEntry}{clk0 clk':Nat}{kd0 kd':MK}{es0 es':List (Value×Value)}{e:Eff}(W:WF C w g)(H:HRel w g h)(hoc:g.o c=some (id::M))(hobj:w.heap[c]? =some (.map ents0 clk0))(hid:h id=some (.mapE kd0 es0))(he:e.set=[(id,.mapE kd' es')])(hd:e.del=[])(hmap:∀bk,g.ρ id=some bk→MapRel {w with heap:=w.heap.setIfInBounds c (.map ents' clk')} g id bk kd' es'):
  WF C {w with heap:=w.heap.setIfInBounds c (.map ents' clk')} ⟨g.R,g.o,g.ρ⟩∧HRel {w with heap:=w.heap.setIfInBounds c (.map ents' clk')} ⟨g.R,g.o,g.ρ⟩ (happ e h)∧(∀b,g.R b→(w.heap.setIfInBounds c (.map ents' clk'))[b]? =w.heap[b]?)∧
   ∀b,b≠c→(w.heap.setIfInBounds c (.map ents' clk'))[b]? =w.heap[b]?:=by
 obtain⟨hs1,hs2⟩:=MapKept.heap_set (o':=.map ents' clk') hobj;have hRr:∀b,g.R b→(w.heap.setIfInBounds c (.map ents' clk'))[b]? =w.heap[b]?:=λb hb=>hs2 b (by rintro rfl;have:=(W.R b hb).2;rw[hoc]at this;cases this);have hset:∀y,happ e h y=if y=id then some (.mapE kd' es')else h y:=by
  intro y;simp only[happ,he,hd,look]
  by_cases hy:id=y
  ·simp[hy]
  simp[hy,Ne.symm hy]
 refine⟨⟨λb hb=>⟨by simpa using(W.R b hb).1,(W.R b hb).2⟩,λb L hb=>⟨by simpa using(W.o b L hb).1,(W.o b L hb).2⟩,W.os,W.tape,W.output,by simpa using W.size,λb hb hw=>?_⟩,?_,hRr,λb hb=>hs2 b hb⟩
 ·exact(hs2 b (by
   rintro rfl
   rcases(W.o b _ hoc).2 with h0|h0
   ·omega
   exact hw h0)).trans (W.keep b hb hw)
 refine H.turn (λy=>y=id) hRr (λb cur e hc=>(hs2 b (by rintro rfl;rw[hobj]at hc;cases hc)).trans hc) (λb i N hi hb=>⟨hb,hs2 b (by rintro rfl;rw[hoc]at hb;cases hb;exact hi rfl)⟩) (λ_ _ h=>h) (λi k hi hk=>hk) (λi=>?_) (λi hi=>?_) (λi kd2 es2 bk2 hi he2 hbk=>?_) (λi s2 es2 bk2 hi he2 hbk=>?_) (λi s2 es2 hi he2=>?_) λi c2 i2 k2 s2 hi he2=>?_
 ·rw[hset]
  by_cases hi:i=id
  ·subst hi;exact .inr (.inr ⟨⟨_,_,hid⟩,⟨_,_,if_pos rfl⟩⟩)
  exact .inl (if_neg hi)
 ·rw[hset,if_neg hi]
 ·rw[hset,if_pos hi]at he2;subst hi;cases he2;exact hmap _ hbk
 ·rw[hset,if_pos hi]at he2;cases he2
 ·rw[hset,if_pos hi]at he2;cases he2
 rw[hset,if_pos hi]at he2;cases he2
theorem kidx_sc{β:Type}{kv:Value}{es:List (Value×β)}(h:kidx kv es≤1099511627776):sc (.int .i64 (kidx kv es)):=by
 simp[sc,IntKind.min,IntKind.max,IntKind.signed,IntKind.bits];omega
theorem mp_ent{t:TypeId}{x k:Operand}{id:Nat}{kd:MK}{z:Value}{es:List (Value×Value)}{kv:Value}(ho:op= .mapEntry t x k)(hx:ev x= .mp id)(hh:h id=some (.mapE kd es))(hm:mty P t=some (kd,z))(hk:keyV (ev k)=some kv)(his:kd.is kv=true)(hlen:es.length<1099511627776)(hn:id<n):
  MpOp P op ev h n {v:=.tup [.bot,.val (.int .i64 (kidx kv es))],set:=[(id,.mapE kd (kent kv z es))]}:=by
 subst ho;refine⟨⟨by simp,by simp,by simp,by simp[hn]⟩,λh=>by simp[Q1x]at h,λ_=>⟨⟨id,kd,es,kd,_,⟨x,by simp[zH],hx⟩,hh,rfl⟩,λd hd=>by cases hd⟩,fun {C o a w g h'} q1 q2 q5 W H q6 q7=>?_⟩;obtain⟨kt,et,h1,h2,h3,h4⟩:=Q3h hm;have hxx:=q5 x (by simp[zH]);rw[hx]at hxx;obtain⟨b,hv,hb⟩:=hxx.mp_eq;obtain⟨hkv,hkok⟩:=Q4z hk his (q5 k (by simp[zH]));obtain⟨b',e1,hob,⟨ents,clk,hobj,hborn,hents⟩,hok⟩:=(H.map id _ _ _ (q2 _ _ hh) hb).plain (MK.plain_ne (Q6i hm));simp only[Bk.mk.injEq,qA,and_true]at e1;subst e1;have hkeys:ents.toList.map (·.key)=es.map qG:=by rw[←hents];simp[Function.comp_def]
 obtain⟨ents',clk',v0,r1,r2,r3,r4,r5,r6,r7⟩:=ent_run (z:=z) z h1 h2 h4 hobj hborn hkeys hok.2.1 (λp hp=>(hok.2.2 p hp).1) hkok;have hents':ents'.toList.map (λe=>(e.key,e.val))=kent kv z es:=by
  rcases r7 with⟨_,s2,s3,_⟩|⟨_,s2,s3,_⟩
  ·rw[s2,s3];exact hents
  rw[s2,s3];simp[hents]
 have hki:kidx kv es≤es.length:=by rcases r7 with⟨s1,_⟩|⟨s1,_⟩<;>omega
 obtain⟨hs1,_⟩:=MapKept.heap_set (o':=.map ents' clk') hobj;obtain⟨w1,w2,w3,w4⟩:=Qaz (ents':=ents') (clk':=clk') (kd':=kd) (es':=kent kv z es) (e:={v:=.tup [.bot,.val (.int .i64 (kidx kv es))],set:=[(id,.mapE kd (kent kv z es))]}) W H hob hobj (q2 _ _ hh) rfl rfl λbk hbk=>by
  rw[hb]at hbk;cases hbk;refine .inr ⟨MK.plain_ne (Q6i hm),b,rfl,hob,⟨ents',clk',hs1,r2,hents'⟩,by omega,r4,λp hp=>⟨r5 p hp,?_⟩⟩;rcases r7 with⟨_,s2,_⟩|⟨_,s2,_⟩
  ·rw[s2]at hp;exact(hok.2.2 p hp).2
  rw[s2]at hp;rcases List.mem_append.1 hp with hp|hp
  ·exact(hok.2.2 p hp).2
  simp only[zI]at hp;subst hp;exact h3
 intro K Q kk;refine Q1H (v:=.tuple #[v0,goInt (kidx kv es)]) (by simp[execOp,q1,hv,hkv,r1]) (kk _ _ g.R g.o g.ρ .refl w1 w2 (λ_ _ h=>h) (λ_ _ h=>.inl h) (.tup rfl λj hj=>?_) w3);have hj2:j<2:=hj
 match j,hj2 with
 |0,_=>exact .bot
 |1,_=>exact .r (.val (kidx_sc (by omega)))
theorem mp_est{t:TypeId}{x s y:Operand}{id j:Nat}{kd:MK}{es es2:List (Value×Value)}{v:Value}(ho:op= .entryStore t x s y)(hx:ev x= .mp id)(hh:h id=some (.mapE kd es))(hpl:kd.plain=true)(hs:ev s= .val (.int .i64 j))(hj:j<es.length)(hy:ev y= .val v)(hes:es.modify j (λp=>(p.1,v))=es2)(hn:id<n):MpOp P op ev h n {v:=.bot,set:=[(id,.mapE kd es2)]}:=by
 subst ho hes;refine⟨⟨by simp,by simp,by simp,by simp[hn]⟩,λh=>by simp[Q1x]at h,λ_=>⟨⟨id,_,_,_,_,⟨x,by simp[zH],hx⟩,hh,rfl⟩,λd hd=>by cases hd⟩,fun {C o a w g h'} q1 q2 q5 W H q6 q7=>?_⟩;have hxx:=q5 x (by simp[zH]);rw[hx]at hxx;obtain⟨b,hv,hb⟩:=hxx.mp_eq;have hss:=q5 s (by simp[zH]);rw[hs]at hss;have hyy:=q5 y (by simp[zH]);rw[hy]at hyy;obtain⟨hyv,hysc⟩:=hyy.val_eq;obtain⟨b',e1,hob,⟨ents,clk,hobj,hborn,hents⟩,hok⟩:=(H.map id _ _ _ (q2 _ _ hh) hb).plain (MK.plain_ne hpl);simp only[Bk.mk.injEq,qA,and_true]at e1;subst e1;have hsz:ents.size=es.length:=by rw[←hents];simp
 have r1:=est_run (P:=P) (t:=t) (v:=v) hobj hborn (show j<ents.size by omega);obtain⟨hs1,_⟩:=MapKept.heap_set (o':=.map (ents.modify j λe=>{e with val:=v}) clk) hobj;have hents':(ents.modify j λe=>{e with val:=v}).toList.map (λe=>(e.key,e.val))=es.modify j (λp=>(p.1,v)):=by
  rw[←hents];apply List.ext_getElem?;intro i;simp only[yF,yH,yI,List.getElem?_modify]
  by_cases hij:j=i
  ·subst hij;simp;cases ents[j]?<;>rfl
  simp[hij]
 have hfst:(es.modify j (λp=>(p.1,v))).map qG=es.map qG:=by
  apply List.ext_getElem?;intro i;simp only[yF,List.getElem?_modify]
  by_cases hij:j=i
  ·subst hij;simp;cases es[j]?<;>rfl
  simp[hij]
 obtain⟨w1,w2,w3,w4⟩:=Qaz (ents':=ents.modify j λe=>{e with val:=v}) (clk':=clk) (kd':=kd) (es':=es.modify j (λp=>(p.1,v))) (e:={v:=.bot,set:=[(id,.mapE kd (es.modify j (λp=>(p.1,v))))]}) W H hob hobj (q2 _ _ hh) rfl rfl λbk hbk=>by
  rw[hb]at hbk;cases hbk;refine .inr ⟨MK.plain_ne hpl,b,rfl,hob,⟨_,clk,hs1,hborn.modify λ_=>rfl,hents'⟩,by simpa using hok.1,by rw[hfst];exact hok.2.1,λp hp=>?_⟩;obtain⟨i,hi⟩:=List.mem_iff_getElem?.1 hp;rw[List.getElem?_modify]at hi;obtain⟨p0,hp0,hpe⟩:=Option.map_eq_some_iff.1 hi;have h0:=hok.2.2 p0 (yG hp0)
  by_cases hij:j=i
  ·rw[if_pos hij]at hpe;subst hpe;exact⟨h0.1,hysc⟩
  rw[if_neg hij]at hpe;subst hpe;exact h0
 intro K Q kk;refine Q2A (by simp only[execOp,q1];rw[hv,hss.val_eq.1,hyv,show(Value.int .i64 (j:Int))=goInt j from rfl,Sem.run_bind,r1];rfl) (kk undef _ g.R g.o g.ρ .refl w1 w2 (λ_ _ h=>h) (λ_ _ h=>.inl h) .bot w3)
end
section
variable {P:Program}{C:Ctx}{w:World}{g:Gh}{h:HP}{n:Nat}{op:Op}{ev:Operand→AV}
theorem kset_at{β:Type}{k:Value}:∀{ks:List (Value×β)} {x:β},Q3a k ks=some x→∃j,ks[j]? =some (k,x)∧∀v,kset k v ks=ks.set j (k,v):=by
 intro ks
 induction ks with
 |nil=>intro x h;cases h
 |cons p r ih=>
  obtain⟨a,y⟩:=p;intro x h;simp only[Q3a]at h;split at h
  ·rename_i ha;cases h;subst ha;exact⟨0,rfl,λv=>by simp[kset]⟩
  rename_i ha;obtain⟨j,h1,h2⟩:=ih h;exact⟨j+1,by simpa using h1,λv=>by simp[kset,ha,h2]⟩
theorem Q27{β:Type}{ks:List (Value×β)}{j:Nat}{k:Value}{x v:β}(h:ks[j]? =some (k,x)):(ks.set j (k,v)).map qG=ks.map qG:=by
 have hlt:j<ks.length:=(List.getElem?_eq_some_iff.1 h).1;apply List.ext_getElem?;intro i;simp only[yF,List.getElem?_set]
 by_cases hij:j=i
 ·subst hij;rw[if_pos rfl,if_pos hlt,h];rfl
 simp[hij]
theorem Q5k{β:Type}{ks:List (Value×β)}{j:Nat}{v:β}:(ks.modify j (λp=>(p.1,v))).map qG=ks.map qG:=by
 apply List.ext_getElem?;intro i;simp only[yF,List.getElem?_modify]
 by_cases hij:j=i
 ·subst hij;simp;cases ks[j]?<;>rfl
 simp[hij]
theorem mp_entG{t:TypeId}{x k:Operand}{id:Nat}{kd kd2:MK}{ks:List (Value×GI)}{kv:Value}(ho:op= .mapEntry t x k)(hx:ev x= .mp id)(hh:h id=some (.mapE (.ext (Q10 kd kd2 ks)) []))(hm:mty P t=some (kd,.map none))(hk:keyV (ev k)=some kv)(his:kd.is kv=true)(hlen:ks.length<1099511627776)(hn:id<n):
  MpOp P op ev h n {v:=.tup [.bot,.val (.int .i64 (kidx kv ks))],set:=[(id,.mapE (.ext (Q10 kd kd2 (kent kv .nil ks))) [])]}:=by
 subst ho;refine⟨⟨by simp,by simp,by simp,by simp[hn]⟩,λh=>by simp[Q1x]at h,λ_=>⟨⟨id,_,_,_,_,⟨x,by simp[zH],hx⟩,hh,rfl⟩,λd hd=>by cases hd⟩,fun {C o a w g h'} q1 q2 q5 W H q6 q7=>?_⟩;obtain⟨kt,et,h1,h2,h3,h4⟩:=Q3h hm;have hxx:=q5 x (by simp[zH]);rw[hx]at hxx;obtain⟨b,hv,hb⟩:=hxx.mp_eq;obtain⟨hkv,hkok⟩:=Q4z hk his (q5 k (by simp[zH]));obtain⟨b',ents,clk,e1,e2,e3,e0,e4,e5,e6,e7,e8⟩:=Q7R H (q2 _ _ hh) hb;simp only[Bk.mk.injEq,qA,and_true]at e1;subst e1;have hob:=ownl_iff.1 e2;have hsz:ents.size=ks.length:=by have:=congrArg List.length e4;simpa using this
 obtain⟨ents',clk',v0,r1,r2,r3,r4,r5,r6,r7⟩:=ent_run GI.nil h1 h2 h4 e3 e0 e4 e5 e7 hkok;have hki:kidx kv ks≤ks.length:=by rcases r7 with⟨s1,_⟩|⟨s1,_⟩<;>omega
 obtain⟨hs1,_⟩:=MapKept.heap_set (o':=.map ents' clk') e3;obtain⟨hs3,hs4⟩:=MapKept.heap_set (o':=.map ents' clk') e3;obtain⟨w1,w2,w3,w4⟩:=Qaz (ents':=ents') (clk':=clk') (kd':=.ext (Q10 kd kd2 (kent kv .nil ks))) (es':=[]) (e:={v:=.tup [.bot,.val (.int .i64 (kidx kv ks))],set:=[(id,.mapE (.ext (Q10 kd kd2 (kent kv .nil ks))) [])]}) W H hob e3 (q2 _ _ hh) rfl rfl λbk hbk=>by
  rw[hb]at hbk;cases hbk;refine .inl ⟨_,rfl,b,ents',clk',rfl,e2,hs1,r2,r3,r4,by omega,r5,λj kv2 x2 en g1 g2=>?_⟩;have old:∀(ks0:ks[j]? =some (kv2,x2)) (en0:ents[j]? =some en),IRel kd2 {w with heap:=w.heap.setIfInBounds b (.map ents' clk')} g.R (ownl g.o id) j en.val x2:=λg1 g2=>
   (e8 j kv2 x2 en g1 g2).move (λc hc=>⟨hc,hs4 c (by rintro rfl;have:=(W.R c hc).2;rw[hob]at this;cases this)⟩) λc hc=>⟨hc,hs4 c (by rintro rfl;rw[e2]at hc;cases hc)⟩
  rcases r7 with⟨_,s2,s3,_⟩|⟨_,s2,s3,_⟩
  ·rw[s2]at g1;rw[s3]at g2;exact old g1 g2
  rw[s2]at g1;rw[s3]at g2
  by_cases hj:j<ks.length
  ·rw[List.getElem?_append_left hj]at g1;rw[Array.getElem?_push,if_neg (by omega)]at g2;exact old g1 g2
  have hj2:j=ks.length:=by
   have:=(List.getElem?_eq_some_iff.1 g1).1;simp at this;omega
  subst hj2;rw[Array.getElem?_push,if_pos hsz.symm]at g2;cases g2;simp at g1;obtain⟨rfl,rfl⟩:=g1;rfl
 intro K Q kk;refine Q1H (v:=.tuple #[v0,goInt (kidx kv ks)]) (by simp[execOp,q1,hv,hkv,r1]) (kk _ _ g.R g.o g.ρ .refl w1 w2 (λ_ _ h=>h) (λ_ _ h=>.inl h) (.tup rfl λj hj=>?_) w3);have hj2:j<2:=hj
 match j,hj2 with
 |0,_=>exact .bot
 |1,_=>exact .r (.val (kidx_sc (by omega)))
theorem mp_estG{t:TypeId}{x s y:Operand}{id m j:Nat}{kd kd2:MK}{ks ks2:List (Value×GI)}{es:List (Value×Value)}(ho:op= .entryStore t x s y)(hx:ev x= .mp id)(hh:h id=some (.mapE (.ext (Q10 kd kd2 ks)) []))(hs:ev s= .val (.int .i64 j))(hj:j<ks.length)(hy:ev y= .mp m)(hmm:h m=some (.mapE kd2 es))(hpl:kd2.plain=true)(hes:ks.modify j (λp=>(p.1,.own es))=ks2)(hn:id<n)(hmn:m<n):
  MpOp P op ev h n {v:=.bot,set:=[(id,.mapE (.ext (Q10 kd kd2 ks2)) [])],del:=[m]}:=by
 subst ho hes;have hne:m≠id:=by
  rintro rfl
  rw[hh]at hmm;have h1:MK.ext (Q10 kd kd2 ks)=kd2:=by injection hmm with hmm;injection hmm
  rw[←h1]at hpl;cases hpl
 refine⟨⟨by simp,by simp,by simp[hmn],by simp[hn]⟩,λh=>by simp[Q1x]at h,λ_=>⟨⟨id,_,_,_,_,⟨x,by simp[zH],hx⟩,hh,rfl⟩,λd hd=>by simp only[zI]at hd;subst hd;exact⟨⟨y,by simp[zH],hy⟩,_,_,hmm⟩⟩,fun {C o a w g h'} q1 q2 q5 W H q6 q7=>?_⟩;have hxx:=q5 x (by simp[zH]);rw[hx]at hxx;obtain⟨b,hv,hb⟩:=hxx.mp_eq;have hss:=q5 s (by simp[zH]);rw[hs]at hss;have hyy:=q5 y (by simp[zH]);rw[hy]at hyy;obtain⟨bm,hyv,hbm⟩:=hyy.mp_eq;have hid:=q2 _ _ hh;obtain⟨b',ents,clk,e1,e2,e3,e0,e4,e5,e6,e7,e8⟩:=Q7R H hid hb;simp only[Bk.mk.injEq,qA,and_true]at e1;subst e1;obtain⟨bm',f1,hom,hmo,hmk⟩:=(H.map m _ _ _ (q2 _ _ hmm) hbm).plain (MK.plain_ne hpl);simp only[Bk.mk.injEq,qA,and_true]at f1;subst f1;have hob:=ownl_iff.1 e2;have hbne:bm≠b:=by rintro rfl;rw[hob]at hom;simp at hom;exact hne hom.symm
 have hsz:ents.size=ks.length:=by have:=congrArg List.length e4;simpa using this
 have r1:=est_run (P:=P) (t:=t) (v:=.map (some bm)) e3 e0 (show j<ents.size by omega);obtain⟨hs1,hs2⟩:=MapKept.heap_set (o':=.map (ents.modify j λe=>{e with val:=.map (some bm)}) clk) e3;have hRr:∀c,g.R c→(w.heap.setIfInBounds b (.map (ents.modify j λe=>{e with val:=.map (some bm)}) clk))[c]? =w.heap[c]?:=λc hc=>hs2 c (by rintro rfl;have:=(W.R c hc).2;rw[hob]at this;cases this);have hset:∀c,happ {v:=AV.bot,set:=[(id,.mapE (.ext (Q10 kd kd2 (ks.modify j (λp=>(p.1,.own es))))) [])],del:=[m]} h' c=if c=id then some (.mapE (.ext (Q10 kd kd2 (ks.modify j (λp=>(p.1,.own es))))) [])else if c=m then none else h' c:=by
  intro c;simp only[happ,look]
  by_cases hc:id=c
  ·simp[hc]
  simp[hc,Ne.symm hc]
 have u1:∀c,g.o c=none→upd g.o bm [id,j] c=none:=λc hc=>by
  simp only[upd];rw[if_neg (by rintro rfl;rw[hom]at hc;cases hc)];exact hc
 have u2:∀c L,upd g.o bm [id,j] c=some L→∃L',g.o c=some L':=λc L hc=>by
  simp only[upd]at hc;split at hc
  ·rename_i h0;subst h0;exact⟨_,hom⟩
  exact⟨L,hc⟩
 have u3:∀c y M,y≠m→g.o c=some (y::M)→upd g.o bm [id,j] c=some (y::M):=λc y M hy hc=>by
  simp only[upd];rw[if_neg (by rintro rfl;rw[hom]at hc;simp only[qA,List.cons.injEq]at hc;exact hy hc.1.symm)];exact hc
 have W1:WF C w ⟨g.R,upd g.o bm [id,j],g.ρ⟩:=W.labels u1 u2;have hexec:(execOp a.eval o).run P w= .ok .skip {w with heap:=w.heap.setIfInBounds b (.map (ents.modify j λe=>{e with val:=.map (some bm)}) clk)}:=by
  simp only[execOp,q1];rw[hv,hss.val_eq.1,hyv,show(Value.int .i64 (j:Int))=goInt j from rfl,Sem.run_bind,r1];rfl
 intro K Q kk;refine Q2A hexec (kk undef {w with heap:=w.heap.setIfInBounds b (.map (ents.modify j λe=>{e with val:=.map (some bm)}) clk)} g.R (upd g.o bm [id,j]) g.ρ .refl ⟨λc hc=>⟨by simpa using(W1.R c hc).1,(W1.R c hc).2⟩,λc L hc=>⟨by simpa using(W1.o c L hc).1,(W1.o c L hc).2⟩,W.os,W.tape,W.output,by simpa using W.size,λc hc hw=>?_⟩ ?_ (λ_ _ h=>h) (λi k hk=>.inl hk) .bot hRr)
 ·exact(hs2 c (by
   rintro rfl
   rcases(W.o c _ hob).2 with h0|h0
   ·omega
   exact hw h0)).trans (W.keep c hc hw)
 refine H.turn (λc=>c=id∨c=m) hRr (λc cur e hc=>(hs2 c (by rintro rfl;rw[e3]at hc;cases hc)).trans hc) (λc i M hi hc=>⟨u3 c i M (λh0=>hi (.inr h0)) hc,hs2 c (by rintro rfl;rw[hob]at hc;cases hc;exact hi (.inl rfl))⟩) (λ_ _ h=>h) (λi k hi hk=>hk) (λi=>?_) (λi hi=>?_) (λi kd3 es3 bk3 hi he hbk=>?_) (λi s2 es2 bk2 hi he hbk=>?_) (λi s2 es2 hi he=>?_) λi c2 i2 k2 s2 hi he=>?_
 ·rw[hset]
  by_cases hi:i=id
  ·subst hi;exact .inr (.inr ⟨⟨_,_,hid⟩,⟨_,_,if_pos rfl⟩⟩)
  rw[if_neg hi]
  by_cases hi2:i=m
  ·rw[if_pos hi2];exact .inr (.inl rfl)
  rw[if_neg hi2];exact .inl rfl
 ·rw[hset,if_neg λh0=>hi (.inl h0),if_neg λh0=>hi (.inr h0)]
 ·rw[hset]at he;rcases hi with rfl|rfl
  ·rw[if_pos rfl]at he;cases he;rw[hb]at hbk;cases hbk;refine .inl ⟨_,rfl,b,_,clk,rfl,ownl_iff.2 (u3 b _ _ (Ne.symm hne) hob),hs1,e0.modify λ_=>rfl,?_,by rw[Q5k];exact e5,by simpa using e6,λp hp=>?_,λi kv2 x2 en g1 g2=>?_⟩
   ·rw[Q5k,←e4];apply List.ext_getElem?;intro i;simp only[yF,yH,yI]
    by_cases hij:j=i
    ·subst hij;simp;cases ents[j]?<;>rfl
    simp[hij]
   ·have:p.1∈(ks.modify j (λp=>(p.1,GI.own es))).map qG:=List.mem_map.2 ⟨p,hp,rfl⟩;rw[Q5k]at this;obtain⟨p0,hp0,hpe⟩:=List.mem_map.1 this;rw[←hpe];exact e7 p0 hp0
   rw[List.getElem?_modify]at g1;rw[yI]at g2
   by_cases hij:j=i
   ·subst hij;rw[if_pos rfl]at g2;obtain⟨p0,_,hpe⟩:=Option.map_eq_some_iff.1 g1;rw[if_pos rfl]at hpe;simp only[Prod.mk.injEq]at hpe;obtain⟨rfl,rfl⟩:=hpe;obtain⟨en0,_,rfl⟩:=Option.map_eq_some_iff.1 g2;exact⟨bm,rfl,ownl_iff.2 (by simp[upd]),hmo.same (hs2 bm hbne),hmk⟩
   rw[if_neg hij]at g2;obtain⟨p0,hp0,hpe⟩:=Option.map_eq_some_iff.1 g1;rw[if_neg hij]at hpe;cases hpe;exact(e8 i kv2 x2 en hp0 g2).move (λc hc=>⟨hc,hRr c hc⟩) λc hc=>⟨ownl_iff.2 (u3 c _ _ (Ne.symm hne) (ownl_iff.1 hc)),hs2 c (by rintro rfl;rw[e2]at hc;cases hc)⟩
  rw[if_neg hne,if_pos rfl]at he;cases he
 ·rw[hset]at he;rcases hi with rfl|rfl
  ·rw[if_pos rfl]at he;cases he
  rw[if_neg hne,if_pos rfl]at he;cases he
 ·rw[hset]at he;rcases hi with rfl|rfl
  ·rw[if_pos rfl]at he;cases he
  rw[if_neg hne,if_pos rfl]at he;cases he
 rw[hset]at he;rcases hi with rfl|rfl
 ·rw[if_pos rfl]at he;cases he
 rw[if_neg hne,if_pos rfl]at he;cases he
theorem XRel.sub_eq{w:World}{R:Nat→Prop}{ρ:Nat→Option Bk}{v:Value}{id c:Nat}(h:XRel w R ρ v (.sub id c)):v= .map (some c)∧∃b,ρ id=some ⟨some b,0,0⟩:=by
 cases h with
 |r h=>cases h
 |sub h=>exact⟨rfl,_,h⟩
theorem mp_lookG{t:TypeId}{x k:Operand}{id c:Nat}{kd kd2:MK}{ks:List (Value×GI)}{kv:Value}{es:List (Value×Value)}(ho:op= .lookup t x k false)(hx:ev x= .mp id)(hh:h id=some (.mapE (.ext (Q10 kd kd2 ks)) []))(hm:mty P t=some (kd,.map none))(hk:keyV (ev k)=some kv)(his:kd.is kv=true)(hf:Q3a kv ks=some (.owa c es)):
  MpOp P op ev h n {v:=.sub id c}:=by
 subst ho;refine⟨⟨by simp,by simp,by simp,by simp⟩,λ_=>⟨rfl,rfl⟩,λq=>(by cases q),fun {C o a w g h'} q1 q2 q5 W H q6 q7=>?_⟩;obtain⟨kt,et,h1,h2,h3,h4⟩:=Q3h hm;have hxx:=q5 x (by simp[zH]);rw[hx]at hxx;obtain⟨b,hv,hb⟩:=hxx.mp_eq;obtain⟨hkv,hkok⟩:=Q4z hk his (q5 k (by simp[zH]));obtain⟨b',ents,clk,e1,e2,e3,e0,e4,e5,e6,e7,e8⟩:=Q7R H (q2 _ _ hh) hb;simp only[Bk.mk.injEq,qA,and_true]at e1;subst e1;have hrun:(Instr.lookup t (a.eval x) (a.eval k) false).run P w= .ok (.map (some c)) w:=by
  rw[hv,hkv];rcases Q7L h2 w e4 e5 e7 hkok with⟨f1,f2,_⟩|⟨j,en,y,f1,f2,f3,f4,f5,_⟩
  ·rw[f2]at hf;cases hf
  rw[f5]at hf;cases hf;have:=(e8 j kv _ en f4 f2).1;simp[Instr.lookup,run_underlying h1,MapKept.run_getObj_map e3,h2.check w _ hkok,f1,this,Result.andThen]
 exact(QC W H rfl rfl (v:=.map (some c)) (by simp[execOp,q1,hrun]) (.sub hb)).step
theorem mp_lookC{t:TypeId}{x k:Operand}{kd kd2:MK}{ks:List (Value×List (Value×Value))}{kv:Value}(ho:op= .lookup t x k false)(hx:ev x= .cmapM kd kd2 ks)(hm:mty P t=some (kd,.map none))(hk:keyV (ev k)=some kv)(his:kd.is kv=true):MpOp P op ev h n {v:=.cmap kd2 ((Q3a kv ks).getD [])}:=by
 subst ho;refine⟨⟨by simp,by simp,by simp,by simp⟩,λ_=>⟨rfl,rfl⟩,λq=>(by cases q),fun {C o a w g h'} q1 q2 q5 W H q6 q7=>?_⟩;obtain⟨kt,et,h1,h2,h3,h4⟩:=Q3h hm;have hxx:=q5 x (by simp[zH]);rw[hx]at hxx;obtain⟨hkv,hkok⟩:=Q4z hk his (q5 k (by simp[zH]));generalize hxe:a.eval x=xv at hxx;cases hxx with
 |r hr=>
 cases hr with
 |@cmapM _ _ _ b ents clk r1 e3 e4 e5 e6 e7 e8=>
 have key:∃v,(Instr.lookup t (a.eval x) (a.eval k) false).run P w= .ok v w∧RRel w g.R v (.cmap kd2 ((Q3a kv ks).getD [])):=by
  rw[hxe,hkv];rcases Q7L h2 w e4 e5 e7 hkok with⟨f1,f2,_⟩|⟨j,en,y,f1,f2,f3,f4,f5,_⟩
  ·refine⟨.map none,?_,?_⟩
   ·simp[Instr.lookup,run_underlying h1,MapKept.run_getObj_map e3,h2.check w _ hkok,f1,h4,Result.andThen]
   rw[f2];exact .nilm
  refine⟨en.val,?_,?_⟩
  ·simp[Instr.lookup,run_underlying h1,MapKept.run_getObj_map e3,h2.check w _ hkok,f1,Result.andThen]
  rw[f5];exact e8 j kv y en f4 f2
 obtain⟨v,r1,r2⟩:=key;exact(QC W H rfl rfl (v:=v) (by simp[execOp,q1,r1]) (.r r2)).step
theorem mp_updG{t:TypeId}{x k y:Operand}{id c:Nat}{kd kd2:MK}{z:Value}{ks:List (Value×GI)}{k0 kv v:Value}{es:List (Value×Value)}(ho:op= .mapUpdate t x k y)(hx:ev x= .sub id c)(hh:h id=some (.mapE (.ext (Q10 kd kd2 ks)) []))(hm:mty P t=some (kd2,z))(hk:keyV (ev k)=some kv)(his:kd2.is kv=true)(hy:ev y= .val v)(hf:Q3a k0 ks=some (.owa c es))(hlen:es.length<1099511627776)(hn:id<n):
  MpOp P op ev h n {v:=.bot,set:=[(id,.mapE (.ext (Q10 kd kd2 (kset k0 (.owa c (mset kv v es)) ks))) [])]}:=by
 subst ho;refine⟨⟨by simp,by simp,by simp,by simp[hn]⟩,λh=>by simp[Q1x]at h,λq=>(by cases q),fun {C o a w g h'} q1 q2 q5 W H q6 q7=>?_⟩;obtain⟨kt,et,h1,h2,h3,h4⟩:=Q3h hm;have hxx:=q5 x (by simp[zH]);rw[hx]at hxx;obtain⟨hv,b,hb⟩:=hxx.sub_eq;obtain⟨hkv,hkok⟩:=Q4z hk his (q5 k (by simp[zH]));have hyy:=q5 y (by simp[zH]);rw[hy]at hyy;obtain⟨hyv,hysc⟩:=hyy.val_eq;obtain⟨b',ents,clk,e1,e2,e3,e0,e4,e5,e6,e7,e8⟩:=Q7R H (q2 _ _ hh) hb;simp only[Bk.mk.injEq,qA,and_true]at e1;subst e1;obtain⟨j,j1,j2⟩:=kset_at hf;have hob:=ownl_iff.1 e2;have hsz:ents.size=ks.length:=by have:=congrArg List.length e4;simpa using this
 have hjlt:j<ks.length:=(List.getElem?_eq_some_iff.1 j1).1;obtain⟨hen,hlc,⟨en2,clk2,hobj,hborn,hents⟩,hok⟩:=e8 j k0 _ ents[j] j1 (zK (by omega));have hcb:c≠b:=by rintro rfl;rw[e2]at hlc;cases hlc
 have hrun:∃ents' clk',(Instr.mapUpdate t (a.eval x) (a.eval k) (a.eval y)).run P w= .ok () {w with heap:=w.heap.setIfInBounds c (.map ents' clk')}∧Born ents' clk'∧ents'.toList.map (λe=>(e.key,e.val))=mset kv v es:=by
  rw[hv,hkv,hyv];rcases Q7D h2 w hents hok hkok with⟨f1,_,f2,_⟩|⟨i,en,f1,f2,f3,_,f4⟩
  ·refine⟨en2.push {key:=kv,val:=v,born:=clk2},clk2+1,?_,hborn.push,?_⟩
   ·simp[Instr.mapUpdate,run_underlying h1,MapKept.run_getObj_map hobj,h2.check w _ hkok,f1,MapKept.run_setObj_map _ hobj,Result.andThen]
   rw[f2];simp[←hents]
  have hj:en2[i]? =some en:=by simpa using f2
  refine⟨en2.modify i λe=>{e with key:=kv,val:=v},clk2,?_,hborn.modify (λ_=>rfl),?_⟩
  ·simp[Instr.mapUpdate,run_underlying h1,MapKept.run_getObj_map hobj,h2.check w _ hkok,f1,hj,f3,h2.stays w hkok,MapKept.run_setObj_map _ hobj,Result.andThen]
  rw[f4,←hents];apply List.ext_getElem?;intro q;simp only[yF,yH,yI,List.getElem?_set,List.length_map,Array.length_toList];have hlt:i<en2.size:=(Array.getElem?_eq_some_iff.1 hj).1
  by_cases hij:i=q
  ·subst hij;simp[hj,hlt]
  simp[hij]
 obtain⟨ents',clk',r1,r2,r3⟩:=hrun;obtain⟨hs1,hs2⟩:=MapKept.heap_set (o':=.map ents' clk') hobj;have hoc:=ownl_iff.1 hlc;obtain⟨w1,w2,w3,w4⟩:=Qaz (ents':=ents') (clk':=clk') (kd':=.ext (Q10 kd kd2 (kset k0 (.owa c (mset kv v es)) ks))) (es':=[]) (e:={v:=.bot,set:=[(id,.mapE (.ext (Q10 kd kd2 (kset k0 (.owa c (mset kv v es)) ks))) [])]}) W H hoc hobj (q2 _ _ hh) rfl rfl λbk hbk=>by
  rw[hb]at hbk;cases hbk;refine .inl ⟨_,rfl,b,ents,clk,rfl,e2,(hs2 b (Ne.symm hcb)).trans e3,e0,?_,?_,?_,λp hp=>?_,λi kv2 x2 en g1 g2=>?_⟩
  ·rw[j2,Q27 j1];exact e4
  ·rw[j2,Q27 j1];exact e5
  ·rw[j2];simpa using e6
  ·rw[j2]at hp;rcases List.mem_or_eq_of_mem_set hp with hp|rfl
   ·exact e7 p hp
   exact e7 (k0,.owa c es) (yG j1)
  rw[j2]at g1
  by_cases hij:i=j
  ·subst hij;rw[List.getElem?_set_self hjlt]at g1;cases g1;rw[zK (by omega)]at g2;cases g2;refine⟨hen,hlc,⟨ents',clk',hs1,r2,r3⟩,?_,Q7a _ _ _ hok.2.1,λp hp=>?_⟩
   ·have:=QaA kv v es;omega
   rcases QaB hp with h|⟨h,h'⟩
   ·exact hok.2.2 p h
   rw[h,h'];exact⟨hkok,hysc⟩
  rw[List.getElem?_set_ne (Ne.symm hij)]at g1;exact(e8 i kv2 x2 en g1 g2).move (λb2 hb2=>⟨hb2,hs2 b2 (by rintro rfl;have:=(W.R b2 hb2).2;rw[hoc]at this;cases this)⟩) λb2 hb2=>⟨hb2,hs2 b2 (by rintro rfl;rw[hlc]at hb2;simp at hb2;exact hij hb2.symm)⟩
 intro K Q kk;exact Q2A (by simp[execOp,q1,r1]) (kk undef _ g.R g.o g.ρ .refl w1 w2 (λ_ _ h=>h) (λ_ _ h=>.inl h) .bot w3)
end
theorem w_kindEx{P:Program}{F:Fx}{c:Code}{AQ:Exit→St→Prop}{st:St}{T:Nat→St}{j:Nat}{kd:MK}{kd':Nat→MK}{es:List (Value×Value)}(hj:look j st.h=some (.mapE kd es))(hk:∀(w:World) (g:Gh) (bk:Bk),MapRel w g j bk kd es→∃b,MapRel w g j bk (kd' b) [])(hs:∀b,∀q∈(T b).s,st.get q.1=q.2∨q.2= .bot)(hn:∀b,(T b).n=st.n)(hh:∀b,∀q∈(T b).h,(q.1=j∧q.2= .mapE (kd' b) [])∨(look q.1 st.h=some q.2∧(match q.2 with|.ali _ _ _ _=>False|_=>True)))(h:∀b,Wp P F c AQ (T b)):Wp P F c AQ st:=by
 intro a w ⟨R,hX,hr0⟩;obtain⟨r1,r2,r3,o,ρ,W,H,hx,hρ,hpn⟩:=hr0;have hb:∃b,∀bk,ρ j=some bk→MapRel w ⟨R,o,ρ⟩ j bk (kd' b) []:=by
  cases hr:ρ j with
  |none=>exact⟨0,λbk h=>by cases h⟩
  |some bk=>
   obtain⟨b,h1⟩:=hk w ⟨R,o,ρ⟩ bk (H.map j _ _ bk hj hr);exact⟨b,λbk' h=>by cases h;exact h1⟩
 obtain⟨b,hb⟩:=hb;refine h b a w ?_;have hent:∀id e,(T b).hp id=some e→(id=j∧e= .mapE (kd' b) [])∨(st.hp id=some e∧(match e with|.ali _ _ _ _=>False|_=>True)):=λid e h=>hh b (id,e) (Qf h);refine⟨R,hX,r1,r2,λid x hx'=>?_,o,ρ,⟨W.R,W.o,W.os,W.tape,W.output,W.size,W.keep⟩,
  ⟨λid z xs bk h1 h2=>?_,λid z xs bk h1 h2=>?_,λid c i' k' z bk h1 h2=>?_,λid kd xs bk h1 h2=>?_⟩,λt=>?_,λid kk hk'=>?_,λid hid=>hpn.1 id hid,by rw[hn];exact hpn.2⟩
 ·rw[hn];rcases hent id x hx' with⟨rfl,_⟩|⟨h,_⟩
  ·exact r3 _ _ hj
  exact r3 _ _ h
 ·rcases hent id _ h1 with⟨_,h⟩|⟨h,_⟩
  ·cases h
  exact H.mix id z xs bk h h2
 ·rcases hent id _ h1 with⟨_,h⟩|⟨h,_⟩
  ·cases h
  exact H.row id z xs bk h h2
 ·rcases hent id _ h1 with⟨_,h⟩|⟨_,h⟩
  ·cases h
  exact h.elim
 ·rcases hent id _ h1 with⟨rfl,h⟩|⟨h,_⟩
  ·cases h;exact hb bk h2
  exact H.map id kd xs bk h h2
 ·cases hl:look t (T b).s with
  |none=>simp only[St.get,hl,zO];exact .bot
  |some v=>
   simp only[St.get,hl,zL];rcases hs b _ (Qf hl)with h|h
   ·simp only at h;rw[←h];exact hx t
   simp only at h;rw[h];exact .bot
 rw[hn];exact hρ id kk hk'
theorem Qap{β:Type}{k:Value}{v:β}:∀{ks:List (Value×β)},∃j,(kset k v ks)[j]? =some (k,v)∧∀v',kset k v' ks=(kset k v ks).set j (k,v'):=by
 intro ks
 induction ks with
 |nil=>exact⟨0,rfl,λ_=>rfl⟩
 |cons p r ih=>
  obtain⟨a,x⟩:=p
  by_cases h:a=k
  ·exact⟨0,by simp[kset,h],λv'=>by simp[kset,h]⟩
  obtain⟨j,h1,h2⟩:=ih;exact⟨j+1,by simpa[kset,h]using h1,λv'=>by simp[kset,h,h2 v']⟩
theorem Q75{β:Type}{k:Value}{v:β}:∀{ks:List (Value×β)},Q3a k (kset k v ks)=some v:=by
 intro ks
 induction ks with
 |nil=>simp[kset,Q3a]
 |cons p r ih=>
  obtain⟨a,x⟩:=p
  by_cases h:a=k
  ·simp[kset,Q3a,h]
  simp[kset,Q3a,h,ih]
theorem kset_kset{β:Type}{k:Value}{v v':β}:∀{ks:List (Value×β)},kset k v' (kset k v ks)=kset k v' ks:=by
 intro ks
 induction ks with
 |nil=>simp[kset]
 |cons p r ih=>
  obtain⟨a,x⟩:=p
  by_cases h:a=k
  ·simp[kset,h]
  simp[kset,h,ih]
theorem mapG_one{kd kd2:MK}{ks:List (Value×GI)}{k0:Value}{x y:GI}{j:Nat}{w:World}{g:Gh}{bk:Bk}(h:MapRel w g j bk (.ext (Q10 kd kd2 (kset k0 x ks))) [])(hx:∀(i:Nat) (v:Value),IRel kd2 w g.R (ownl g.o j) i v x→IRel kd2 w g.R (ownl g.o j) i v y):MapRel w g j bk (.ext (Q10 kd kd2 (kset k0 y ks))) []:=by
 rcases h with⟨x',hx',hp⟩|⟨h0,_⟩
 ·cases hx';obtain⟨b,ents,clk,e1,e2,e3,e0,e4,e5,e6,e7,e8⟩:=hp;obtain⟨i0,p1,p2⟩:=Qap (k:=k0) (v:=x) (ks:=ks);have hlt:=(List.getElem?_eq_some_iff.1 p1).1;refine .inl ⟨_,rfl,b,ents,clk,e1,e2,e3,e0,?_,?_,?_,λp hp=>?_,λi kv a en g1 g2=>?_⟩
  ·rw[p2 y,Q27 p1];exact e4
  ·rw[p2 y,Q27 p1];exact e5
  ·rw[p2 y];simpa using e6
  ·rw[p2 y]at hp;rcases List.mem_or_eq_of_mem_set hp with hp|rfl
   ·exact e7 p hp
   exact e7 (k0,x) (yG p1)
  rw[p2 y]at g1
  by_cases hij:i0=i
  ·subst hij;rw[List.getElem?_set_self hlt]at g1;cases g1;exact hx _ _ (e8 i0 k0 x en p1 g2)
  rw[List.getElem?_set_ne hij]at g1;exact e8 i kv a en g1 g2
 exact absurd rfl (h0 _)
theorem mapG_own{kd kd2:MK}{ks:List (Value×GI)}{k0:Value}{es:List (Value×Value)}{b j:Nat}(w:World)(g:Gh)(bk:Bk)(h:MapRel w g j bk (.ext (Q10 kd kd2 (kset k0 (.owa b es) ks))) []):MapRel w g j bk (.ext (Q10 kd kd2 (kset k0 (.own es) ks))) []:=
 mapG_one h λi v ⟨h1,h2,h3,h4⟩=>⟨b,h1,h2,h3,h4⟩
theorem mapG_owa{kd kd2:MK}{ks:List (Value×GI)}{k0:Value}{es:List (Value×Value)}{j:Nat}(w:World)(g:Gh)(bk:Bk)(h:MapRel w g j bk (.ext (Q10 kd kd2 (kset k0 (.own es) ks))) []):∃b,MapRel w g j bk (.ext (Q10 kd kd2 (kset k0 (.owa b es) ks))) []:=by
 have h':=h;rcases h with⟨x',hx',hp⟩|⟨h0,_⟩
 ·cases hx';obtain⟨b,ents,clk,e1,e2,e3,e0,e4,e5,e6,e7,e8⟩:=hp;obtain⟨i0,p1,p2⟩:=Qap (k:=k0) (v:=GI.own es) (ks:=ks);have hlt:=(List.getElem?_eq_some_iff.1 p1).1;have hsz:i0<ents.size:=by
   have:=congrArg List.length e4;simp only[List.length_map,Array.length_toList]at this;omega
  obtain⟨b2,q1,q2,q3,q4⟩:=e8 i0 k0 _ _ p1 (zK hsz);refine⟨b2,.inl ⟨_,rfl,b,ents,clk,e1,e2,e3,e0,?_,?_,?_,λp hp=>?_,λi kv a en g1 g2=>?_⟩⟩
  ·rw[p2,Q27 p1];exact e4
  ·rw[p2,Q27 p1];exact e5
  ·rw[p2];simpa using e6
  ·rw[p2]at hp;rcases List.mem_or_eq_of_mem_set hp with hp|rfl
   ·exact e7 p hp
   exact e7 (k0,.own es) (yG p1)
  rw[p2]at g1
  by_cases hij:i0=i
  ·subst hij;rw[List.getElem?_set_self hlt]at g1;cases g1;rw[zK hsz]at g2;cases g2;exact⟨q1,q2,q3,q4⟩
  rw[List.getElem?_set_ne hij]at g1;exact e8 i kv a en g1 g2
 exact absurd rfl (h0 _)
theorem mapG_new{kd:MK}(hpl:kd.plain=true){kd2:MK}{j:Nat}(w:World)(g:Gh)(bk:Bk)(h:MapRel w g j bk kd []):MapRel w g j bk (.ext (Q10 kd kd2 [])) []:=by
 obtain⟨b,h1,h2,⟨ents,clk,h3,h0,h4⟩,h5⟩:=h.plain (MK.plain_ne hpl);have he:ents=#[]:=by
  have:ents.toList.length=0:=by have:=congrArg List.length h4;simpa using this
  exact Array.eq_empty_of_size_eq_zero (by simpa using this)
 subst he;exact .inl ⟨_,rfl,b,#[],clk,h1,ownl_iff.2 h2,h3,h0,rfl,by simp,by simp,(λp hp=>by cases hp),λj kv es en g1=>by simp at g1⟩
def EC{α β:Type}(ek:α→Value)(em:β→List (Value×Value))(xs:List (α×β)):List (Value×List (Value×Value)):=xs.map λp=>(ek p.1,em p.2)
section
variable {α β:Type}[DecidableEq α]{ek:α→Value}{em:β→List (Value × Value)}
theorem Q64(hi:∀a b,ek a=ek b→a=b)(k:α)(x:β):∀xs:List (α×β),kset (ek k) (.own (em x)) (gown (EC ek em xs))=gown (EC ek em (tset k x xs)):=by
 intro xs
 induction xs with
 |nil=>rfl
 |cons p r ih=>
  obtain⟨a,y⟩:=p;simp only[gown,EC,qK,kset,tset]at ih⊢
  by_cases h:a=k
  ·subst h;simp
  rw[if_neg (λq=>h (hi _ _ q)),if_neg h];simp only[qK,List.cons.injEq,true_and];exact ih
theorem kfind_EC(hi:∀a b,ek a=ek b→a=b)(k:α):∀xs:List (α×β),Q3a (ek k) (EC ek em xs)=(QO k xs).map em:=by
 intro xs
 induction xs with
 |nil=>rfl
 |cons p r ih=>
  obtain⟨a,y⟩:=p;simp only[EC,qK,Q3a,QO]at ih⊢
  by_cases h:a=k
  ·subst h;simp
  rw[if_neg (λq=>h (hi _ _ q)),if_neg h];exact ih
theorem EC_length(xs:List (α×β)):(gown (EC ek em xs)).length=xs.length:=by simp[gown,EC]
theorem kset_mset{kv v:Value}:∀{es:List (Value×Value)},kset kv v es=mset kv v es:=by
 intro es
 induction es with
 |nil=>rfl
 |cons p r ih=>
  obtain⟨a,x⟩:=p;simp only[kset,mset,ih]
end
section
variable {P:Program}{C:Ctx}{w:World}{g:Gh}{h:HP}{n:Nat}{op:Op}{ev:Operand→AV}{α β γ δ:Type}[DecidableEq α][DecidableEq γ]
theorem mp_entE{ek:α→Value}{ev':β→Value}{k:α}{xs:List (α×β)}{t:TypeId}{x ko:Operand}{id:Nat}{kd:MK}{z:Value}{es2:List (Value×Value)}(ho:op= .mapEntry t x ko)(hx:ev x= .mp id)(hh:h id=some (.mapE kd (Em ek ev' xs)))(hm:mty P t=some (kd,z))(hk:keyV (ev ko)=some (ek k))(his:kd.is (ek k)=true)(hlen:xs.length<1099511627776)(hn:id<n)(he:es2=kent (ek k) z (Em ek ev' xs)):
  MpOp P op ev h n {v:=.tup [.bot,.val (.int .i64 (kidx (ek k) (Em ek ev' xs)))],set:=[(id,.mapE kd es2)]}:=by
 subst he;exact mp_ent ho hx hh hm hk his (by simpa[Em]using hlen) hn
theorem mp_estE{ek:α→Value}{ev':β→Value}(hi:∀a b,ek a=ek b→a=b){k:α}{v:β}{xs:List (α×β)}{t:TypeId}{x s y:Operand}{id:Nat}{kd:MK}{z:Value}{es2:List (Value×Value)}(ho:op= .entryStore t x s y)(hx:ev x= .mp id)(hh:h id=some (.mapE kd (kent (ek k) z (Em ek ev' xs))))(hpl:kd.plain=true)(hs:ev s= .val (.int .i64 (kidx (ek k) (Em ek ev' xs))))(hy:ev y= .val (ev' v))(hn:id<n)(he:es2=Em ek ev' (tset k v xs)):MpOp P op ev h n {v:=.bot,set:=[(id,.mapE kd es2)]}:=by
 subst he;exact mp_est ho hx hh hpl hs (kidx_lt (z:=z)) hy (by rw[Q6a (z:=z),kset_mset,Q7U hi]) hn
theorem mp_entGE{ek:α→Value}{em:β→List (Value×Value)}{k:α}{xs:List (α×β)}{t:TypeId}{x ko:Operand}{id:Nat}{kd kd2:MK}(ho:op= .mapEntry t x ko)(hx:ev x= .mp id)(hh:h id=some (.mapE (.ext (Q10 kd kd2 (gown (EC ek em xs)))) []))(hm:mty P t=some (kd,.map none))(hk:keyV (ev ko)=some (ek k))(his:kd.is (ek k)=true)(hlen:xs.length<1099511627776)(hn:id<n):
  MpOp P op ev h n {v:=.tup [.bot,.val (.int .i64 (kidx (ek k) (gown (EC ek em xs))))],set:=[(id,.mapE (.ext (Q10 kd kd2 (kent (ek k) .nil (gown (EC ek em xs))))) [])]}:=
 mp_entG ho hx hh hm hk his (by rw[EC_length];exact hlen) hn
theorem mp_estGE{ek:α→Value}{em:β→List (Value×Value)}(hi:∀a b,ek a=ek b→a=b){k:α}{y0:β}{xs:List (α×β)}{t:TypeId}{x s y:Operand}{id m:Nat}{kd kd2:MK}(ho:op= .entryStore t x s y)(hx:ev x= .mp id)(hh:h id=some (.mapE (.ext (Q10 kd kd2 (kent (ek k) .nil (gown (EC ek em xs))))) []))(hs:ev s= .val (.int .i64 (kidx (ek k) (gown (EC ek em xs)))))(hy:ev y= .mp m)(hmm:h m=some (.mapE kd2 (em y0)))(hpl:kd2.plain=true)(hn:id<n)(hmn:m<n):
  MpOp P op ev h n {v:=.bot,set:=[(id,.mapE (.ext (Q10 kd kd2 (gown (EC ek em (tset k y0 xs))))) [])],del:=[m]}:=
 mp_estG ho hx hh hs kidx_lt hy hmm hpl (by rw[Q6a,Q64 hi]) hn hmn
theorem mp_lookGE{k0:Value}{X:List (Value×GI)}{es:List (Value×Value)}{t:TypeId}{x ko:Operand}{id c:Nat}{kd kd2:MK}(ho:op= .lookup t x ko false)(hx:ev x= .mp id)(hh:h id=some (.mapE (.ext (Q10 kd kd2 (kset k0 (.owa c es) X))) []))(hm:mty P t=some (kd,.map none))(hk:keyV (ev ko)=some k0)(his:kd.is k0=true):MpOp P op ev h n {v:=.sub id c}:=
 mp_lookG ho hx hh hm hk his Q75
theorem mp_updGE{ek2:γ→Value}{ev2:δ→Value}(hi:∀a b,ek2 a=ek2 b→a=b){k2:γ}{v2:δ}{cur:List (γ×δ)}{k0:Value}{X:List (Value×GI)}{es2:List (Value×Value)}{t:TypeId}{x ko y:Operand}{id c:Nat}{kd kd2:MK}{z:Value}(ho:op= .mapUpdate t x ko y)(hx:ev x= .sub id c)(hh:h id=some (.mapE (.ext (Q10 kd kd2 (kset k0 (.owa c (Em ek2 ev2 cur)) X))) []))(hm:mty P t=some (kd2,z))(hk:keyV (ev ko)=some (ek2 k2))(his:kd2.is (ek2 k2)=true)(hy:ev y= .val (ev2 v2))(hlen:cur.length<1099511627776)(hn:id<n)(he:es2=Em ek2 ev2 (tset k2 v2 cur)):MpOp P op ev h n {v:=.bot,set:=[(id,.mapE (.ext (Q10 kd kd2 (kset k0 (.owa c es2) X))) [])]}:=by
 subst he;have:=mp_updG ho hx hh hm hk his hy (k0:=k0) Q75 (by simpa[Em]using hlen) hn
 rwa[kset_kset,Q7U hi]at this
theorem mp_lookCE{ek:α→Value}{em:β→List (Value×Value)}(hi:∀a b,ek a=ek b→a=b){k:α}{d:β}{xs:List (α×β)}{t:TypeId}{x ko:Operand}{kd kd2:MK}(ho:op= .lookup t x ko false)(hx:ev x= .cmapM kd kd2 (EC ek em xs))(hm:mty P t=some (kd,.map none))(hk:keyV (ev ko)=some (ek k))(his:kd.is (ek k)=true)(hd:em d=[]):MpOp P op ev h n {v:=.cmap kd2 (em ((QO k xs).getD d))}:=by
 have:=mp_lookC (h:=h) (n:=n) ho hx hm hk his;rw[kfind_EC hi]at this;cases hf:QO k xs with
 |none=>rw[hf]at this;simpa[hd]using this
 |some y=>rw[hf]at this;simpa using this
end
section
variable {F:Fx}{st st':St}{α β:Type}[DecidableEq α]
theorem wk_newG{ek:α→Value}{em:β→List (Value×Value)}{j:Nat}{kd kd2:MK}(hpl:kd.plain=true)(hj:look j st.h=some (.mapE kd []))(hs:∀q∈st'.s,st.get q.1=q.2∨q.2= .bot)(hn:st'.n=st.n)(hh:∀q∈st'.h,(q.1=j∧q.2= .mapE (.ext (Q10 kd kd2 (gown (EC ek em [])))) [])∨(look q.1 st.h=some q.2∧(match q.2 with|.ali _ _ _ _=>False|_=>True))):Wk F st st':=
 Wk.kind hj (λw g bk h=>mapG_new hpl w g bk h) hs hn hh
theorem wk_closeG{ek:α→Value}{em:β→List (Value×Value)}(hi:∀a b,ek a=ek b→a=b){j b:Nat}{k:α}{y0:β}{xs:List (α×β)}{kd kd2:MK}(hj:look j st.h=some (.mapE (.ext (Q10 kd kd2 (kset (ek k) (.owa b (em y0)) (gown (EC ek em xs))))) []))(hs:∀q∈st'.s,st.get q.1=q.2∨q.2= .bot)(hn:st'.n=st.n)(hh:∀q∈st'.h,(q.1=j∧q.2= .mapE (.ext (Q10 kd kd2 (gown (EC ek em (tset k y0 xs))))) [])∨(look q.1 st.h=some q.2∧(match q.2 with|.ali _ _ _ _=>False|_=>True))):Wk F st st':=
 Wk.kind hj (λw g bk h=>by have:=mapG_own w g bk h;rwa[Q64 hi]at this) hs hn hh
theorem w_openG{P:Program}{c:Code}{AQ:Exit→St→Prop}{T:Nat→St}{ek:α→Value}{em:β→List (Value×Value)}(hi:∀a b,ek a=ek b→a=b){j:Nat}{k:α}{y0:β}{xs:List (α×β)}{kd kd2:MK}(hj:look j st.h=some (.mapE (.ext (Q10 kd kd2 (gown (EC ek em (tset k y0 xs))))) []))(hs:∀b,∀q∈(T b).s,st.get q.1=q.2∨q.2= .bot)(hn:∀b,(T b).n=st.n)(hh:∀b,∀q∈(T b).h,(q.1=j∧q.2= .mapE (.ext (Q10 kd kd2 (kset (ek k) (.owa b (em y0)) (gown (EC ek em xs))))) [])∨(look q.1 st.h=some q.2∧(match q.2 with|.ali _ _ _ _=>False|_=>True)))(h:∀b,Wp P F c AQ (T b)):Wp P F c AQ st:=
 w_kindEx (kd':=λb=>.ext (Q10 kd kd2 (kset (ek k) (.owa b (em y0)) (gown (EC ek em xs))))) hj (λw g bk h=>by rw[←Q64 hi]at h;exact mapG_owa w g bk h) hs hn hh h
end
end
section
attribute [local simp] Qa QD Qo
def Q8A(Res:Nat→St→Prop)(AQ:Exit→St→Prop):Exit→St→Prop
 | .goto l,st=>Res l st
 |e,st=>AQ e st
theorem gar{Res:Nat→St→Prop}{AQ:Exit→St→Prop}{st:St}(h:AQ .ret st):Q8A Res AQ .ret st:=h
section
variable {P:Program}{F:Fx}{AQ:Exit→St→Prop}{st:St}
theorem w_goto{l:Nat}(h:AQ (.goto l) st):Wp P F (.goto l) AQ st:=λa w hr=>wp_goto ⟨st,hr,h⟩
theorem w_scopeG{c:Code}(h:∀Res:Nat→St→Prop,(∀l rest st,findLabel c l=some rest→Wp P F rest (Q8A Res AQ) st→Res l st)→Wp P F c (Q8A Res AQ) st):Wp P F (.scope c) AQ st:=by
 intro a w hr b k cs
 let Res:Nat→St→Prop:=λl st'=>∃rest,findLabel c l=some rest∧∀a w,RelX F a w st'→∃e a' w',conc F AQ e a' w'∧Arrives P (lone (b.at a (.code rest::.inScope c::k)) cs w) b k cs e a' w'
 have core:∀(x:Code) (st:St),Wp P F x (Q8A Res AQ) st→∀a w,RelX F a w st→∃e a' w',conc F AQ e a' w'∧Arrives P (lone (b.at a (.code x::.inScope c::k)) cs w) b k cs e a' w':=by
  intro x st hx a w hr;obtain⟨e,a₁,w₁,⟨st',h1,h2⟩,harr⟩:=hx a w hr b (.inScope c::k) cs;cases e with
  |normal=>exact⟨.normal,a₁,w₁,⟨st',h1,h2⟩,Steps.trans harr (.one step_inScope)⟩
  |exit id=>exact⟨.exit id,a₁,w₁,⟨st',h1,h2⟩,λk' hk=>harr k' (by simp[exitTo,hk])⟩
  |goto l=>
   obtain⟨rest,hf,hres⟩:=h2;obtain⟨e2,a2,w2,q2,harr2⟩:=hres a₁ w₁ h1;exact⟨e2,a2,w2,q2,.of_steps (harr _ (by simp[gotoIn,hf])) harr2⟩
  |ret=>exact⟨_,a₁,w₁,⟨st',h1,h2⟩,harr⟩
  |panic ch=>exact⟨_,a₁,w₁,⟨st',h1,h2⟩,harr⟩
  |outgrown=>exact⟨_,a₁,w₁,⟨st',h1,h2⟩,harr⟩
 obtain⟨e,a',w',hq,harr⟩:=core c st (h Res λl rest st' hf hw=>⟨rest,hf,λa w hr=>core rest st' hw a w hr⟩) a w hr;exact⟨e,a',w',hq,.of_steps (.one step_scope) harr⟩
theorem QaT{σ ε:Type}{c rest:Code}{Res:Nat→St→Prop}{body:σ→Option (Ctl σ ε)}{N l:Nat}{s0:σ}{e:ε}(H:∀l rest st,findLabel c l=some rest→Wp P F rest (Q8A Res AQ) st→Res l st)(hf:findLabel c l=some (.seq .skip rest))(h:Qd body N s0=some e)(S:σ→St)(hk:Wk F st (S s0))(round:∀(k:Nat) (s:σ) (c':Ctl σ ε),body s=some c'→QaY body k e c'→(∀s' st',Qd body k s'=some e→Wk F st' (S s')→Res l st')→Wp P F rest (Q8A Res AQ) (S s)):Wp P F rest (Q8A Res AQ) st:=by
 have key:∀k s,Qd body k s=some e→Wp P F rest (Q8A Res AQ) (S s):=by
  intro k
  induction k with
  |zero=>intro s h;cases h
  |succ k ih=>
   intro s hl;simp only[Qd]at hl;cases hb:body s with
   |none=>rw[hb]at hl;cases hl
   |some c'=>
    have hc:QaY body k e c':=by
     rw[hb]at hl;cases c' with
     |next s'=>exact hl
     |ret e'=>simpa[QaY]using hl
    exact round k s c' hb hc λs' st' h' hw=>H l _ st' hf (Q0 (Q7 (Q4 hw (ih s' h'))))
 exact Q4 hk (key N s0 h)
end
end
section
attribute [local simp] Qa QD Qo
mutual
inductive FrA(h:HP)(T:List Nat):AV→AV→Prop
 |ro {a}:a.ro=true→FrA h T a a
 |row {id sz es n}:h id=some (.row sz es)→id∈T→n=es.length→FrA h T (.own id 0 n) (.lst true sz es)
 |lit {id sz es n}:h id=some (.mix sz es)→id∈T→n=es.length→QaI sz es→FrA h T (.own id 0 n) (.lst true sz es)
 |mp {id kd es}:h id=some (.mapE kd es)→id∈T→kd.plain=true→FrA h T (.mp id) (.cmap kd es)
 |adr {id sz cs cs'}:h id=some (.mix sz [cs])→id∈T→cs.length=sz→FrL h T cs cs'→FrA h T (.adr id 0 0) (.rptr cs')
inductive FrL(h:HP)(T:List Nat):List AV→List AV→Prop
 |nil:FrL h T [] []
 |cons {a a' cs cs'}:FrA h T a a'→FrL h T cs cs'→FrL h T (a::cs) (a'::cs')
end
def fzd(T:List Nat)(o:Nat→Option (List Nat)):Nat→Option (List Nat):=λb=>match o b with
 |some (x::M)=>if x∈T then none else some (x::M)
 |y=>y
theorem Q62{T:List Nat}{o:Nat→Option (List Nat)}{b x:Nat}{M:List Nat}(h:o b=some (x::M))(hx:x∉T):fzd T o b=some (x::M):=by
 simp only[fzd,h,if_neg hx]
theorem fzd_none{T:List Nat}{o:Nat→Option (List Nat)}{b x:Nat}{M:List Nat}(h:o b=some (x::M))(hx:x∈T):fzd T o b=none:=by
 simp[fzd,h,hx]
theorem fzd_some{T:List Nat}{o:Nat→Option (List Nat)}{b:Nat}{L:List Nat}(h:fzd T o b=some L):o b=some L:=by
 unfold fzd at h;split at h
 ·split at h
  ·cases h
  rename_i hb _;rw[hb];exact h
 exact h
def only(id:Nat)(o:Nat→Option (List Nat)):Nat→Option (List Nat):=λb=>match o b with
 |some (x::M)=>if x=id then some (x::M)else none
 |_=>none
theorem only_some{id:Nat}{o:Nat→Option (List Nat)}{b:Nat}{L:List Nat}(h:only id o b=some L):∃M,o b=some (id::M):=by
 unfold only at h;split at h
 ·rename_i x M hb
  by_cases hx:x=id
  ·exact⟨M,by rw[hb,hx]⟩
  simp[hx]at h
 cases h
def RT(g:Gh)(T:List Nat):Nat→Prop:=λb=>g.R b∨∃id M,id∈T∧g.o b=some (id::M)
mutual
theorem FrA.rel{w:World}{g:Gh}{h:HP}{T:List Nat}(H:HRel w g h):∀{a a':AV} {v:Value},FrA h T a a'→XRel w g.R g.ρ v a→RRel w (RT g T) v a'
 |a,_,v,.ro hr,hv=>(hv.toR hr).mono λb hb=>⟨.inl hb,rfl⟩
 |_,_,v,.row (id:=id) (sz:=sz) (es:=es) (n:=n) hi hT hn,hv=>by
  rcases hv.own_eq with⟨sz',cap,e1,e2,_,e4⟩|⟨b,sz',cap,cc,x,e1,e2,e3,e4,e5,e6,e7⟩
  ·rw[e2];have:es=[]:=List.length_eq_zero_iff.1 (by omega);subst this;exact .nil (by simp)
  obtain⟨v0,t1,t2⟩:=H.row id sz es _ hi e1;have hx0:x=0:=e6 rfl;subst hx0;rw[e2];have t1':RRel w (RT g T) v0 (.lst true sz es):=(t1.mono (R':=g.R) (o':=only id g.o) [id] (λb M hb=>⟨by
   have h3:g.o b=some (id::M):=(by simpa using hb);simp[only,h3],rfl⟩)).pure λb hb=>by
    rcases hb with hb|⟨L,hb⟩
    ·exact .inl hb
    obtain⟨M,hM⟩:=only_some hb;exact .inr ⟨id,M,hT,hM⟩
  cases t2 with
  |own=>
   cases t1' with
   |nil h1=>subst hn;exact .nil (by omega)
   |lst us q1 q2 q3 q4 q5 q6 q7 q8=>
    subst hn;exact .lst us q1 q2 (by omega) (by omega) q5 q6 q7 q8
 |_,_,v,.lit (id:=id) (sz:=sz) (es:=es) (n:=n) hi hT hn hr,hv=>by
  rcases hv.own_eq with⟨sz',cap,e1,e2,_,e4⟩|⟨b,sz',cap,cc,x,e1,e2,e3,e4,e5,e6,e7⟩
  ·rw[e2];have:es=[]:=List.length_eq_zero_iff.1 (by omega);subst this;exact .nil (by simp)
  obtain⟨b',cur,el,us,cp,p1,p2,p3,p4,p5,p6,p7,p8,p9,p10⟩:=(H.mix id sz es _ hi e1).ex (by simp);simp only[Bk.mk.injEq,qA]at p1;obtain⟨rfl,rfl,rfl⟩:=p1;have hx0:x=0:=e6 rfl;subst hx0;rw[e2];subst hn;refine .lst us (.inr ⟨id,[],hT,p2⟩) p3 e4 (by omega) p7 (λi k hi hk=>by rw[Nat.zero_add];exact p8 i k hi hk) p9 λi k hi hk=>?_;have hm:es.getD i []∈es:=by simp[qB,qF hi]
  have hk':k<(es.getD i []).length:=by rw[(hr _ hm).1];exact hk
  have hro:((es.getD i []).getD k .bot).ro=true:=(hr _ hm).2 _ (by
   generalize es.getD i []=q at hk';simp[qB,qF hk'])
  exact((p10 i k hi hk).toR hro).mono λb hb=>⟨.inl hb,rfl⟩
 |_,_,v,.mp (id:=id) (kd:=kd) (es:=es) hi hT hp,hv=>by
  cases hv with
  |r h=>cases h
  |mp e=>
   obtain⟨b',h1,h2,h3,h4⟩:=(H.map id kd es _ hi e).plain (MK.plain_ne hp);simp only[Bk.mk.injEq,qA]at h1;obtain⟨rfl,_,_⟩:=h1;exact .cmap (.inr ⟨id,[],hT,h2⟩) h3 h4
 |_,_,v,.adr (id:=id) (sz:=sz) (cs:=cs) (cs':=cs') hi hT hz hl,hv=>by
  cases hv with
  |r h=>cases h
  |@adr _ b sz' cap _ _ e=>
   obtain⟨b',cur,el,us,cp,p1,p2,p3,p4,p5,p6,p7,p8,p9,p10⟩:=(H.mix id sz [cs] _ hi e).ex (by simp);simp only[Bk.mk.injEq,qA]at p1;obtain⟨rfl,rfl,rfl⟩:=p1;have hL:=hl.rel H (vs:=us 0) λk hk=>by
    have:=p10 0 k (by simp) (by omega);simpa using this
   refine .rptr (us 0) (.inr ⟨id,[],hT,p2⟩) p3 (λk hk=>?_) (λk hk=>?_) λk hk=>hL.2 k hk
   ·have:=p8 0 k (by simp) (by rw[←hz,←hL.1];exact hk);simpa using this
   exact p9 0 k (by simp) (by rw[←hz,←hL.1];exact hk)
theorem FrL.rel{w:World}{g:Gh}{h:HP}{T:List Nat}(H:HRel w g h):∀{cs cs':List AV} {vs:Nat→Value},FrL h T cs cs'→(∀k,k<cs.length→XRel w g.R g.ρ (vs k) (cs.getD k .bot))→
  cs'.length=cs.length∧∀k,k<cs'.length→RRel w (RT g T) (vs k) (cs'.getD k .bot)
 |_,_,vs,.nil,_=>⟨rfl,λk hk=>by simp at hk⟩
 |_,_,vs,.cons (a:=a) (a':=a') (cs:=cs) (cs':=cs') h1 h2,hv=>by
  have hh:=h1.rel H (v:=vs 0) (hv 0 (by simp));have ht:=h2.rel H (vs:=λk=>vs (k+1)) λk hk=>by
   have:=hv (k+1) (by simpa using hk);simpa using this
  refine⟨by simp[ht.1],λk hk=>?_⟩;cases k with
  |zero=>exact hh
  |succ k=>simpa using ht.2 k (by simpa using hk)
end
theorem frz_n{α:Type}{p:α→Prop}:∀x∈([]:List α),p x:=by simp
theorem Q5f{α:Type}{p:α→Prop}{q:α}{l:List α}(h:p q)(t:∀x∈l,p x):∀x∈q::l,p x:=by simpa using⟨h,t⟩
theorem Wk.frzD{F:Fx}{st st':St}(hW:∀b,¬F.C.wrb b)(T:List Nat)(hs:∀q∈st'.s,st.get q.1=q.2∨q.2= .bot∨FrA st.hp T (st.get q.1) q.2)(hn:st'.n=st.n)(hh:∀q∈st'.h,q.1∉T∧look q.1 st.h=some q.2∧(match q.2 with|.ali _ _ _ _=>False|_=>True)):Wk F st st':=by
 intro a w ⟨R,hX,hr0⟩;obtain⟨r1,r2,r3,o,ρ,W,H,hx,hρ,hpn⟩:=hr0;have hent:∀id e,st'.hp id=some e→id∉T∧st.hp id=some e∧(match e with|.ali _ _ _ _=>False|_=>True):=λid e h=>hh (id,e) (Qf h);have hRR:∀b,R b→RT ⟨R,o,ρ⟩ T b∧w.heap[b]? =w.heap[b]?:=λb hb=>⟨.inl hb,rfl⟩;refine⟨RT ⟨R,o,ρ⟩ T,⟨λb hb=>.inl (hX.1 b hb),λb hb=>?_⟩,r1,r2,λid x hx'=>?_,fzd T o,ρ,⟨λb hb=>?_,λb L hb=>W.o b L (fzd_some hb),W.os,W.tape,W.output,W.size,W.keep⟩,
  ⟨λid z xs bk h1 h2=>?_,λid z xs bk h1 h2=>?_,λid c i' k' z bk h1 h2=>?_,λid kd xs bk h1 h2=>?_⟩,λt=>?_,λid kk hk'=>?_,λid hid=>hpn.1 id hid,by rw[hn];exact hpn.2⟩
 ·rcases hb with hb|⟨id,M,hT,hb⟩
  ·exact hX.2 b hb
  rcases(W.o b _ hb).2 with h|h
  ·exact .inr h
  exact absurd h (hW b)
 ·rw[hn];exact r3 _ _ (hent id x hx').2.1
 ·rcases hb with hb|⟨id,M,hT,hb⟩
  ·have h3:o b=none:=(W.R b hb).2;exact⟨(W.R b hb).1,by simp only[fzd,h3]⟩
  exact⟨(W.o b _ hb).1,fzd_none hb hT⟩
 ·obtain⟨q1,q2,_⟩:=hent id _ h1;rcases(H.mix id z xs bk q2 h2).ex0 with h0|⟨b,cur,el,us,cp,p1,p2,p3,p4,p5,p6,p7,p8,p9,p10⟩
  ·exact⟨.inl h0⟩
  exact .mk' ⟨b,cur,el,us,cp,p1,Q62 p2 q1,p3,p4,p5,p6,p7,p8,p9,λi k hi hk=>(p10 i k hi hk).mono hRR (λ_ _ h=>h)⟩
 ·obtain⟨q1,q2,_⟩:=hent id _ h1;obtain⟨v,t1,t2⟩:=H.row id z xs bk q2 h2;exact⟨v,t1.mono [id] λb M hb=>⟨by
   have h3:o b=some (id::M):=(by simpa using hb);simpa using Q62 h3 q1,rfl⟩,t2⟩
 ·exact(hent id _ h1).2.2.elim
 ·obtain⟨q1,q2,_⟩:=hent id _ h1;exact(H.map id kd xs bk q2 h2).move hRR λb M p2=>⟨Q62 p2 q1,rfl⟩
 ·cases hl:look t st'.s with
  |none=>simp only[St.get,hl,zO];exact .bot
  |some v=>
   simp only[St.get,hl,zL];rcases hs _ (Qf hl)with h|h|h
   ·simp only at h;rw[←h];exact(hx t).mono hRR (λ_ _ h=>h)
   ·simp only at h;rw[h];exact .bot
   exact .r (h.rel H (hx t))
 rw[hn];exact hρ id kk hk'
end
section
attribute [local simp] Qa QD Qo
theorem Q5e{P:Program}{f:Nat}{fn:Func}{c:Code}{args:List AV}{rvs:List ResultVar}{rs:List AV}{res:AV}(hf:P.funcs[f]? =some fn)(hb:fn.body=some c)(hrt:fn.results=rvs.toArray)(hrs:res=QU rs)(hname:(fn.name=="runtime.NumGoroutine")=false)(hN:args.length≤fn.ntmps)(h:∀F:Fx,F.N=fn.ntmps→F.pins=0→(∀b,¬F.C.wrb b)→Wp P F c (retFGQ P rvs rs) ⟨Q2J 0 args,[],0⟩):FContract P true f args res:=by
 subst hrs;refine⟨⟨fn,hf,hname,by rw[hb];rfl⟩,λw R vals hR hsz hx=>?_⟩;refine calls_of_wp hf hb ?_
 let C:Ctx:=⟨w,λ_=>False,λ_=>none,0⟩
 have hrel:Rel C R fn.ntmps {tmps:=vals++Array.replicate (fn.ntmps - vals.size) undef,defers:=[]} w ⟨Q2J 0 args,[],0⟩:=by
  refine⟨by simp;omega,rfl,(λid x h=>by cases h),λ_=>none,noρ,⟨λb hb=>⟨hR b hb,rfl⟩,(λb L hb=>by cases hb),rfl,⟨rfl,Nat.le_refl _⟩,rfl,Nat.le_refl _,λb _ _=>rfl⟩,⟨(λid sz es bk _ hb=>by cases hb),(λid sz es bk _ hb=>by cases hb),(λid c i k sz bk _ hb=>by cases hb),(λid kd es bk _ hb=>by cases hb)⟩,λt=>?_,(λid k hk=>by cases hk),?_⟩;rotate_left
  ·exact⟨λid hid=>absurd hid (Nat.not_lt_zero id),Nat.zero_le _⟩
  simp only[St.get,Q1V]
  by_cases ht:t<args.length
  ·rw[if_pos (by omega)];simp only[Nat.sub_zero,zL];have:=hx t ht;have h2:(vals++Array.replicate (fn.ntmps - vals.size) undef).getD t undef=vals.getD t undef:=by
    simp[Array.getElem?_append,show t<vals.size by omega]
   rw[h2];exact this
  rw[if_neg (by omega)];exact .bot
 refine Q2R (λe a w' hq=>?_) (h ⟨C,R,fn.ntmps,0,rfl⟩ rfl rfl (λ_ q=>q) _ w (.of hrel));obtain⟨st,⟨R',hX,hr⟩,hq⟩:=hq;have fin:RetFG P rvs st rs→a.defers=[]∧∃v,(results fn a.tmps).run P w'= .ok v w'∧∃v' R1,Ending.returned v= .returned v'∧Blw w.heap.size w w'∧(∀b,R1 b→b<w'.heap.size∧((true=true∧R b)∨w.heap.size≤b))∧XRel w' R1 noρ v' (QU rs):=by
  intro hA;obtain⟨az,hg,hl,hp⟩:=hA.ex;obtain⟨_,hdef,_,o,ρ,W,H,hxx,_⟩:=hr;obtain⟨vs,h1,h2,h3⟩:=Q7Z H hxx hg
  let R1:Nat→Prop:=RAll ⟨R',o,ρ⟩
  have hown:∀b L,o b=some L→b<w'.heap.size∧w.heap.size≤b:=λb L hb=>by
   obtain⟨q1,q2⟩:=W.o b L hb;exact⟨q1,q2.resolve_right id⟩
  have hR1:∀b,R1 b→b<w'.heap.size∧((true=true∧R b)∨w.heap.size≤b):=λb hb=>by
   rcases(show RAll ⟨R',o,ρ⟩ b from hb)with hb|⟨L,hb⟩
   ·exact⟨(W.R b hb).1,(hX.2 b hb).imp (λh=>⟨rfl,h⟩) id⟩
   exact⟨(hown b L hb).1,.inr (hown b L hb).2⟩
  have hcell:∀k,k<vs.length→XRel w' R1 noρ (vs.getD k undef) (rs.getD k .bot):=λk hk=>(Q5l H (hp k (by omega)) (h3 k (by omega))).1;refine⟨hdef,_,Q4c hrt h1,_,R1,rfl,⟨W.os,W.tape,W.output,W.size,λb hb=>W.keep b hb id⟩,hR1,?_⟩;have hl2:vs.length=rs.length:=by omega
  match vs,rs,hl2,hcell with
  |[],[],_,_=>exact .tup rfl λk hk=>by simp at hk
  |[t],[r],_,hcell=>exact hcell 0 (by simp)
  |t::u::ts,r::s::rs,hl,hcell=>
   simp only[Q2E,QU];refine .tup (by simp at hl;simp;omega) λk hk=>?_;have hk':k<(t::u::ts).length:=(by simp at hl hk;simp;omega);have:=hcell k hk';have h1:((t::u::ts).toArray).getD k undef=(t::u::ts).getD k undef:=by
    have hk2:k<(t::u::ts).toArray.size:=(by simpa using hk');rw[Array.getD_eq_getD_getElem?,zK hk2,zL];simp only[List.getElem_toArray];rw[qB,qF hk',zL]
   rw[h1];exact this
 cases e with
 |normal=>exact fin hq
 |ret=>exact fin hq
 |_=>exact hq.elim
end
end Go.Vc
