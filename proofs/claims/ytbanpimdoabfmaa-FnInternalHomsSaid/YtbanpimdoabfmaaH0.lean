/- A part of the proof. -/
import Derived.WalkKit
set_option maxRecDepth 100000
set_option maxHeartbeats 4000000
set_option linter.unusedSimpArgs false
set_option linter.unusedVariables false
set_option linter.unusedSectionVars false
set_option linter.unnecessarySimpa false

open Option.some renaming injEq→qA
namespace Go.Vc
open Go
structure Blw(B:Nat)(w w':World):Prop where
 os:w'.os=w.os
 tape:w'.tape=w.tape∧w.drawn≤w'.drawn
 output:w'.output=w.output
 size:w.heap.size≤w'.heap.size
 block:∀k,k<B→w'.heap[k]? =w.heap[k]?
theorem Blw.below{B:Nat}{w w':World}(h:Blw B w w'):RowKit.Below B w w':=⟨h.os,h.tape.1,h.output,h.size,h.block⟩
theorem tpt{a b c:World}(h:a.tape=b.tape∧b.drawn≤a.drawn)(k:b.tape=c.tape∧c.drawn≤b.drawn):a.tape=c.tape∧c.drawn≤a.drawn:=⟨h.1.trans k.1,Nat.le_trans k.2 h.2⟩
structure Bk where
 b:Option Nat
 sz:Nat
 cap:Nat
structure XP where
 p:World→(Nat→Prop)→(Nat→Option (List Nat))→Bk→Prop
 st:∀{w w':World} {R R':Nat→Prop} {l l':Nat→Option (List Nat)} {bk:Bk},p w R l bk→(∀b,R b→R' b∧w'.heap[b]? =w.heap[b]?)→(∀b M,l b=some M→l' b=some M∧w'.heap[b]? =w.heap[b]?)→p w' R' l' bk
inductive MK where
 |int (k:IntKind)
 |str
 |st (n:Nat)
 |ext (x:XP)
 deriving Inhabited
noncomputable instance:DecidableEq MK:=λa b=>Classical.propDecidable (a=b)
def MK.ok:MK→Value→Prop
 | .int k,.int k' n=>k'=k∧k.min≤n∧n≤k.max
 | .str,.string s=>s.size≤maxLen
 | .st n,.agg cs=>∃l:List Int,cs=(l.map (Value.int .i64)).toArray∧l.length=n
 |_,_=>False
inductive AV where
 |val (v:Value)
 |lst (u:Bool) (sz:Nat) (es:List (List AV))
 |own (id off n:Nat)
 |adr (id i k:Nat)
 |rptr (cs:List AV)
 |agg (cs:List AV)
 |tup (vs:List AV)
 |fn (f:Nat) (caps:List AV)
 |bnd (f:Nat) (rs:List AV)
 |ifc (t:Nat) (cs:List AV)
 |ifs (t sz:Nat) (es:List (List AV))
 |mp (id:Nat)
 |cmap (kd:MK) (es:List (Value×Value))
 |cmapM (kd kd2:MK) (ks:List (Value×List (Value×Value)))
 |sub (id c:Nat)
 |bot
 deriving Inhabited
inductive Ent where
 |mix (sz:Nat) (es:List (List AV))
 |row (sz:Nat) (es:List (List AV))
 |ali (id i k sz:Nat)
 |mapE (kd:MK) (es:List (Value×Value))
def sc:Value→Prop
 | .int k n=>k.min≤n∧n≤k.max
 | .bool _=>True
 | .string s=>s.size≤maxLen
 | .pointer none=>True
 | .slice none 0 0=>True
 | .nilFunc=>True
 | .nilIface=>True
 | .map none=>True
 |_=>False
def one(v:Value):Prop:=v.oneCell'=true
def Q7j(kd:MK)(es:List (Value×Value)):Prop:=es.length≤1099511627776∧(es.map Prod.fst).Nodup∧∀p∈es,kd.ok p.1∧sc p.2
def Born(ents:Array MapEntry)(clk:Nat):Prop:=clk=ents.size∧∀(i:Nat) (en:MapEntry),ents[i]? =some en→en.born=i
def MapObj(w:World)(b:Nat)(es:List (Value×Value)):Prop:=∃ents clk,w.heap[b]? =some (.map ents clk)∧Born ents clk∧ents.toList.map (λe=>(e.key,e.val))=es
theorem MapObj.same{w w':World}{b:Nat}{es:List (Value×Value)}(h:MapObj w b es)(hh:w'.heap[b]? =w.heap[b]?):MapObj w' b es:=by
 obtain⟨ents,clk,h1,h0,h2⟩:=h;exact⟨ents,clk,hh.trans h1,h0,h2⟩
theorem Q45{v:Value}(h:sc v):one v:=by
 cases v<;>first|rfl|exact h.elim
inductive RRel(w:World)(R:Nat→Prop):Value→AV→Prop
 |val {v}:sc v→RRel w R v (.val v)
 |nil {a c u sz}:c≤maxLen→RRel w R (.slice a 0 c) (.lst u sz [])
 | lst {u sz es b x cap cur e fr} (us:Nat→Nat→Value):R b→w.heap[b]? = some (.cells cur e fr)→es.length≤cap→cap≤maxLen →
   (∀i,i<es.length→(es.getD i []).length=sz)→
   (∀i k,i<es.length→k<sz→cur[x+i*sz+k]? =some (us i k))→(∀i k,i<es.length→k<sz→one (us i k))→
   (∀i k,i<es.length→k<sz→RRel w R (us i k) ((es.getD i []).getD k .bot))→
   RRel w R (.slice (some ⟨b,x,none⟩) es.length cap) (.lst u sz es)
 | rptr {cs b x cur e fr} (us:Nat→Value):R b→w.heap[b]? = some (.cells cur e fr) →
   (∀k,k<cs.length→cur[x+k]? =some (us k))→(∀k,k<cs.length→one (us k))→(∀k,k<cs.length→RRel w R (us k) (cs.getD k .bot))→
   RRel w R (.pointer (some ⟨b,x,none⟩)) (.rptr cs)
 |fn {f cs az}:cs.size=az.length→(∀k,k<az.length→RRel w R (cs.getD k undef) (az.getD k .bot))→RRel w R (.func (.func f) #[] cs) (.fn f az)
 |bnd {f cs az}:cs.size=az.length→(∀k,k<az.length→RRel w R (cs.getD k undef) (az.getD k .bot))→RRel w R (.func (.func f) cs #[]) (.bnd f az)
 |ifc {t cs az}:cs.size=az.length→(∀k,k<az.length→RRel w R (cs.getD k undef) (az.getD k .bot))→RRel w R (.iface t (.agg cs)) (.ifc t az)
 |ifs {t v sz es}:RRel w R v (.lst true sz es)→RRel w R (.iface t v) (.ifs t sz es)
 |nilm {kd}:RRel w R (.map none) (.cmap kd [])
 |cmap {kd es b}:R b→MapObj w b es→Q7j kd es→RRel w R (.map (some b)) (.cmap kd es)
 | cmapM {kd kd2 ks b ents clk}:R b→w.heap[b]? = some (.map ents clk)→ents.toList.map (·.key)=ks.map Prod.fst→(ks.map Prod.fst).Nodup→ks.length≤1099511627776→(∀ p∈ks,kd.ok p.1) →
   (∀(j:Nat) (kv:Value) (es:List (Value×Value)) (en:MapEntry),ks[j]? =some (kv,es)→ents[j]? =some en→RRel w R en.val (.cmap kd2 es))→RRel w R (.map (some b)) (.cmapM kd kd2 ks)
 |bot {v}:one v→RRel w R v .bot
theorem RRel.mono{w w':World}{R R':Nat→Prop}(hR:∀b,R b→R' b∧w'.heap[b]? =w.heap[b]?){v:Value}{a:AV}(h:RRel w R v a):RRel w' R' v a:=by
 induction h with
 |val h=>exact .val h
 |nil h=>exact .nil h
 |lst us hb hh h1 h2 h3 h4 h5 _ ih=>exact .lst us (hR _ hb).1 ((hR _ hb).2.trans hh) h1 h2 h3 h4 h5 ih
 |rptr us hb hh h1 h2 _ ih=>exact .rptr us (hR _ hb).1 ((hR _ hb).2.trans hh) h1 h2 ih
 |fn h1 _ ih=>exact .fn h1 ih
 |bnd h1 _ ih=>exact .bnd h1 ih
 |ifc h1 _ ih=>exact .ifc h1 ih
 |ifs _ ih=>exact .ifs ih
 |nilm=>exact .nilm
 |cmap hb hm h1=>exact .cmap (hR _ hb).1 (hm.same (hR _ hb).2) h1
 |cmapM hb hm h1 h2 h3 h4 _ ih=>exact .cmapM (hR _ hb).1 ((hR _ hb).2.trans hm) h1 h2 h3 h4 ih
 |bot h=>exact .bot h
theorem RRel.one{w:World}{R:Nat→Prop}{v:Value}{a:AV}(h:RRel w R v a):one v:=by
 cases h with
 |val h=>exact Q45 h
 |bot h=>exact h
 |_=>rfl
inductive TRel(w:World)(R:Nat→Prop)(o:Nat→Option (List Nat)):List Nat→Value→AV→Prop
 |val {L v}:sc v→TRel w R o L v (.val v)
 |nil {L u sz}:TRel w R o L (.slice none 0 0) (.lst u sz [])
 |bot {L v}:one v→TRel w R o L v .bot
 | own {L sz es b cap cur e} (us:Nat→Nat→Value):o b=some L→w.heap[b]? = some (.cells cur e (0,0))→cap * sz≤cur.size→es.length≤cap→cap≤maxLen →
   (∀i,i<es.length→(es.getD i []).length=sz)→
   (∀i k,i<es.length→k<sz→cur[i*sz+k]? =some (us i k))→(∀i k,i<es.length→k<sz→one (us i k))→
   (∀i k,i<es.length→k<sz→TRel w R o (L++[i,k]) (us i k) ((es.getD i []).getD k .bot))→
   TRel w R o L (.slice (some ⟨b,0,none⟩) es.length cap) (.lst true sz es)
theorem TRel.mono{w w':World}{R R':Nat→Prop}{o o':Nat→Option (List Nat)}{L:List Nat}{v:Value}{a:AV}(h:TRel w R o L v a):
  ∀L',(∀b M,o b=some (L++M)→o' b=some (L'++M)∧w'.heap[b]? =w.heap[b]?)→TRel w' R' o' L' v a:=by
 induction h with
 |val h=>exact λ_ _=>.val h
 |nil=>exact λ_ _=>.nil
 |bot h=>exact λ_ _=>.bot h
 |@own L sz es b cap cur e us hb hh h1 h2 h3 h4 h5 h6 _ ih=>
  intro L' ho;have hb':=ho b [] (by simpa using hb);refine .own us (by simpa using hb'.1) (hb'.2.trans hh) h1 h2 h3 h4 h5 h6 λi k hi hk=>ih i k hi hk (L'++[i,k]) λc M hc=>?_;have:=ho c ([i,k]++M) (by simpa using hc);simpa using this
theorem TRel.same{w w':World}{R R':Nat→Prop}{o o':Nat→Option (List Nat)}{L:List Nat}{v:Value}{a:AV}(h:TRel w R o L v a)(ho:∀b M,o b=some (L++M)→o' b=some (L++M)∧w'.heap[b]? =w.heap[b]?):TRel w' R' o' L v a:=h.mono L ho
theorem TRel.one{w:World}{R:Nat→Prop}{o:Nat→Option (List Nat)}{L:List Nat}{v:Value}{a:AV}(h:TRel w R o L v a):one v:=by
 cases h with
 |val h=>exact Q45 h
 |bot h=>exact h
 |_=>rfl
theorem TRel.pure{w:World}{R R':Nat→Prop}{o:Nat→Option (List Nat)}{L:List Nat}{v:Value}{a:AV}(h:TRel w R o L v a)(hR:∀b,R b∨(∃L,o b=some L)→R' b):RRel w R' v a:=by
 induction h with
 |val h=>exact .val h
 |nil=>exact .nil (by decide)
 |bot h=>exact .bot h
 |@own L sz es b cap cur e us hb hh h1 h2 h3 h4 h5 h6 _ ih=>
  exact .lst (x:=0) us (hR b (.inr ⟨_,hb⟩)) hh h2 h3 h4 (λi k hi hk=>by simpa using h5 i k hi hk) h6 ih
inductive XRel(w:World)(R:Nat→Prop)(ρ:Nat→Option Bk):Value→AV→Prop
 |r {v a}:RRel w R v a→XRel w R ρ v a
 |own0 {id sz cap}:ρ id=some ⟨none,sz,cap⟩→XRel w R ρ (.slice none 0 0) (.own id 0 0)
 | own {id b sz cap off n c x}:ρ id=some ⟨some b,sz,cap⟩→off+c≤cap→n≤c→(c ≠ 0→x=off * sz)→(off=0→x=0)→cap≤maxLen →
   XRel w R ρ (.slice (some ⟨b,x,none⟩) n c) (.own id off n)
 |adr {id b sz cap i k}:ρ id=some ⟨some b,sz,cap⟩→XRel w R ρ (.pointer (some ⟨b,i*sz+k,none⟩)) (.adr id i k)
 |agg {cs az}:cs.size=az.length→(∀k,k<az.length→Vc.one (cs.getD k undef))→(∀k,k<az.length→XRel w R ρ (cs.getD k undef) (az.getD k .bot))→XRel w R ρ (.agg cs) (.agg az)
 |tup {vs az}:vs.size=az.length→(∀k,k<az.length→XRel w R ρ (vs.getD k undef) (az.getD k .bot))→XRel w R ρ (.tuple vs) (.tup az)
 |fn {f cs az}:cs.size=az.length→(∀k,k<az.length→XRel w R ρ (cs.getD k undef) (az.getD k .bot))→XRel w R ρ (.func (.func f) #[] cs) (.fn f az)
 |bnd {f cs az}:cs.size=az.length→(∀k,k<az.length→XRel w R ρ (cs.getD k undef) (az.getD k .bot))→XRel w R ρ (.func (.func f) cs #[]) (.bnd f az)
 |ifc {t cs az}:cs.size=az.length→(∀k,k<az.length→Vc.one (cs.getD k undef))→(∀k,k<az.length→XRel w R ρ (cs.getD k undef) (az.getD k .bot))→XRel w R ρ (.iface t (.agg cs)) (.ifc t az)
 |mp {id b}:ρ id=some ⟨some b,0,0⟩→XRel w R ρ (.map (some b)) (.mp id)
 |sub {id b c}:ρ id=some ⟨some b,0,0⟩→XRel w R ρ (.map (some c)) (.sub id c)
 |bot {v}:XRel w R ρ v .bot
theorem XRel.mono{w w':World}{R R':Nat→Prop}{ρ ρ':Nat→Option Bk}(hR:∀b,R b→R' b∧w'.heap[b]? =w.heap[b]?)(hρ:∀id k,ρ id=some k→ρ' id=some k){v:Value}{a:AV}(h:XRel w R ρ v a):XRel w' R' ρ' v a:=by
 induction h with
 |r h=>exact .r (h.mono hR)
 |own0 h=>exact .own0 (hρ _ _ h)
 |own h h1 h2 h3 h4 h5=>exact .own (hρ _ _ h) h1 h2 h3 h4 h5
 |adr h=>exact .adr (hρ _ _ h)
 |agg h1 h2 _ ih=>exact .agg h1 h2 ih
 |tup h1 _ ih=>exact .tup h1 ih
 |fn h1 _ ih=>exact .fn h1 ih
 |bnd h1 _ ih=>exact .bnd h1 ih
 |ifc h1 h2 _ ih=>exact .ifc h1 h2 ih
 |mp h=>exact .mp (hρ _ _ h)
 |sub h=>exact .sub (hρ _ _ h)
 |bot=>exact .bot
theorem Born.push{ents:Array MapEntry}{clk:Nat}{k v:Value}(h:Born ents clk):Born (ents.push {key:=k,val:=v,born:=clk}) (clk+1):=by
 refine⟨by simp[h.1],λi en hi=>?_⟩;rw[Array.getElem?_push]at hi;split at hi
 ·rename_i q;cases hi;rw[q];exact h.1
 exact h.2 i en hi
theorem Born.modify{ents:Array MapEntry}{clk j:Nat}{f:MapEntry→MapEntry}(h:Born ents clk)(hf:∀e,(f e).born=e.born):Born (ents.modify j f) clk:=by
 refine⟨by simp[h.1],λi en hi=>?_⟩;rw[Array.getElem?_modify]at hi;split at hi
 ·obtain⟨e0,h0,rfl⟩:=Option.map_eq_some_iff.1 hi;rw[hf];exact h.2 i e0 h0
 exact h.2 i en hi
inductive GI where
 |ro (es:List (Value×Value))
 |own (es:List (Value×Value))
 |owa (b:Nat) (es:List (Value×Value))
 |nil
def IRel(kd2:MK)(w:World)(R:Nat→Prop)(l:Nat→Option (List Nat))(j:Nat)(v:Value):GI→Prop
 | .ro es=>RRel w R v (.cmap kd2 es)
 | .own es=>∃b,v= .map (some b)∧l b=some [j]∧MapObj w b es∧Q7j kd2 es
 | .owa b es=>v= .map (some b)∧l b=some [j]∧MapObj w b es∧Q7j kd2 es
 | .nil=>v= .map none
theorem IRel.move{kd2:MK}{w w':World}{R R':Nat→Prop}{l l':Nat→Option (List Nat)}{j:Nat}{v:Value}{x:GI}(h:IRel kd2 w R l j v x)(hR:∀b,R b→R' b∧w'.heap[b]? =w.heap[b]?)(hl:∀b,l b=some [j]→l' b=some [j]∧w'.heap[b]? =w.heap[b]?):IRel kd2 w' R' l' j v x:=by
 cases x with
 |ro es=>exact RRel.mono hR h
 |own es=>
  obtain⟨b,h1,h2,h3,h4⟩:=h;exact⟨b,h1,(hl b h2).1,h3.same (hl b h2).2,h4⟩
 |owa b es=>
  obtain⟨h1,h2,h3,h4⟩:=h;exact⟨h1,(hl b h2).1,h3.same (hl b h2).2,h4⟩
 |nil=>exact h
def MapGP(kd kd2:MK)(ks:List (Value×GI))(w:World)(R:Nat→Prop)(l:Nat→Option (List Nat))(bk:Bk):Prop:=
 ∃b ents clk,bk=⟨some b,0,0⟩∧l b=some []∧w.heap[b]? =some (.map ents clk)∧Born ents clk∧ents.toList.map (·.key)=ks.map Prod.fst∧(ks.map Prod.fst).Nodup∧ks.length≤1099511627776∧(∀p∈ks,kd.ok p.1)∧
  ∀(j:Nat) (kv:Value) (x:GI) (en:MapEntry),ks[j]? =some (kv,x)→ents[j]? =some en→IRel kd2 w R l j en.val x
def XMapG(kd kd2:MK)(ks:List (Value×GI)):XP where
 p:=MapGP kd kd2 ks
 st:=by
  rintro w w' R R' l l' bk ⟨b,ents,clk,h1,h2,h3,h0,h4,h5,h6,h7,h8⟩ hR hl
  exact⟨b,ents,clk,h1,(hl b _ h2).1,(hl b _ h2).2.trans h3,h0,h4,h5,h6,h7,λj kv x en g1 g2=>(h8 j kv x en g1 g2).move hR λb hb=>hl b _ hb⟩
def gown(ks:List (Value×List (Value×Value))):List (Value×GI):=ks.map λp=>(p.1,GI.own p.2)
structure Eff where
 v:AV
 del:List Nat:=[]
 set:List (Nat×Ent):=[]
 new:List (Nat×Ent):=[]
 cnt:Nat:=0
structure St where
 s:List (Nat×AV)
 h:List (Nat×Ent)
 n:Nat
def look{α:Type}(k:Nat):List (Nat×α)→Option α
 |[]=>none
 |(i,a)::r=>if i=k then some a else look k r
def St.get(st:St)(t:Nat):AV:=(look t st.s).getD .bot
def putS(t:Nat)(a:AV):List (Nat×AV)→List (Nat×AV)
 |[]=>[(t,a)]
 |(i,b)::r=>if i=t then(t,a)::r else(i,b)::putS t a r
def setH(id:Nat)(e:Ent):List (Nat×Ent)→List (Nat×Ent)
 |[]=>[(id,e)]
 |(i,b)::r=>if i=id then(i,e)::r else(i,b)::setH id e r
def delH(id:Nat):List (Nat×Ent)→List (Nat×Ent)
 |[]=>[]
 |(i,b)::r=>if i=id then delH id r else(i,b)::delH id r
def Q5k:List (Nat×Ent)→List (Nat×Ent)→List (Nat×Ent)
 |[],h=>h
 |(i,e)::r,h=>Q5k r (setH i e h)
def Q4D:List Nat→List (Nat×Ent)→List (Nat×Ent)
 |[],h=>h
 |i::r,h=>Q4D r (delH i h)
def St.app(st:St)(dst:Option Nat)(e:Eff):St:=
 {s:=match dst with|some d=>putS d e.v st.s|none=>st.s,h:=Q5k e.set (Q4D e.del st.h)++e.new,n:=st.n+e.cnt}
def scB:Value→Bool
 | .int k n=>decide (k.min≤n)&&decide (n≤k.max)
 | .bool _=>true
 | .string s=>decide (s.size≤maxLen)
 | .pointer none=>true
 | .slice none 0 0=>true
 | .nilFunc=>true
 | .nilIface=>true
 | .map none=>true
 |_=>false
theorem Q6F{v:Value}(h:scB v=true):sc v:=by
 unfold scB at h;unfold sc;split at h<;>simp_all
def cst(v:Value):AV:=if scB v then .val v else .bot
def St.ev(st:St):Operand→AV
 | .tmp t=>st.get t
 | .const v=>cst v
 | .global _=>.bot
 | .func f=>.fn f []
structure Tyi where
 agg:Bool
 sz:Nat
 bytes:Nat
 zero:List Value
def Q5f:TypeDesc→Bool
 | .struct _|.array _ _=>true
 |_=>false
def tyi(P:Program)(t:TypeId):Option Tyi:=
 match P.info? t,P.underlying t with
 |some i,some d=>match i.zero with
  |some z=>if z.cells.toList.all scB&&z.cells.size==i.size&&(Q5f d||i.size==1)then some ⟨Q5f d,i.size,i.bytes,z.cells.toList⟩else none
  |none=>none
 |_,_=>none
def elm(P:Program)(t:TypeId):Option TypeId:=
 match P.underlying t with
 |some (.slice e)=>some e
 |_=>none
def fld(P:Program)(t:TypeId)(k:Nat):Option (Nat×Nat×Bool):=
 match P.underlying t with
 |some (.struct fs)=>match fs[k]? with
  |some f=>match P.info? f.type,P.underlying f.type with
   |some i,some d=>if i.size=0 then none else some (f.offset,i.size,Q5f d)
   |_,_=>none
  |none=>none
 |_=>none
abbrev HP:=Nat→Option Ent
def Qm:Option Ent→Bool
 |some (.mix _ _)=>true
 |_=>false
def cont(h:HP):Nat→Nat→Option (Nat×List (List AV))
 |0,_=>none
 |d+1,id=>match h id with
  |some (.mix sz es)=>some (sz,es)
  |some (.row sz es)=>some (sz,es)
  |some (.ali c i k sz)=>if Qm (h c)then none else match cont h d c with
   |some (_,es)=>match(es.getD i []).getD k .bot with
    | .lst true sz' es'=>if sz'=sz then some (sz,es')else none
    |_=>none
   |none=>none
  |some (.mapE _ _)=>none
  |none=>none
def root(h:HP):Nat→Nat→Option Nat
 |0,_=>none
 |d+1,id=>match h id with
  |some (.ali c _ _ _)=>root h d c
  |some _=>some id
  |none=>none
def wr(h:HP):Nat→Nat→List (List AV)→Option (List (Nat×Ent))
 |0,_,_=>none
 |d+1,id,es=>match h id with
  |some (.mix sz _)=>some [(id,.mix sz es)]
  |some (.row sz _)=>some [(id,.row sz es)]
  |some (.ali c i k sz)=>match cont h d c with
   |some (_,fs)=>wr h d c (fs.set i ((fs.getD i []).set k (.lst true sz es)))
   |none=>none
  |some (.mapE _ _)=>none
  |none=>none
def depth:Nat:=4
def AV.cells:AV→List AV
 | .agg cs=>cs
 |a=>[a]
def Q8U:AV→Bool
 | .agg _|.tup _|.bot=>false
 |_=>true
def isVal:AV→Bool
 | .val _=>true
 |_=>false
def pick(c a b:AV):Option (Prop×Eff):=
 match c with
 | .val (.bool t)=>some (True,{v:=bif t then a else b})
 |_=>none
def alloc(ty:Option Tyi)(n:Nat):Option (Prop×Eff):=
 match ty with
 |some t=>some (True,{v:=.adr n 0 0,new:=[(n,.mix t.sz [t.zero.map .val])],cnt:=1})
 |none=>none
def boxv(x:AV)(n:Nat):Option (Prop×Eff):=
 match x with
 | .agg cs=>some (True,{v:=.adr n 0 0,new:=[(n,.mix cs.length [cs])],cnt:=1})
 | .tup _=>none
 | .bot=>none
 |a=>some (True,{v:=.adr n 0 0,new:=[(n,.mix 1 [[a]])],cnt:=1})
def Q1Z(cs:List AV)(off:Nat):List AV→List AV
 |[]=>cs
 |x::r=>Q1Z (cs.set off x) (off+1) r
def Q42(P:Program)(t:TypeId):Option (List (Nat×Nat)):=
 match P.underlying t with
 |some (.struct fs)=>fs.toList.mapM λf=>(P.info? f.type).map λi=>(f.offset,i.size)
 |_=>none
def Q6i(pl:List (Nat×Nat)):List (Nat×AV)→List AV→Option (List AV)
 |[],cs=>some cs
 |(k,x)::r,cs=>match pl[k]? with
  |some (off,sz)=>if x.cells.length=sz∧off+sz≤cs.length then Q6i pl r (Q1Z cs off x.cells)else none
  |none=>none
def Q5t:AV→Bool
 | .tup _|.bot=>false
 |_=>true
def build(ty:Option Tyi)(pl:Option (List (Nat×Nat)))(parts:List (Nat×AV)):Option (Prop×Eff):=
 match ty,pl with
 | some ty,some pl=>if parts.all (fun x=>Q5t x.2) then
   match Q6i pl parts (ty.zero.map .val)with
   |some cs=>some (True,{v:=.agg cs})
   |none=>none
  else none
 |_,_=>none
def Q5c(sz:Nat):Nat→Nat→List (Nat×Nat)
 |_,0=>[]
 |off,n+1=>(off,sz)::Q5c sz (off+sz) n
def rep(zero:List AV):Nat→List AV
 |0=>[]
 |n+1=>zero++rep zero n
def Q7r(sz:Nat):Nat→List AV→List (List AV)
 |0,_=>[]
 |n+1,l=>l.take sz::Q7r sz n (l.drop sz)
def buildSlice(e:Option Tyi)(len:Nat)(parts:List (Nat×AV))(n:Nat):Option (Prop×Eff):=
 match e with
 | some ty=>if parts.all (fun x=>Q5t x.2) && decide (len * ty.sz≤16777216) && decide (0<ty.sz) then
   match Q6i (Q5c ty.sz 0 len) parts (rep (ty.zero.map .val) len)with
   |some cs=>some (True,{v:=.own n 0 len,new:=[(n,.mix ty.sz (Q7r ty.sz len cs))],cnt:=1})
   |none=>none
  else none
 |none=>none
def Q1d(id i:Nat):Nat→Nat→List AV→List AV×List (Nat×Ent)
 |_,_,[]=>([],[])
 |k,n,.lst true sz es::r=>let q:=Q1d id i (k+1) (n+1) r;(.own n 0 es.length::q.1,(n,.ali id i k sz)::q.2)
 |k,n,a::r=>let q:=Q1d id i (k+1) (n+1) r;(a::q.1,q.2)
def Q1X(ty:Option Tyi)(a:AV)(h:HP)(n:Nat):Option (Prop×Eff):=
 match ty,a with
 |some t,.adr id i k=>match h id with
  |some (.mix sz es)=>some (i<es.length∧k+t.sz≤sz,{v:=bif t.agg then .agg (((es.getD i []).drop k).take t.sz)else(es.getD i []).getD k .bot})
  |some _=>match cont h depth id with
   |some (sz,es)=>
    let q:=Q1d id i k n (((es.getD i []).drop k).take t.sz)
    some (i<es.length∧k+t.sz≤sz,{v:=bif t.agg then .agg q.1 else q.1.getD 0 .bot,new:=q.2,cnt:=t.sz})
   |none=>none
  |none=>none
 |some t,.rptr cs=>some (t.sz≤cs.length,{v:=bif t.agg then .agg (cs.take t.sz)else cs.getD 0 .bot})
 |_,_=>none
def Q2F(f:AV→Option (AV×List Nat)):List AV→Option (List AV×List Nat)
 |[]=>some ([],[])
 |a::r=>match f a,Q2F f r with
  |some (b,d),some (q,ds)=>some (b::q,d++ds)
  |_,_=>none
def Q2j(f:AV→Option (AV×List Nat)):List (List AV)→Option (List (List AV)×List Nat)
 |[]=>some ([],[])
 |a::r=>match Q2F f a,Q2j f r with
  |some (b,d),some (q,ds)=>some (b::q,d++ds)
  |_,_=>none
def layD(h:HP):Nat→AV→Option (AV×List Nat)
 |0,_=>none
 |d+1,a=>match a with
  | .val v=>some (.val v,[])
  | .own id 0 n=>match h id with
   |some (.row sz es)=>if es.length=n then some (.lst true sz es,[id])else none
   |some (.mix sz es)=>if es.length=n then match Q2j (layD h d) es with
    |some (q,ds)=>some (.lst true sz q,id::ds)
    |none=>none
    else none
   |_=>none
  |_=>none
def layC(h:HP)(a:AV):Option (AV×List Nat):=layD h depth a
def Q6z:Value→Bool
 | .int _ _|.bool _|.string _=>true
 |_=>false
def scn(v:Value):Prop:=Q6z v=true
def Q3w(ty:Option Tyi)(a x:AV)(h:HP):Option (Prop×Eff):=
 match ty,a with
 |some t,.adr id i k=>match h id with
  | some (.mix sz es)=>if x.cells.length=t.sz && Q5t x then
    some (i<es.length∧k+t.sz≤sz,{v:=.bot,set:=[(id,.mix sz (es.set i (Q1Z (es.getD i []) k x.cells)))]})
   else none
  |some _=>match cont h depth id with
   |some (sz,es)=>match x with
    | .val v=>if t.sz=1∧Q6z v=true then
      match wr h depth id (es.set i ((es.getD i []).set k (.val v)))with
      |some s=>some (i<es.length∧k<sz,{v:=.bot,set:=s})
      |none=>none
     else none
    |_=>none
   |none=>none
  |none=>none
 |_,_=>none
def nilCheck(a:AV):Option (Prop×Eff):=
 match a with
 | .adr id i k=>some (True,{v:=.adr id i k})
 | .rptr cs=>some (True,{v:=.rptr cs})
 | .fn f cs=>some (True,{v:=.fn f cs})
 |_=>none
def shrI(k:IntKind)(a b:Int):Int:=a.fdiv (2 ^ (min b.toNat k.bits))
def andI(k:IntKind)(a b:Int):Int:=k.wrap ((BitVec.ofInt k.bits a&&& BitVec.ofInt k.bits b).toNat:Nat)
def binop(op:BinOp)(x y:AV):Option (Prop×Eff):=
 match x,y with
 | .val (.int k a),.val (.int k' b)=>if op= .shr then some (0≤b,{v:=.val (.int k (shrI k a b))})else if k≠k' then none else
  match op with
  | .and=>some (True,{v:=.val (.int k (andI k a b))})
  | .add=>some (True,{v:=.val (.int k (k.wrap (a+b)))})
  | .sub=>some (True,{v:=.val (.int k (k.wrap (a - b)))})
  | .mul=>some (True,{v:=.val (.int k (k.wrap (a*b)))})
  | .quo=>some (b≠0,{v:=.val (.int k (k.wrap (a.tdiv b)))})
  | .rem=>some (b≠0,{v:=.val (.int k (a.tmod b))})
  | .eql=>some (True,{v:=.val (.bool (a==b))})
  | .neq=>some (True,{v:=.val (.bool (a !=b))})
  | .lss=>some (True,{v:=.val (.bool (decide (a<b)))})
  | .leq=>some (True,{v:=.val (.bool (decide (a≤b)))})
  | .gtr=>some (True,{v:=.val (.bool (decide (a>b)))})
  | .geq=>some (True,{v:=.val (.bool (decide (a≥b)))})
  |_=>none
 |_,_=>none
def Qc:List AV→Option (List Int)
 |[]=>some []
 | .val (.int .i64 a)::r=>(Qc r).map (a::·)
 |_=>none
def eqT(P:Program)(t:TypeId):Nat:=
 match P.underlying t with
 |some .bool=>1
 |some (.struct fs)=>if !P.stoodInHeld t&&!P.eqGuardType P.depth t&&fs.toList.zipIdx.all λf=>f.1.name !="_" &&f.1.offset==f.2&&(match P.underlying f.1.type with |some (.int .i64)=>true|_=>false)then fs.size+2 else 0
 |_=>0
def Q5K(q:Nat)(op:BinOp)(x y:AV):Option (Prop×Eff):=
 match x,y with
 | .val (.bool a),.val (.bool b)=>if q=1 then match op with
  | .eql=>some (True,{v:=.val (.bool (a==b))})
  | .neq=>some (True,{v:=.val (.bool (!(a==b)))})
  |_=>none
  else none
 | .agg xs,.agg ys=>match Qc xs,Qc ys with
  |some az,some bs=>if q=xs.length+2∧q=ys.length+2 then match op with
   | .eql=>some (True,{v:=.val (.bool (az==bs))})
   | .neq=>some (True,{v:=.val (.bool (!(az==bs)))})
   |_=>none
   else none
  |_,_=>none
 |x,y=>binop op x y
def unop(op:UnOp)(x:AV):Option (Prop×Eff):=
 match op,x with
 | .not,.val (.bool b)=>some (True,{v:=.val (.bool !b)})
 | .neg,.val (.int k n)=>some (True,{v:=.val (.int k (k.wrap (0 - n)))})
 |_,_=>none
def intk(P:Program)(t:TypeId):Option IntKind:=
 match P.underlying t with
 |some (.int k)=>some k
 |_=>none
def Q6P(s d:Option IntKind)(x:AV):Option (Prop×Eff):=
 match s,d,x with
 |some _,some k,.val (.int _ n)=>some (True,{v:=.val (.int k (k.wrap n))})
 |_,_,_=>none
def Q5g(e:Option Tyi)(l c:AV)(n:Nat):Option (Prop×Eff):=
 match e,l,c with
 |some ty,.val (.int .i64 a),.val (.int .i64 b)=>
  if 0<ty.sz then some (0≤a∧a≤b∧b*ty.bytes≤140737488355328∧b≤140737488355328,{v:=.own n 0 a.toNat,new:=[(n,.row ty.sz (List.replicate a.toNat (ty.zero.map .val)))],cnt:=1})else none
 |_,_,_=>none
def lenv(x:AV):Option (Prop×Eff):=
 match x with
 | .own _ _ n=>some (True,{v:=.val (.int .i64 n)})
 | .lst _ _ es=>some (True,{v:=.val (.int .i64 es.length)})
 | .val (.slice none 0 0)=>some (True,{v:=.val (.int .i64 0)})
 |_=>none
def fieldAddr(f:Option (Nat×Nat×Bool))(a:AV):Option (Prop×Eff):=
 match f,a with
 |some (off,_,_),.adr id i k=>some (True,{v:=.adr id i (k+off)})
 |some (off,_,_),.rptr cs=>some (True,{v:=.rptr (cs.drop off)})
 |_,_=>none
def Q5P(f:Option (Nat×Nat×Bool))(a:AV):Option (Prop×Eff):=
 match f,a with
 |some (off,sz,ag),.agg cs=>some (off+sz≤cs.length,{v:=bif ag then .agg ((cs.drop off).take sz)else cs.getD off .bot})
 |_,_=>none
def QY(ty:Option Tyi)(x i:AV)(h:HP):Option (Prop×Eff):=
 match ty,x,i with
 |some t,.own id off n,.val (.int _ j)=>match cont h depth id with
  |some (sz,_)=>if sz=t.sz then some (0≤j∧j<n,{v:=.adr id (off+j.toNat) 0})else none
  |none=>none
 |some t,.lst _ sz es,.val (.int _ j)=>if sz=t.sz then some (0≤j∧j<es.length,{v:=.rptr (es.getD j.toNat [])})else none
 |_,_,_=>none
def Q3F(x:AV)(k:Nat):Option (Prop×Eff):=
 match x with
 | .tup vs=>some (k<vs.length,{v:=vs.getD k .bot})
 |_=>none
abbrev layCs(h:HP):List AV→Option (List AV×List Nat):=Q2F (layC h)
abbrev Q4K(h:HP):List (List AV)→Option (List (List AV)×List Nat):=Q2j (layC h)
def src(h:HP)(sz:Nat)(x:AV):Option (Prop×List (List AV)×List Nat):=
 match x with
 | .val (.slice none 0 0)=>some (True,[],[])
 | .lst _ sz' es=>if sz'=sz then some (∀e∈es,∀c∈e,isVal c=true,es,[])else none
 | .own id off n=>match h id with
  |some (.mix sz' es)=>if sz'=sz then match Q4K h ((es.drop off).take n)with
   |some (q,d)=>some (off+n≤es.length,q,d)
   |none=>none
   else none
  |some _=>match cont h depth id with
   |some (sz',es)=>if sz'=sz then some (off+n≤es.length∧∀e∈es,∀c∈e,isVal c=true,(es.drop off).take n,[])else none
   |none=>none
  |none=>none
 |_=>none
def base(h:HP)(sz:Nat)(s:AV):Option (Prop×List (List AV)×List Nat×List Nat):=
 match s with
 | .val (.slice none 0 0)=>some (True,[],[],[])
 | .own id 0 m=>match h id with
  |some (.row sz' es)=>if sz'=sz then some (m≤es.length,es.take m,[id],[])else none
  |some (.mix sz' es)=>if sz'=sz then match Q4K h (es.take m)with
   |some (q,d)=>some (m≤es.length,q,[id],d)
   |none=>none
   else none
  |_=>none
 |_=>none
def Q30(ty:Option Tyi)(s x:AV)(h:HP)(n:Nat):Option (Prop×Eff):=
 match ty with
 |some t=>match base h t.sz s,src h t.sz x with
  |some (c1,es,i,d1),some (c2,news,d2)=>
   if(n::(i++(d1++d2))).Nodup then
    some (c1∧c2∧(es.length+news.length)*t.bytes≤140737488355328∧es.length+news.length≤140737488355328∧0<t.sz,
     {v:=.own n 0 (es.length+news.length),del:=i++(d1++d2),new:=[(n,.row t.sz (es++news))],cnt:=1})else none
  |_,_=>none
 |none=>none
def Q1E(t:Tyi)(h:HP)(x:AV)(lo hi:Int):Option (Prop×Eff):=
 match x with
 | .own id off n=>match cont h depth id with
  |some (sz,_)=>if sz=t.sz then some (0≤lo∧lo≤hi∧hi≤n,{v:=.own id (off+lo.toNat) (hi - lo).toNat})else none
  |none=>none
 | .lst u sz es=>if sz=t.sz then some (0≤lo∧lo≤hi∧hi≤es.length,{v:=.lst u sz ((es.drop lo.toNat).take (hi - lo).toNat)})else none
 |_=>none
def slen:AV→Int
 | .own _ _ n=>n
 | .lst _ _ es=>es.length
 |_=>0
def Q46(ty:Option Tyi)(h:HP)(x:AV)(lo hi:Option AV):Option (Prop×Eff):=
 match ty,lo,hi with
 |some t,some (.val (.int _ a)),some (.val (.int _ b))=>Q1E t h x a b
 |some t,none,some (.val (.int _ b))=>Q1E t h x 0 b
 |some t,some (.val (.int _ a)),none=>Q1E t h x a (slen x)
 |some t,none,none=>Q1E t h x 0 (slen x)
 |_,_,_=>none
def Q3P(ty:Option Tyi)(h:HP)(s y z:AV):Option (Prop×Eff):=
 match ty,s,y,z with
 |some t,.own id 0 m,.val (.int _ r),.val (.int _ r')=>match cont h depth id with
  |some (sz,_)=>if sz=t.sz then some (r=r'∧0≤r∧r≤m,{v:=.own id 0 r.toNat})else none
  |none=>none
 |_,_,_,_=>none
def Q9t(g:Int→Int→Int)(k:IntKind):Int→List AV→Option Int
 |a,[]=>some a
 |a,.val (.int k' b)::r=>if k=k' then Q9t g k (g a b) r else none
 |_,_::_=>none
def Q4r(g:Int→Int→Int)(xs:List AV):Option (Prop×Eff):=
 match xs with
 | .val (.int k a)::r=>match Q9t g k a r with
  |some m=>some (True,{v:=.val (.int k m)})
  |none=>none
 |_=>none
def bltF(P:Program)(ce:Callee)(args:List Operand)(ts:List TypeId)(ev:Operand→AV)(h:HP)(n:Nat):Option (Prop×Eff):=
 match ce,args,ts with
 | .builtin .len,[x],[t]=>match elm P t with
  |some _=>lenv (ev x)
  |none=>none
 | .builtin .append,[s,x],[t,u]=>match elm P t with
  |some e=>if t=u then Q30 (tyi P e) (ev s) (ev x) h n else none
  |none=>none
 | .builtin .min,xs,_=>Q4r (λa b=>if b<a then b else a) (xs.map ev)
 | .builtin .max,xs,_=>Q4r (λa b=>if b>a then b else a) (xs.map ev)
 |_,_,_=>none
def opF(P:Program)(op:Op)(ev:Operand→AV)(h:HP)(n:Nat):Option (Prop×Eff):=
 match op with
 | .move x|.assign x=>some (True,{v:=ev x})
 | .pick c a b=>pick (ev c) (ev a) (ev b)
 | .alloc e=>alloc (tyi P e) n
 | .box _ x=>boxv (ev x) n
 | .build t parts=>build (tyi P t) (Q42 P t) (parts.toList.map λp=>(p.1,ev p.2))
 | .buildSlice t len parts=>match elm P t with
  |some e=>buildSlice (tyi P e) len (parts.toList.map λp=>(p.1,ev p.2)) n
  |none=>none
 | .load t a=>Q1X (tyi P t) (ev a) h n
 | .store t a x=>Q3w (tyi P t) (ev a) (ev x) h
 | .nilCheck x=>nilCheck (ev x)
 | .binOp op xt x y _=>Q5K (eqT P xt) op (ev x) (ev y)
 | .unOp op _ x=>unop op (ev x)
 | .convert src dst x=>Q6P (intk P src) (intk P dst) (ev x)
 | .makeSlice t l c=>match elm P t with
  |some e=>Q5g (tyi P e) (ev l) (ev c) n
  |none=>none
 | .fieldAddr t x k=>fieldAddr (fld P t k) (ev x)
 | .field t x k=>Q5P (fld P t k) (ev x)
 | .indexAddr t x i=>match elm P t with
  |some e=>QY (tyi P e) (ev x) (ev i) h
  |none=>none
 | .slice t x lo hi none=>match elm P t with
  |some e=>Q46 (tyi P e) h (ev x) (lo.map ev) (hi.map ev)
  |none=>none
 | .extract x k=>Q3F (ev x) k
 | .call cl=>bltF P cl.callee cl.args.toList cl.argTypes.toList ev h n
 |_=>none
structure Gh where
 R:Nat→Prop
 o:Nat→Option (List Nat)
 ρ:Nat→Option Bk
inductive Hdr:Value→Bk→Nat→Prop
 |nil {sz cap}:Hdr (.slice none 0 0) ⟨none,sz,cap⟩ sz
 |own {b n cap sz}:Hdr (.slice (some ⟨b,0,none⟩) n cap) ⟨some b,sz,cap⟩ sz
structure MixRel(w:World)(g:Gh)(id:Nat)(bk:Bk)(sz:Nat)(es:List (List AV)):Prop where
 ex0:(es=[]∧∃cp,bk=⟨none,sz,cp⟩)∨∃(b:Nat) (cur:Array Value) (e:TypeId) (us:Nat→Nat→Value) (cp:Nat),bk=⟨some b,sz,cp⟩∧g.o b=some [id]∧w.heap[b]? =some (.cells cur e (0,0))∧cp*sz≤cur.size∧es.length≤cp∧cp≤maxLen∧
  (∀i,i<es.length→(es.getD i []).length=sz)∧(∀i k,i<es.length→k<sz→cur[i*sz+k]? =some (us i k))∧
  (∀i k,i<es.length→k<sz→one (us i k))∧(∀i k,i<es.length→k<sz→XRel w g.R g.ρ (us i k) ((es.getD i []).getD k .bot))
theorem MixRel.ex{w:World}{g:Gh}{id:Nat}{bk:Bk}{sz:Nat}{es:List (List AV)}(h:MixRel w g id bk sz es)(hb:bk.b≠none):∃(b:Nat) (cur:Array Value) (e:TypeId) (us:Nat→Nat→Value) (cp:Nat),bk=⟨some b,sz,cp⟩∧g.o b=some [id]∧w.heap[b]? =some (.cells cur e (0,0))∧cp*sz≤cur.size∧es.length≤cp∧cp≤maxLen∧
  (∀i,i<es.length→(es.getD i []).length=sz)∧(∀i k,i<es.length→k<sz→cur[i*sz+k]? =some (us i k))∧
  (∀i k,i<es.length→k<sz→one (us i k))∧(∀i k,i<es.length→k<sz→XRel w g.R g.ρ (us i k) ((es.getD i []).getD k .bot)):=by
 rcases h.ex0 with⟨_,cp,rfl⟩|h
 ·exact absurd rfl hb
 exact h
theorem MixRel.mk'{w:World}{g:Gh}{id:Nat}{bk:Bk}{sz:Nat}{es:List (List AV)}(h:∃(b:Nat) (cur:Array Value) (e:TypeId) (us:Nat→Nat→Value) (cp:Nat),bk=⟨some b,sz,cp⟩∧g.o b=some [id]∧w.heap[b]? =some (.cells cur e (0,0))∧cp*sz≤cur.size∧es.length≤cp∧cp≤maxLen∧
  (∀i,i<es.length→(es.getD i []).length=sz)∧(∀i k,i<es.length→k<sz→cur[i*sz+k]? =some (us i k))∧
  (∀i k,i<es.length→k<sz→one (us i k))∧(∀i k,i<es.length→k<sz→XRel w g.R g.ρ (us i k) ((es.getD i []).getD k .bot))):MixRel w g id bk sz es:=⟨.inr h⟩
def ownl(o:Nat→Option (List Nat))(id:Nat):Nat→Option (List Nat):=λb=>match o b with
 |some (x::M)=>if x=id then some M else none
 |_=>none
theorem ownl_iff{o:Nat→Option (List Nat)}{id b:Nat}{M:List Nat}:ownl o id b=some M↔o b=some (id::M):=by
 unfold ownl;split
 ·rename_i x M' h
  by_cases hx:x=id
  ·subst hx;simp[h]
  simp[h,hx]
 rename_i h;refine⟨λh2=>by simp at h2,λh2=>?_⟩;exact absurd h2 (h id M)
def MapRel(w:World)(g:Gh)(id:Nat)(bk:Bk)(kd:MK)(es:List (Value×Value)):Prop:=
 (∃x,kd= .ext x∧x.p w g.R (ownl g.o id) bk)∨((∀x,kd≠.ext x)∧∃b,bk=⟨some b,0,0⟩∧g.o b=some [id]∧MapObj w b es∧Q7j kd es)
theorem MapRel.move{w w':World}{g g':Gh}{id id':Nat}{bk:Bk}{kd:MK}{es:List (Value×Value)}(H:MapRel w g id bk kd es)(hR:∀b,g.R b→g'.R b∧w'.heap[b]? =w.heap[b]?)(ho:∀b M,g.o b=some (id::M)→g'.o b=some (id'::M)∧w'.heap[b]? =w.heap[b]?):MapRel w' g' id' bk kd es:=by
 rcases H with⟨x,h1,h2⟩|⟨h0,b,h1,h2,h3,h4⟩
 ·exact .inl ⟨x,h1,x.st h2 hR λb M hb=>by
   obtain⟨q1,q2⟩:=ho b M (ownl_iff.1 hb);exact⟨ownl_iff.2 q1,q2⟩⟩
 obtain⟨q1,q2⟩:=ho b [] h2;exact .inr ⟨h0,b,h1,q1,h3.same q2,h4⟩
theorem MapRel.plain{w:World}{g:Gh}{id:Nat}{bk:Bk}{kd:MK}{es:List (Value×Value)}(H:MapRel w g id bk kd es)(h:∀x,kd≠.ext x):∃b,bk=⟨some b,0,0⟩∧g.o b=some [id]∧MapObj w b es∧Q7j kd es:=by
 rcases H with⟨x,h1,_⟩|⟨_,h⟩
 ·exact absurd h1 (h x)
 exact h
structure HRel(w:World)(g:Gh)(h:HP):Prop where
 mix:∀id sz es bk,h id=some (.mix sz es)→g.ρ id=some bk→MixRel w g id bk sz es
 row:∀id sz es bk,h id=some (.row sz es)→g.ρ id=some bk→∃v,TRel w g.R g.o [id] v (.lst true sz es)∧Hdr v bk sz
 ali:∀id c i k sz bk,h id=some (.ali c i k sz)→g.ρ id=some bk→bk.sz=sz∧∃bkc,g.ρ c=some bkc∧∀d szc esc,cont h d c=some (szc,esc)→Qm (h c)=false→i<esc.length→k<szc→
  ∃bc cur e v,bkc.b=some bc∧w.heap[bc]? =some (.cells cur e (0,0))∧cur[i*szc+k]? =some v∧(Hdr v bk sz∨scn v)
 map:∀id kd es bk,h id=some (.mapE kd es)→g.ρ id=some bk→MapRel w g id bk kd es
structure Ctx where
 w0:World
 wrb:Nat→Prop
 ρ0:Nat→Option Bk:=λ_=>none
 n0:Nat:=0
structure WF(C:Ctx)(w:World)(g:Gh):Prop where
 R:∀b,g.R b→b<w.heap.size∧g.o b=none
 o:∀b L,g.o b=some L→b<w.heap.size∧(C.w0.heap.size≤b∨C.wrb b)
 os:w.os=C.w0.os
 tape:w.tape=C.w0.tape∧C.w0.drawn≤w.drawn
 output:w.output=C.w0.output
 size:C.w0.heap.size≤w.heap.size
 keep:∀b,b<C.w0.heap.size→¬C.wrb b→w.heap[b]? =C.w0.heap[b]?
theorem Q4f{α:Type}{l:List α}{n:Nat}{d:α}(h:l.length≤n):l.getD n d=d:=by
 simp[List.getD_eq_getElem?_getD,List.getElem?_eq_none h]
theorem Q7C{es:List (List AV)}{i k:Nat}{a:AV}(h:(es.getD i []).getD k .bot=a)(ha:a≠.bot):i<es.length∧k<(es.getD i []).length:=by
 have hk:k<(es.getD i []).length:=by
  rcases Nat.lt_or_ge k (es.getD i []).length with h'|h'
  ·exact h'
  rw[Q4f h']at h;exact absurd h.symm ha
 refine⟨?_,hk⟩;rcases Nat.lt_or_ge i es.length with h'|h'
 ·exact h'
 rw[Q4f h']at hk;simp at hk
theorem TRel.scn_lst{w:World}{R:Nat→Prop}{o:Nat→Option (List Nat)}{L:List Nat}{v:Value}{u:Bool}{sz:Nat}{es:List (List AV)}(h:TRel w R o L v (.lst u sz es))(hs:scn v):False:=by
 cases h with
 |nil=>cases hs
 |own=>cases hs
theorem Q5A{w:World}{g:Gh}{h:HP}(H:HRel w g h):∀(d id sz:Nat) (es:List (List AV)) (bk:Bk),cont h d id=some (sz,es)→Qm (h id)=false→g.ρ id=some bk→
  bk.sz=sz∧∃v r M,root h d id=some r∧(∃s e,h r=some (.row s e))∧TRel w g.R g.o (r::M) v (.lst true sz es)∧Hdr v bk sz:=by
 intro d
 induction d with
 |zero=>intro id sz es bk hc;simp[cont]at hc
 |succ d ih=>
  intro id sz es bk hc hm hb;unfold cont at hc;cases he:h id with
  |none=>simp[he]at hc
  |some e=>
   cases e with
   |mix s e=>simp[he,Qm]at hm
   |mapE kd e=>simp[he]at hc
   |row s e=>
    simp only[he,qA,Prod.mk.injEq]at hc;obtain⟨rfl,rfl⟩:=hc;obtain⟨v,hv,hh⟩:=H.row id s e bk he hb;have:bk.sz=s:=(by cases hh<;>rfl);exact⟨this,v,id,[],by simp[root,he],⟨_,_,he⟩,hv,hh⟩
   |ali c i k s=>
    simp only[he]at hc;obtain⟨hsz,bkc,hρc,hrest⟩:=H.ali id c i k s bk he hb;split at hc
    ·simp at hc
    rename_i hmc;cases hcc:cont h d c with
    |none=>simp[hcc]at hc
    |some p=>
     obtain⟨sc',esc⟩:=p;simp only[hcc]at hc;split at hc
     ·rename_i s2 es2 hcell;split at hc
      ·rename_i hs2;simp only[qA,Prod.mk.injEq]at hc;obtain⟨rfl,rfl⟩:=hc;refine⟨hsz,?_⟩;have hin:=Q7C hcell (by simp);obtain⟨hs3,v3,r,M,hroot,hr,ht,hhd⟩:=ih c sc' esc _ hcc (by simpa using hmc) hρc;have hne:esc≠[]:=(by rintro rfl;simp at hin);cases ht with
       |nil=>exact absurd rfl hne
       |own us hob hheap2 h1 h2 h3 h4 h5 h6 h7=>
        have hk:k<sc':=(by rw[←h4 i hin.1];exact hin.2);obtain⟨bc,cur,e',v,hbc,hheap,hcur,hv⟩:=hrest d sc' esc hcc (by simpa using hmc) hin.1 hk;cases hhd with
        |own=>
         simp only[qA]at hbc;subst hbc;rw[hheap]at hheap2;obtain⟨rfl,rfl⟩:=by simpa using hheap2
         have hu:us i k=v:=(by have:=h5 i k hin.1 hk;rw[hcur]at this;simpa using this.symm);have htt:=h7 i k hin.1 hk;rw[hu,hcell]at htt;subst hs2;exact⟨v,r,_,by simp[root,he,hroot],hr,htt,hv.resolve_right λhs=>htt.scn_lst hs⟩
      simp at hc
     simp at hc
theorem Q2A{w:World}{g:Gh}{h:HP}(H:HRel w g h)(d id sz:Nat)(es:List (List AV))(bk:Bk)(h1:cont h d id=some (sz,es))(h2:Qm (h id)=false)(h3:g.ρ id=some bk):
  bk.sz=sz∧∃v r M,root h d id=some r∧(∃s e,h r=some (.row s e))∧TRel w g.R g.o (r::M) v (.lst true sz es)∧(Hdr v bk sz∨es=[]):=by
 obtain⟨a1,v,r,M,a2,a3,a4,a5⟩:=Q5A H d id sz es bk h1 h2 h3;exact⟨a1,v,r,M,a2,a3,a4,.inl a5⟩
theorem MixRel.mono{w w':World}{g:Gh}{o':Nat→Option (List Nat)}{ρ':Nat→Option Bk}(hR:∀b,g.R b→w'.heap[b]? =w.heap[b]?)(hρ:∀id k,g.ρ id=some k→ρ' id=some k){id:Nat}{bk:Bk}{sz:Nat}{es:List (List AV)}(h:MixRel w g id bk sz es)(ho:∀b,g.o b=some [id]→o' b=some [id]∧w'.heap[b]? =w.heap[b]?):MixRel w' ⟨g.R,o',ρ'⟩ id bk sz es:=by
 rcases h.ex0 with h|⟨b,cur,e,us,cp,h1,h2,h3,h4,h5,h5',h6,h7,h8,h9⟩
 ·exact⟨.inl h⟩
 exact .mk' ⟨b,cur,e,us,cp,h1,(ho b h2).1,(ho b h2).2.trans h3,h4,h5,h5',h6,h7,h8,λi k hi hk=>(h9 i k hi hk).mono (λb hb=>⟨hb,hR b hb⟩) hρ⟩
theorem HRel.mono{w w':World}{g:Gh}{h:HP}(H:HRel w g h){o':Nat→Option (List Nat)}{ρ':Nat→Option Bk}(hR:∀b,g.R b→w'.heap[b]? =w.heap[b]?)(ho:∀b L,g.o b=some L→o' b=some L∧w'.heap[b]? =w.heap[b]?)(hρ:∀id k,g.ρ id=some k→ρ' id=some k)(hmix:∀id sz es bk,h id=some (.mix sz es)→g.ρ id=none→ρ' id=some bk→MixRel w' ⟨g.R,o',ρ'⟩ id bk sz es)(hrow:∀id sz es bk,h id=some (.row sz es)→g.ρ id=none→ρ' id=some bk→∃v,TRel w' g.R o' [id] v (.lst true sz es)∧Hdr v bk sz)(hali:∀id c i k sz bk,h id=some (.ali c i k sz)→g.ρ id=none→ρ' id=some bk→bk.sz=sz∧∃bkc,ρ' c=some bkc∧∀d szc esc,cont h d c=some (szc,esc)→Qm (h c)=false→i<esc.length→k<szc→
   ∃bc cur e v,bkc.b=some bc∧w'.heap[bc]? =some (.cells cur e (0,0))∧cur[i*szc+k]? =some v∧(Hdr v bk sz∨scn v))(hmap:∀id kd es bk,h id=some (.mapE kd es)→g.ρ id=none→ρ' id=some bk→MapRel w' ⟨g.R,o',ρ'⟩ id bk kd es:=by first|(intro id kd es bk h0 h1 h2;rw[h1]at h2;cases h2)|(intro id kd es bk h0 h1 h2;simp_all)):
  HRel w' ⟨g.R,o',ρ'⟩ h:=by
 have hR':∀b,g.R b→g.R b∧w'.heap[b]? =w.heap[b]?:=λb hb=>⟨hb,hR b hb⟩;refine⟨λid sz es bk he hb=>?_,λid sz es bk he hb=>?_,λid c i k sz bk he hb=>?_,λid kd es bk he hb=>?_⟩;rotate_left 3
 ·cases hg:g.ρ id with
  |none=>exact hmap id kd es bk he hg hb
  |some bk0=>
   have hbb:ρ' id=some bk:=hb;rw[hρ id bk0 hg]at hbb;cases hbb;exact(H.map id kd es bk he hg).move (λb hb=>⟨hb,hR b hb⟩) λb M hb=>ho b _ hb
 ·cases hg:g.ρ id with
  |none=>exact hmix id sz es bk he hg hb
  |some bk0=>
   have hbb:ρ' id=some bk:=hb;rw[hρ id bk0 hg]at hbb;cases hbb;exact(H.mix id sz es bk he hg).mono hR hρ λb hb=>ho b _ hb
 ·cases hg:g.ρ id with
  |none=>exact hrow id sz es bk he hg hb
  |some bk0=>
   have hbb:ρ' id=some bk:=hb;rw[hρ id bk0 hg]at hbb;cases hbb;obtain⟨v,hv,hh⟩:=H.row id sz es bk he hg;exact⟨v,hv.same λb M hb=>ho b _ hb,hh⟩
 cases hg:g.ρ id with
 |none=>exact hali id c i k sz bk he hg hb
 |some bk0=>
  have hbb:ρ' id=some bk:=hb;rw[hρ id bk0 hg]at hbb;cases hbb;obtain⟨h1,bkc,h2,h3⟩:=H.ali id c i k sz bk he hg;refine⟨h1,bkc,hρ _ _ h2,λd szc esc hc hm hi hk=>?_⟩;obtain⟨bc,cur,e,v,h4,h5,h6,h7⟩:=h3 d szc esc hc hm hi hk;obtain⟨_,v3,r,M,_,_,ht,hhd⟩:=Q2A H d c szc esc bkc hc hm h2;have hne:esc≠[]:=by rintro rfl;simp at hi
  have hhd:=hhd.resolve_right hne;refine⟨bc,cur,e,v,h4,?_,h6,h7⟩;cases ht with
  |nil=>exact absurd rfl hne
  |own us hob=>
   cases hhd;cases h4;exact(ho _ _ hob).2.trans h5
end Go.Vc
