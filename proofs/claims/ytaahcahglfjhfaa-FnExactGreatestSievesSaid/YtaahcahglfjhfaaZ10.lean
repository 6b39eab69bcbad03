/- A part of the proof: a verified generator of conditions, and what each function of the program does. -/
import Derived.Test.YtaahcahglfjhfaaZ9
import Derived.Shelf.SlSortCmp.Kit1
import Derived.Sort.Statements
set_option maxRecDepth 100000
set_option maxHeartbeats 4000000
set_option linter.unusedSimpArgs false
set_option linter.unusedVariables false

namespace Go.Vc
open Go Go.Proofs Go.Shelf Go.RowKit Go.Lib Go.Sort
section
attribute [local simp] Qc Qw Qm
structure CmpOk (cf:List Int→List Int→Int):Prop where
 irrefl:∀ x,¬ cf x x<0
 trans:∀ x y z,cf x y<0→cf y z<0→cf x z<0
 total:∀ x y,¬ cf x y<0→¬ cf y x<0→x=y
def srt (cf:List Int→List Int→Int) (xs:List (List Int)):List (List Int):=xs.mergeSort fun x y=>!decide (cf y x<0)
theorem CmpOk.ntrans {cf:List Int→List Int→Int} (h:CmpOk cf) {x y z:List Int} (h1:¬ cf x y<0) (h2:¬ cf y z<0):¬ cf x z<0:=by
 intro h3
 by_cases h4:cf y x<0
 ·exact h2 (h.trans _ _ _ h4 h3)
 rw [h.total _ _ h1 h4] at h3;exact h2 h3
theorem srt_pw {cf:List Int→List Int→Int} (h:CmpOk cf) (xs:List (List Int)):(srt cf xs).Pairwise fun a b=>¬ cf b a<0:=by
 have:=List.pairwise_mergeSort (le:=fun x y=>!decide (cf y x<0)) (fun a b c h1 h2=>by simp only [Bool.not_eq_true',decide_eq_false_iff_not] at *;exact h.ntrans h2 h1)
  (fun a b=>by
   by_cases q:cf b a<0
   ·have:¬ cf a b<0:=fun z=>h.irrefl _ (h.trans _ _ _ q z);simp [this]
   simp [q]) xs
 exact this.imp fun {a b} q=>by simpa using q
theorem Q2V {cf:List Int→List Int→Int} (h:CmpOk cf) {xs ys:List (List Int)} (hp:ys.Perm xs) (hs:ys.Pairwise fun a b=>¬ cf b a<0):ys=srt cf xs :=
 List.Perm.eq_of_pairwise (le:=fun a b=>¬ cf b a<0) (fun a b _ _ h1 h2=>h.total a b h2 h1) hs (srt_pw h xs) (hp.trans (List.mergeSort_perm xs _).symm)
theorem Q2U (cf:List Int→List Int→Int) (xs:List (List Int)):(srt cf xs).Perm xs:=List.mergeSort_perm xs _
@[simp] theorem Q6s (cf:List Int→List Int→Int) (xs:List (List Int)):(srt cf xs).length=xs.length:=(Q2U cf xs).length_eq
def Lk (w:World) (R:Nat→Prop) (p:List Int→Prop):Type:={ q:Value × List Int // RRel w R q.1 (.lst true 1 (Is q.2))∧p q.2 }
def Lk.v {w:World} {R:Nat→Prop} {p:List Int→Prop} (x:Lk w R p):Value:=x.1.1
def Lk.c {w:World} {R:Nat→Prop} {p:List Int→Prop} (x:Lk w R p):List Int:=x.1.2
theorem CmpOk.swo {w:World} {R:Nat→Prop} {p:List Int→Prop} {cf:List Int→List Int→Int} (h:CmpOk cf):SWO (ltOf fun x y:Lk w R p=>cf x.c y.c):=by
 refine ⟨fun x=>?_,fun x y z h1 h2=>?_,fun x y z h1 h2=>?_⟩
 ·simpa [ltOf] using h.irrefl x.c
 ·simp only [ltOf,decide_eq_true_eq] at *;exact h.trans _ _ _ h1 h2
 simp only [ltOf,decide_eq_false_iff_not] at *;exact h.ntrans h1 h2
theorem Q6r {α:Type} [Inhabited α] (enc:α→Value) (w:World) (blk off m:Nat) (d:Array α) (os:Array Obj) {b:Nat} (hb:b<w.heap.size) (hne:b ≠ blk):(sortWorld enc w blk off m d os).heap[b]? = w.heap[b]?:=by
 unfold sortWorld grow putRow mapBlock;simp only [Sort.heap_ahead];rw [Array.getElem?_append_left (by simpa using hb),Array.getElem?_modify,if_neg (Ne.symm hne)]
theorem Q7v {α:Type} [Inhabited α] (enc:α→Value) (w:World) (blk off m:Nat) (d:Array α) (os:Array Obj):(sortWorld enc w blk off m d os).heap.size=w.heap.size+os.size:=by simp [sortWorld]
theorem Blw.grown {w w':World} (h:Blw w.heap.size w w'):∃ q os,w'=grow (w.drewN q) os:=by
 refine ⟨w'.drawn - w.drawn,w'.heap.extract w.heap.size w'.heap.size,?_⟩;obtain ⟨h1,⟨h2,h3⟩,h4,h5,h6⟩:=h;cases w' with
 | mk heap' tape' drawn' os' output' =>
  cases w with
  | mk heap tape drawn os output =>
   simp only [grow,World.drewN,World.mk.injEq] at *;refine ⟨?_,h2,by omega,h1,h4⟩;apply Array.ext_getElem?;intro k;rcases Nat.lt_or_ge k heap.size with q|q
   ·rw [h6 k q,Array.getElem?_append_left q]
   rw [Array.getElem?_append_right q];simp only [Array.getElem?_extract];split
   ·congr 1;omega
   exact Array.getElem?_eq_none (by omega)
theorem Res.intV {w:World} {o:Nat→Option (List Nat)} {v:Value} {i:Int} (h:Res w o v (.val (.int .i64 i))):v = .int .i64 i:=by
 have h0:=h.cell 0 (by simp [flat,AV.cells]);have h1:one v:=h.sh;have hf:(Q1f v).getD 0 undef=v:=by revert h1;unfold one Value.oneCell';cases v<;>simp [Q1f,Value.cells]
 rw [hf] at h0;cases h0;rfl
def Lx (xss:List (List Int)):List (List AV):=xss.map fun x=>[.lst true 1 (Is x)]
@[simp] theorem Lx_len (xss:List (List Int)):(Lx xss).length=xss.length:=by simp [Lx]
theorem Lx_at {xss:List (List Int)} {i:Nat} (hi:i<xss.length):((Lx xss).getD i []).getD 0 .bot = .lst true 1 (Is xss[i]):=by simp [Lx,List.getD_eq_getElem?_getD,hi]
def SortsBy (P:Program) (f:Nat):Prop:=∀ (α:Type) [Inhabited α] (enc:α→Value) (_:OneCell enc) (cf:α→α→Int) (_:SWO (ltOf cf)) (g:Nat) (cb:Array Value) (blk off cap:Nat) (d:Array α) (w:World)
  (_:∀ args w,(callFunc g args).run P w = .ok (.enter g args) w) (_:CmpLays1 P g cb enc cf blk off d.size w) (_:Holds enc w blk off d) (_:blk<w.heap.size) (_:d.size<4611686018427387904),
  Calls P f #[.slice (some ⟨blk,off,none⟩) d.size cap,.func (.func g) #[] cb] w fun e w' =>
   e = .returned (.tuple #[])∧∃ d' n os,PermIn 0 d.size d d'∧SortedIn (ltOf cf) 0 d.size d'∧w'=sortWorld enc w blk off n d' os
def SortsNone (P:Program) (f:Nat):Prop:=∀ (p:Option Addr) (cap:Nat) (fv:Value) (w:World),Calls P f #[.slice p 0 cap,fv] w fun e w'=>e = .returned (.tuple #[])∧w'=w
theorem sort_icon {P : Program} {f : Nat} (hen : ∃ fn, P.funcs[f]? = some fn ∧ (fn.name == "runtime.NumGoroutine") = false ∧ fn.body.isSome = true) (hS : SortsBy P f) (hN : SortsNone P f) {g : Nat} {p : List Int → Prop} {cf : List Int → List Int → Int}
  (eg:∀ args w,(callFunc g args).run P w = .ok (.enter g args) w) (hc:∀ x y,p x→p y→Contract P g [.lst true 1 (Is x),.lst true 1 (Is y)] (.val (.int .i64 (cf x y)))) (hO:CmpOk cf) (h0:p []) {xss:List (List Int)} (hp:∀ x∈xss,p x) (hl:xss.length≤1073741824)
  {h:HP} {id n:Nat} (hid:h id=some (.mix 1 (Lx xss))):ICon P f [.own id 0 xss.length,.fn g []] h n { v:=.tup [],set:=[(id,.mix 1 (Lx (srt cf xss)))] }:=by
 refine ⟨hen,fun hlt=>⟨by simp,by simp,by simp,Q5Q rfl (hlt _ _ hid)⟩,fun C w gh h' vals hag hne hlim W H hsz hargs=>?_⟩;have a0:=hargs 0 (by simp);have a1:=hargs 1 (by simp);simp only [List.getD_cons_zero,List.getD_cons_succ] at a0 a1;have hs2:vals.size=2:=by simpa using hsz
 have hv:vals = #[vals.getD 0 undef,vals.getD 1 undef]:=by
  apply Array.ext
  ·simp [hs2]
  intro i h1 h2;have:i=0∨i=1:=by omega
  rcases this with rfl|rfl<;>simp [Array.getD,hs2]
 have hid':∀ k,gh.ρ id=some k→h' id=some (.mix 1 (Lx xss)):=fun k hk=>by rw [hag id (hlim id k hk)];exact hid
 rw [hv];have hfn:∃ cb:Array Value,cb = #[]∧vals.getD 1 undef = .func (.func g) #[] cb:=by
  generalize vals.getD 1 undef=v at a1;cases a1 with
  | r h =>
   cases h with
   | fn h1 _=>exact ⟨_,Array.eq_empty_of_size_eq_zero (by simpa using h1),rfl⟩
  | fn h1 _=>exact ⟨_,Array.eq_empty_of_size_eq_zero (by simpa using h1),rfl⟩
 obtain ⟨cb,hcb,hf⟩:=hfn;rw [hf];generalize hv0:vals.getD 0 undef=v0 at a0;rcases a0.own_eq with ⟨sz,cap,e1,e2,_,e4⟩|⟨b,sz,cap,cc,x,e1,e2,e3,e4,e5,e6,e7⟩
 ·have hx:xss=[]:=List.length_eq_zero_iff.1 e4;subst hx;rw [e2];refine (hN none 0 _ w).mono ?_
  rintro ex w' ⟨rfl,rfl⟩
  refine ⟨_,gh.R,gh.o,gh.ρ,rfl,.refl,W,?_,fun _ _ hk=>hk,fun _ _ hk=>.inl hk,.tup rfl fun k hk=>by simp at hk,fun _ _=>rfl⟩;have:happ { v:=AV.tup [],set:=[(id,.mix 1 (Lx (srt cf [])))] } h'=h':=by
   funext z
   by_cases hz:z=id
   ·subst hz;rw [hid' _ e1];simp [happ,look,srt]
   simp [happ,look,Ne.symm hz]
  rw [this];exact H
 have hx0:x=0:=e6 rfl;subst hx0;obtain ⟨b',cur,el,us,cp,q1,q2,q3,q4,q5,q6,q7,q8,q9,q10⟩:=(H.mix id 1 (Lx xss) _ (hid' _ e1) e1).ex (by simp);simp only [Bk.mk.injEq,Option.some.injEq] at q1;obtain ⟨rfl,rfl,rfl⟩:=q1;have hlen:(Lx xss).length=xss.length:=by simp
 rw [hlen] at q5 q7 q8 q9 q10;have hro:∀ i (hi:i<xss.length),RRel w gh.R (us i 0) (.lst true 1 (Is xss[i]))∧p xss[i]:=by
  intro i hi;have t:=q10 i 0 hi (by omega);have e:=Lx_at hi;rw [e] at t;exact ⟨t.toR rfl,hp _ (List.getElem_mem hi)⟩
 let A:=Lk w gh.R p
 letI:Inhabited A:=⟨⟨(.slice none 0 0,[]),.nil (by simp),h0⟩⟩
 let d:Array A:=Array.ofFn fun i:Fin xss.length=>(⟨(us i 0,xss[i.1]),hro i.1 i.2⟩:A)
 have hd:d.size=xss.length:=Array.size_ofFn;have hdat:∀ i (hi:i<xss.length),d[i]! = (⟨(us i 0,xss[i]),hro i hi⟩:A):=by
  intro i hi;rw [getElem!_pos d i (by omega)];exact Array.getElem_ofFn _
 have hblk:b<w.heap.size:=(W.o b _ q2).1;have hRne:∀ c,gh.R c→c ≠ b:=fun c hc' e=>by
  have:=(W.R c hc').2;rw [e,q2] at this;cases this
 have hH:Holds (fun x:A=>x.v) w b 0 d:=by
  intro j hj;rw [hd] at hj;rw [hdat j hj];have:=q8 j 0 hj (by omega);refine ⟨?_,?_⟩
  ·simp only [World.cell?,q3];rw [Nat.mul_one,Nat.add_zero] at this;simpa [Lk.v] using this
  simp [World.frozen?,q3]
 have hcmp:CmpLays1 P g cb (fun x:A=>x.v) (fun x y:A=>cf x.c y.c) b 0 d.size w:=by
  intro m os dk hdk x y;have hR':∀ c,gh.R c→c<(sortWorld (fun x:A=>x.v) w b 0 m dk os).heap.size:=fun c hc'=>by
   rw [Q7v];have:=(W.R c hc').1;omega
  have mv:∀ z:A,XRel (sortWorld (fun x:A=>x.v) w b 0 m dk os) gh.R noρ z.v (.lst true 1 (Is z.c)):=fun z=>.r (z.2.1.mono fun c hc'=>⟨hc',Q6r _ _ _ _ _ _ _ (W.R c hc').1 (hRne c hc')⟩);have:=(hc x.c y.c x.2.2 y.2.2).calls (sortWorld (fun x:A=>x.v) w b 0 m dk os) gh.R #[x.v,y.v] hR' rfl fun k hk=>by
   have:k=0∨k=1:=(by simp at hk;omega);rcases this with rfl|rfl
   ·exact mv x
   exact mv y
  rw [hcb];refine this.mono ?_
  rintro e w' ⟨v,o,rfl,hb,_,hres⟩
  rw [hres.intV];exact ⟨rfl,hb.grown⟩
 rw [e2,← hd];have hml:d.size<4611686018427387904:=by rw [hd];omega
 refine (hS A (fun x:A=>x.v) (fun x=>x.2.1.one) (fun x y:A=>cf x.c y.c) hO.swo g cb b 0 cc d w eg hcmp hH hblk hml).mono ?_
 rintro ex w' ⟨rfl,d',m,os,⟨hp1,hp2,hp3⟩,hp4,rfl⟩
 have hd':d'.size=xss.length:=by rw [hp1,hd]
 have hys:d'.toList.map (fun x:A=>x.c)=srt cf xss:=by
  refine Q2V hO ?_ ?_
  ·have e1:d'.extract 0 d.size=d':=(by rw [← hp1];exact Array.extract_size);have e2:d.extract 0 d.size=d:=Array.extract_size;rw [e1,e2] at hp3;have e3:d.toList.map (fun x:A=>x.c)=xss:=by
    refine List.ext_getElem (by simp [hd]) fun i h1 h2=>?_;have hi:i<xss.length:=h2;have e4:=hdat i hi;rw [getElem!_pos d i (by omega)] at e4;rw [List.getElem_map,Array.getElem_toList,e4];rfl
   rw [← e3];exact hp3.map _
  rw [List.pairwise_map,List.pairwise_iff_getElem];intro i j hi hj hij;have hi':i<d'.size:=by simpa using hi
  have hj':j<d'.size:=by simpa using hj
  have:=hp4 i j (Nat.zero_le _) hij (by omega);rw [getElem!_pos d' j hj',getElem!_pos d' i hi'] at this;simpa [ltOf] using this
 have hyl:(srt cf xss).length=xss.length:=Q6s cf xss;have hyi:∀ i (hi:i<d'.size),(srt cf xss)[i]'(by omega)=d'[i]!.c:=by
  intro i hi;rw [getElem!_pos d' i hi];simp only [← hys];simp
 let w1:World:=Sort.ahead w m
 let cur':=putCells (fun x:A=>x.v) 0 d' cur
 have W1:WF C w1 gh:=⟨W.R,W.o,W.os,⟨W.tape.1,Nat.le_trans W.tape.2 (Nat.le_add_right _ _)⟩,W.output,W.size,W.keep⟩;have H1:HRel w1 gh h':=H.heap_eq rfl;have hsz':cur'.size=cur.size:=by simp [cur',putCells]
 have hcur':∀ i,i<xss.length→cur'[i]? = some d'[i]!.v:=by
  intro i hi;have hi2:i<cur.size:=by omega
  simp only [cur',putCells,Array.getElem?_mapIdx,Array.getElem?_eq_getElem hi2,Option.map_some];rw [if_pos ⟨Nat.zero_le _,by omega⟩,Nat.sub_zero]
 have hmn:∀ bk,gh.ρ id=some bk→MixRel (w1.setRow b cur') gh id bk 1 (Lx (srt cf xss)):=by
  intro bk hbk;rw [e1] at hbk;cases hbk;refine .mk' ⟨b,cur',el,fun i _=>d'[i]!.v,cap,rfl,q2,setRow_heap w1 b cur cur' el (0,0) q3,by rw [hsz'];exact q4,by simpa [hyl] using q5,q6,fun i hi=>?_,fun i k hi hk=>?_,fun i k hi hk=>?_,fun i k hi hk=>?_⟩
  ·have hi':i<(srt cf xss).length:=(by simpa using hi);simp [Lx,List.getD_eq_getElem?_getD,List.getElem?_eq_getElem hi']
  ·have:k=0:=(by omega);subst this;simpa using hcur' i (by simpa [hyl] using hi)
  ·exact d'[i]!.2.1.one
  have:k=0:=by omega
  subst this;have hi':i<(srt cf xss).length:=by simpa using hi
  rw [Lx_at hi',hyi i (by omega)];exact .r (RRel.mono (w:=w) (fun c hc'=>⟨hc',setRow_other w1 b c cur' (hRne c hc')⟩) d'[i]!.2.1)
 obtain ⟨f1,f2,f3⟩:=H1.write W1 (b0:=b) (r:=id) (M:=[]) (cur:=cur) (cur':=cur') (el:=el) q2 q3
  (h':=happ { v:=AV.tup [],set:=[(id,.mix 1 (Lx (srt cf xss)))] } h')
  (.inr ⟨1,Lx xss,Lx (srt cf xss),hid' _ e1,by simp [happ,look],hmn⟩) (fun z hz=>by simp [happ,look,Ne.symm hz]) fun q v hq=>by
   have hq':q<cur.size:=by
    rcases Nat.lt_or_ge q cur.size with h2|h2
    ·exact h2
    simp [Array.getElem?_eq_none h2] at hq
   exact ⟨cur'[q]'(by omega),by simp [hsz',hq'],.inr (.inr ⟨rfl,1,Lx xss,hid' _ e1⟩)⟩
 have hheap:(putRow (fun x:A=>x.v) w1 b 0 d').heap=(w1.setRow b cur').heap:=by
  apply Array.ext_getElem?;intro k
  by_cases hk:k=b
  ·subst hk;rw [setRow_heap w1 k cur cur' el (0,0) q3];unfold putRow mapBlock;simp only [Array.getElem?_modify,if_true];rw [show w1.heap[k]? = some (.cells cur el (0,0)) from q3];rfl
  rw [setRow_other w1 b k cur' hk];unfold putRow mapBlock;simp only [Array.getElem?_modify,if_neg (Ne.symm hk)]
 let w2:=putRow (fun x:A=>x.v) w1 b 0 d'
 have W2:WF C w2 gh:=⟨fun c hc'=>⟨by rw [show w2.heap=_ from hheap];exact (f1.R c hc').1,(f1.R c hc').2⟩,fun c L hc'=>⟨by rw [show w2.heap=_ from hheap];exact (f1.o c L hc').1,(f1.o c L hc').2⟩,f1.os,W1.tape,f1.output,by rw [show w2.heap=_ from hheap];exact f1.size,fun c hc1 hc2=>by rw [show w2.heap=_ from hheap];exact f1.keep c hc1 hc2⟩;have H2:=f2.heap_eq (w':=w2) hheap;have hg:∀ c,c<w2.heap.size→(grow w2 os).heap[c]? = w2.heap[c]?:=fun c hc'=>by
  unfold grow;exact Array.getElem?_append_left hc'
 have hsw:sortWorld (fun x:A=>x.v) w b 0 m d' os=grow w2 os:=rfl;rw [hsw];refine ⟨_,gh.R,gh.o,gh.ρ,rfl,.refl,?_,?_,fun _ _ hk=>hk,fun _ _ hk=>.inl hk,.tup rfl fun k hk=>by simp at hk,fun c hc'=>?_⟩
 ·exact ⟨fun c hc'=>⟨by have:=(W2.R c hc').1;simp only [size_grow];omega,(W2.R c hc').2⟩,fun c L hc'=>⟨by have:=(W2.o c L hc').1;simp only [size_grow];omega,(W2.o c L hc').2⟩,W2.os,W2.tape,W2.output,by have:=W2.size;simp only [size_grow];omega,fun c hc1 hc2=>(hg c (Nat.lt_of_lt_of_le hc1 W2.size)).trans (W2.keep c hc1 hc2)⟩
 ·refine H2.turn (fun _=>False) (fun c hc'=>hg c (W2.R c hc').1) (fun c cu e hc'=>?_) (fun c i M _ hc'=>⟨hc',hg c (W2.o c _ hc').1⟩) (fun _ _ hk=>hk) (fun _ _ _ hk=>hk) (fun _=>.inl rfl) (fun _ _=>rfl) (fun _ _ _ _ hF=>hF.elim) (fun _ _ _ _ hF=>hF.elim) (fun _ _ _ hF=>hF.elim) (fun _ _ _ _ _ hF=>hF.elim);rw [hg c (Array.getElem?_eq_some_iff.1 hc').1];exact hc'
 rw [hg c (W2.R c hc').1,show w2.heap=_ from hheap];exact f3 c hc'
end
end Go.Vc
