/- A part of the proof. -/
import Derived.Test.YtghefemofbipnaaGreatX13
import Derived.Conc.FxBegin
set_option maxRecDepth 100000
set_option maxHeartbeats 4000000
set_option linter.unusedSimpArgs false
set_option linter.unusedVariables false
set_option linter.unusedSectionVars false
set_option linter.unnecessarySimpa false

open Array renaming getElem?_push→qF
namespace Go.Vc.Ph
open Go Go.Conc Go.Vc.Wg
section
attribute [local simp] Qd Qt Ql
open Go.ConcN (WD CTag phi pend isOpen isW3 isFin Vc Ssum Fsum cnt WSit WgLive PayAt Has RW AtR0 sumTo upd upd_same upd_ne OpenSt AllQuit get_map_set_same)
open Go.ConcR (KK WgAt wgBlock stA smA rd wr mk Payload DC0 g_of_ofEvents)
open Go.ConcX (OfWg)
variable [PS]
def start (v₁:World) (C:Nat):World:={ v₁ with heap:=((v₁.heap.map frzO).setIfInBounds C Q1W).push Q1W }
theorem Q2L (v₁:World) (C:Nat):(start v₁ C).heap.size=v₁.heap.size+1:=by simp [start]
theorem Q1w {v₁:World} {C b:Nat} (hC:C<v₁.heap.size) (hb:b<v₁.heap.size+1):(start v₁ C).heap[b]? = if b=v₁.heap.size then some Q1W else if b=C then some Q1W else (frz v₁).heap[b]?:=by
 have hs:((v₁.heap.map frzO).setIfInBounds C Q1W).size=v₁.heap.size:=by simp
 simp only [start,frz];rw [qF,hs]
 by_cases e:b=v₁.heap.size
 ·rw [if_pos e,if_pos e]
 rw [if_neg e,if_neg e]
 by_cases e2:b=C
 ·subst e2;rw [if_pos rfl,Array.getElem?_setIfInBounds_self_of_lt (by simpa using hC)]
 rw [if_neg e2,Array.getElem?_setIfInBounds_ne (Ne.symm e2)]
section
variable {P:Program} {ty:TypeId} {C n:Nat} {K:Nat→Nat→Value→World→Prop} {Post:Value→World→Prop} {W0:World} {S0:Nat→Prop}
theorem Q9M {v₁:World} {b:Nat} (hC:C<v₁.heap.size) (hb:b<v₁.heap.size+1):Shut (start v₁ C) b:=by
 by_cases e:b=v₁.heap.size
 ·exact Blk.shut ⟨0,by rw [Q1w hC hb,if_pos e];rfl⟩
 by_cases e2:b=C
 ·exact Blk.shut ⟨0,by rw [Q1w hC hb,if_neg e,if_pos e2];rfl⟩
 obtain ⟨c,e',f,h,h2⟩:=Q6w (v:=v₁) (b:=b) (by omega);exact ⟨c,e',f,by rw [Q1w hC hb,if_neg e,if_neg e2];exact h,h2⟩
theorem start_blk {v₁:World} {b:Nat} (hC:C<v₁.heap.size) (h:Blk v₁ b):Blk (start v₁ C) b:=by
 have hb:=blk_lt h
 by_cases e2:b=C
 ·exact ⟨0,by rw [Q1w hC (by omega),if_neg (by omega),if_pos e2];rfl⟩
 obtain ⟨e',h⟩:=Q3G h;exact ⟨e',by rw [Q1w hC (by omega),if_neg (by omega),if_neg e2];exact h⟩
theorem Q8n {v₁ w:World} {o:Obj} (hC:C<v₁.heap.size) (U:Under v₁ w):Under (start v₁ C) { w with heap:=w.heap.push o }:=by
 have UF:=U.frz;refine ⟨by simp [Q2L,U.size],fun b ov hb=>?_,U.tape,U.drawn,U.os,U.output⟩;have hlt:b<v₁.heap.size+1:=by rw [← Q2L v₁ C];exact (Array.getElem?_eq_some_iff.1 hb).1
 have hex:∃ ow,(w.heap.push o)[b]? = some ow:=⟨_,Array.getElem?_eq_getElem (by simp [U.size];exact hlt)⟩;rw [Q1w hC hlt] at hb;split at hb
 ·cases hb;obtain ⟨ow,h⟩:=hex;exact ⟨ow,h,.blank⟩
 split at hb
 ·cases hb;obtain ⟨ow,h⟩:=hex;exact ⟨ow,h,.blank⟩
 obtain ⟨ow,h1,h2⟩:=UF.blk b ov hb;exact ⟨ow,by simp only [qF];rw [if_neg (by rw [U.size];omega)];exact h1,h2⟩
def Asks (P:Program) (W0:World) (S0:Nat→Prop) (Post:Value→World→Prop) (ty:TypeId) (C n:Nat) (K:Nat→Nat→Value→World→Prop) (g:Goroutine) (v₁:World):Prop :=
 ∃ (g':Goroutine) (Anch:Goroutine→World→Prop) (E1:Goroutine→Prop) (T:Tree),
  (∀ w,Under v₁ w→stepG P true g w = .go g' { w with heap:=w.heap.push (wgBlock ty 0 0) } #[])∧PayAt C PS.z v₁∧(∀ g w,Anch g w→g.status = .running) ∧
  (∀ g w,WgLive ty v₁.heap.size w→Anch g w→∃ m,GP P ty v₁.heap.size (AtW1 P ty v₁.heap.size Anch (IsE E1)) m g w) ∧
  GoesR P true (Scr P ty v₁.heap.size C n K Anch n) T g' (start v₁ C)∧(∀ v₂,Brought K C n v₁ v₂→∀ g,E1 g→TM P W0 S0 Post g v₂)
theorem tm_phase (hn:n<2147483648) (hK:∀ β k val v v',Rly v v'→K β k val v→K β k val v') {g:Goroutine} {v:World} (hg:g.status = .running) (h:∀ v₁,Rly v v₁→Asks P W0 S0 Post ty C n K g v₁):TM P W0 S0 Post g v:=by
 intro v₁ r gs w sl t q Shun cf;generalize hsum:sumTo gs.size q=N
 induction N using Nat.strongRecOn generalizing v₁ gs w sl t q with
 | _ N ih =>
  rcases cf.pick (sl:=sl) hg with ⟨d,sl',hd,hst⟩|⟨gs',d,sl',ops,q',hd,hst,hlt,cf'⟩
  ·obtain ⟨g',Anch,E1,T,hstep,hpay,hA,hAn,hG,hTM⟩:=h (v₁.at d) (r.trans (.at hd));have U:=cf.und.at d;have hClt:C<(v₁.at d).heap.size:=(by obtain ⟨cs,h1,_⟩:=hpay;exact (Array.getElem?_eq_some_iff.1 h1).1);have hpos:0<gs.size:=(Array.getElem?_eq_some_iff.1 cf.g0).1;have hrun:=runT_crowd_go (P:=P) (sl:=sl') (i:=0) cf.g0 (show stepG P (0 == 0) g (w.at d)=_ from hstep _ U);refine .back (hst.trans hrun) ?_;have e0:MemOp.ofEvents 0 g.frame.fn g.frame.place #[] = #[]:=(by rw [ofEvents_eq];simp);rw [e0,Array.append_empty];have hL:=cf.leav.own (a:=g) (a':=g') (w':={ (w.at d) with heap:=(w.at d).heap.push (wgBlock ty 0 0) }) hpos g.frame.fn g.frame.place #[];rw [e0,Array.append_empty] at hL;have hW:(v₁.at d).heap.size=w.heap.size:=cf.und.size.symm;have lie:Lie (v₁.at d).heap.size C K gs.size ((v₁.at d).heap.size+1):=⟨hpos,by omega,by omega,by omega,hK⟩;have hwsz:({ (w.at d) with heap:=(w.at d).heap.push (wgBlock ty 0 0) }:World).heap.size=(v₁.at d).heap.size+1:=by
    simp only [Array.size_push];rw [hW];rfl
   have part0:∀ {i},Part gs.size 0 i→i=0:=fun hi=>by rcases hi with h|⟨h1,h2⟩<;>omega
   have hshun:∀ l,Shun l→∃ a,l = .cell a∧Blk (v₁.at d) a.block:=cf.shun;have Uw:Under (start (v₁.at d) C) { (w.at d) with heap:=(w.at d).heap.push (wgBlock ty 0 0) }:=Q8n hClt U;have hnoW:∀ i x b,touchAt t i=some x→Q6Z x.loc=some b→b<w.heap.size:=fun i x b hx hb=>by
    obtain ⟨op,ho,hox⟩:=touch_of hx;exact Q3f (cf.past.seen op (Array.mem_of_getElem? ho)) hox hb
   have hcore:Core P ty (v₁.at d).heap.size C n K gs.size ((v₁.at d).heap.size+1) { (w.at d) with heap:=(w.at d).heap.push (wgBlock ty 0 0) } Shun ((gs.map (Go.Conc.woken P g g' { (w.at d) with heap:=(w.at d).heap.push (wgBlock ty 0 0) })).setIfInBounds 0 g')
     { (w.at d) with heap:=(w.at d).heap.push (wgBlock ty 0 0) } t 0 (fun _=>⟨0,0,0⟩) (fun _=>0) (fun _=>.leaf) (fun _=>default) (fun _=>start (v₁.at d) C) q (fun _=>0):=by
    refine ⟨by simp,fun i g0 h0 hi hg0=>hL.old i g0 h0 hg0,fun i hi=>hL.above i (by simpa using hi),fun k hk=>absurd hk (Nat.not_lt_zero _),fun k hk=>absurd hk (Nat.not_lt_zero _),fun i hi=>Uw,fun i i' hi hi' hne=>absurd ((part0 hi).trans (part0 hi').symm) hne,
     fun i hi=>⟨⟨0,by rw [Q1w hClt (by omega),if_pos rfl];rfl⟩,⟨0,by rw [Q1w hClt (by omega),if_neg (by omega),if_pos rfl];rfl⟩⟩,fun i hi b hb=>Q9M hClt hb,fun _ _ _ _=>rfl,by rw [hwsz];exact Nat.le_refl _,?_,
     fun k hk=>absurd hk (Nat.not_lt_zero _),fun k hk=>absurd hk (Nat.not_lt_zero _),?_,fun k hk=>absurd hk (Nat.not_lt_zero _),fun k hk=>absurd hk (Nat.not_lt_zero _),rfl,rfl,rfl,Nat.le_refl _⟩
    ·refine ⟨cf.past.clean,fun op hop=>MemAct.low_mono (by rw [hwsz,hW];omega) (cf.past.seen op hop),fun i hi j x b hx hm hl hnb hw=>?_,fun i op x hi hx hs=>?_,fun k hk=>absurd hk (Nat.not_lt_zero _),fun k hk i x hx hl=>?_,fun i x hx hm=>.inr (cf.past.known i x hx hm),fun i g0 hgi hne hno hct=>cf.past.over i g0 hgi hne hct,fun i hi=>?_⟩
     ·rw [part0 hi];rcases cf.past.known j x hx hm with hk|⟨hs,_⟩
      ·exact hk
      obtain ⟨a,e,hb⟩:=hshun _ hs;rw [e] at hl;cases hl;exact absurd (start_blk hClt hb) hnb
     ·obtain ⟨a,e,ha⟩:=hs;have:=hnoW i x a.block (by rw [touchAt_of hi];exact hx) (by rw [e];rfl);omega
     ·rcases cf.past.known i x hx (by rw [hl];rfl) with hk|⟨hs,_⟩
      ·exact hk
      obtain ⟨a,e,hb⟩:=hshun _ hs;rw [hl] at e;cases e;exact absurd hb (PayAt.notBlk hpay)
     obtain ⟨op,ho,hoa⟩:=Option.map_eq_some_iff.1 hi;have:=cf.past.seen op (Array.mem_of_getElem? ho);rw [hoa] at this;have h2:(v₁.at d).heap.size<w.heap.size:=this;omega
    obtain ⟨cs,h1,h2⟩:=hpay;obtain ⟨ow,h3,h4⟩:=U.blk C _ h1;have h5:ow = .cells cs Payload.ety:=by
     cases h4 with
     | cells hf =>
      rcases hf with rfl|⟨hf1,hf2⟩
      ·rfl
      have:=(hf2 0 hf1).2;simp at this
     | same h=>exact absurd rfl (h _ _ _)
    subst h5;exact ⟨cs,by simp only [qF];rw [if_neg (by have:(w.at d).heap.size=w.heap.size:=rfl;omega)];exact h3,h2⟩
   refine Q9G (ty:=ty) lie hn hA hAn (fin_ok lie rfl U rfl hpay hClt hshun cf.keep hTM) _ _ t ⟨_,_,sl',0,_,_,_,_,_,q,_,.sp n 6,0,T,0,0,g',0,0,rfl,?_,?_,hcore,?_,?_,cf.past.hears,fun e=>by simp at e,rfl⟩
   ·exact get_map_set_same _ _ _ hpos
   ·have:=CS.v (P:=P) (ty:=ty) (Wg:=(v₁.at d).heap.size) (C:=C) (n:=n) (K:=K) (Anch:=Anch) (E1:=E1) (r:=n) (T:=T) (g:=g') (v:=start (v₁.at d) C) (w:={ (w.at d) with heap:=(w.at d).heap.push (wgBlock ty 0 0) }) (Nat.le_refl _) hG
    rwa [Nat.sub_self] at this
   ·show (w.heap.push (wgBlock ty 0 0))[(v₁.at d).heap.size]? = _;rw [hW,Array.getElem?_push_size]
   have:=Go.ConcN.Mode.opn (j:=0) (D:=fun _=>(⟨0,0,0⟩:WD)) (tag:=.sp n 6) trivial (fun i hi=>absurd hi (Nat.not_lt_zero _)) (by simp);simpa [Vc,sumTo,pend] using this
  exact .back hst (ih _ (by omega) (v₁.at d) (r.trans (.at hd)) gs' (w.at d) sl' _ q' cf' rfl)
end
end
end Go.Vc.Ph
namespace Go.Vc
open Go Go.Conc
section
attribute [local simp] Qd Qt Ql
def To (P:Program) (mn:Bool) (Stop:Goroutine→World→Prop) (g:Goroutine) (v:World):Prop:=∃ t,GoesR P mn Stop t g v
theorem To.stop {P:Program} {mn:Bool} {Stop:Goroutine→World→Prop} {g:Goroutine} {v:World} (h:∀ v₁,Rly v v₁→Stop g v₁):To P mn Stop g v:=⟨.leaf,h⟩
theorem To.rly {P:Program} {mn:Bool} {Stop:Goroutine→World→Prop} {g:Goroutine} {v v₁:World} (h:To P mn Stop g v) (r:Rly v v₁):To P mn Stop g v₁:=let ⟨t,h⟩:=h;⟨t,h.rly r⟩
theorem To.step {P:Program} {mn:Bool} {Stop:Goroutine→World→Prop} {g:Goroutine} {v:World} (hg:g.status = .running) (h:∀ v₁,Rly v v₁→∃ g' v',SimStep P mn g v₁ g' v'∧To P mn Stop g' v'):To P mn Stop g v:=by
 classical
 have key:∀ v₁,Rly v v₁→∃ (t:Tree) (g':Goroutine) (v':World),SimStep P mn g v₁ g' v'∧GoesR P mn Stop t g' v':=fun v₁ r=>by
  obtain ⟨g',v',hs,t,ht⟩:=h v₁ r;exact ⟨t,g',v',hs,ht⟩
 refine ⟨.node fun v₁=>if r:Rly v v₁ then Classical.choose (key v₁ r) else .leaf,.inr ⟨hg,fun v₁ r=>?_⟩⟩;have e:(fun v₁=>if r:Rly v v₁ then Classical.choose (key v₁ r) else Tree.leaf) v₁=Classical.choose (key v₁ r):=dif_pos r;rw [e];exact Classical.choose_spec (key v₁ r)
theorem To.ctl {P:Program} {mn:Bool} {Stop:Goroutine→World→Prop} {g g':Goroutine} {v:World} (hg:g.status = .running) (h:∀ w,stepG P mn g w = .go g' w #[]) (hn:To P mn Stop g' v):To P mn Stop g v :=
 .step hg fun v₁ r=>⟨g',v₁,.ctl h,hn.rly r⟩
@[reducible] def KdG (P:Program) (mn:Bool):Kd P where
 main:=mn
 adm:=fun T=>∃ Stop,T=To P mn Stop
 rly:=by rintro T ⟨Stop,rfl⟩ g v v₁ h r;exact h.rly r
 step:=by rintro T ⟨Stop,rfl⟩ g v hg h;exact To.step hg h
section
variable {P:Program} {mn:Bool} {Stop:Goroutine→World→Prop} {b:Frame} {a:Act} {k:List Item} {cs:List Frame} {v:World} {ops:Array Oper} {i:Nat} {rest:List Nat} {o:Oper}
theorem To.value (x:Value) (ho:ops[i]? = some o) (hw:Region.wanted o (yielded ops a.tmps)=true) (hk:b.kind ≠ .early) (hr:∀ w,(execOp a.eval o).run P w = .ok (.value x) w) (he:∀ w,(execOp a.eval o).events P w #[] = #[])
  (hn:To P mn Stop (G (b.at (a.put o.dst x) (.inRegion ops rest :: k)) cs) v):To P mn Stop (G (b.at a (.inRegion ops (i :: rest) :: k)) cs) v :=
 .ctl rfl (fun w=>by
  rw [stepG_value ho hw hk (hr w)];simp [listed,he w,seen]) hn
theorem To.oper (ho:ops[i]? = some o) (hw:Region.wanted o (yielded ops a.tmps)=true) (hk:b.kind ≠ .early)
  (h:∀ v₁,Rly v v₁→Tame (execOp a.eval o)∧∃ x v',(execOp a.eval o).run P v₁ = .ok (.value x) v'∧To P mn Stop (G (b.at (a.put o.dst x) (.inRegion ops rest :: k)) cs) v'):To P mn Stop (G (b.at a (.inRegion ops (i :: rest) :: k)) cs) v :=
 .step rfl fun v₁ r=>by
  obtain ⟨ht,x,v',hr,hn⟩:=h v₁ r;refine ⟨_,v',fun u U=>?_,hn⟩;obtain ⟨u',q1,q2,q3,q4⟩:=ht.sim U hr;exact ⟨u',_,stepG_value ho hw hk q1,q2,q3,fun e he=>q4 e (mem_listed he)⟩
theorem To.operS (ho:ops[i]? = some o) (hw:Region.wanted o (yielded ops a.tmps)=true) (hk:b.kind ≠ .early)
  (h:∀ v₁,Rly v v₁→Tame (execOp a.eval o)∧∃ v',(execOp a.eval o).run P v₁ = .ok .skip v'∧To P mn Stop (G (b.at (a.put o.dst undef) (.inRegion ops rest :: k)) cs) v'):To P mn Stop (G (b.at a (.inRegion ops (i :: rest) :: k)) cs) v :=
 .step rfl fun v₁ r=>by
  obtain ⟨ht,v',hr,hn⟩:=h v₁ r;refine ⟨_,v',fun u U=>?_,hn⟩;obtain ⟨u',q1,q2,q3,q4⟩:=ht.sim U hr;exact ⟨u',_,stepG_none ho hw hk q1,q2,q3,fun e he=>q4 e (mem_listed he)⟩
theorem To.enter {f:FuncId} {args:Array Value} (ho:ops[i]? = some o) (hw:Region.wanted o (yielded ops a.tmps)=true) (hk:b.kind ≠ .early) (hr:∀ w,(execOp a.eval o).run P w = .ok (.enter f args) w) (he:∀ w,(execOp a.eval o).events P w #[] = #[])
  (hn:To P mn Stop (G (Frame.enter P f args .normal) (b.at a (.inRegion ops (i :: rest) :: k) :: cs)) v):To P mn Stop (G (b.at a (.inRegion ops (i :: rest) :: k)) cs) v :=
 .ctl rfl (fun w=>by
  rw [stepG_enter ho hw hk (hr w)];simp [listed,he w,seen]) hn
theorem Q2j {f : FuncId} {fn : Func} {args : Array Value} (hf : P.funcs[f]? = some fn) (hne : (fn.name == "runtime.NumGoroutine") = false) (hb : fn.body.isSome = true) (w : World) :
  (callFunc f args).run P w = .ok (.enter f args) w∧(callFunc f args).events P w #[] = #[]:=by
 have hne' : ¬ fn.name = "runtime.NumGoroutine" := by simpa using hne
 obtain ⟨c,hc⟩:=Option.isSome_iff_exists.1 hb;constructor<;>simp [callFunc,hf,hne',hc,go_sem]
end
section
variable {P:Program} [Kd P] {T:Goroutine→World→Prop} {b:Frame} {a:Act} {k:List Item} {cs:List Frame} {v:World} {ops:Array Oper} {i:Nat} {rest:List Nat} {o:Oper}
theorem kvalue (hT:Kd.adm P T) (x:Value) (ho:ops[i]? = some o) (hw:Region.wanted o (yielded ops a.tmps)=true) (hk:b.kind ≠ .early) (hr:∀ w,(execOp a.eval o).run P w = .ok (.value x) w) (he:∀ w,(execOp a.eval o).events P w #[] = #[])
  (hn:T (G (b.at (a.put o.dst x) (.inRegion ops rest :: k)) cs) v):T (G (b.at a (.inRegion ops (i :: rest) :: k)) cs) v :=
 Kd.ctl hT rfl (fun w=>by
  rw [stepG_value ho hw hk (hr w)];simp [listed,he w,seen]) hn
theorem koper (hT:Kd.adm P T) (ho:ops[i]? = some o) (hw:Region.wanted o (yielded ops a.tmps)=true) (hk:b.kind ≠ .early)
  (h:∀ v₁,Rly v v₁→Tame (execOp a.eval o)∧∃ x v',(execOp a.eval o).run P v₁ = .ok (.value x) v'∧T (G (b.at (a.put o.dst x) (.inRegion ops rest :: k)) cs) v'):T (G (b.at a (.inRegion ops (i :: rest) :: k)) cs) v :=
 Kd.step hT rfl fun v₁ r=>by
  obtain ⟨ht,x,v',hr,hn⟩:=h v₁ r;refine ⟨_,v',fun u U=>?_,hn⟩;obtain ⟨u',q1,q2,q3,q4⟩:=ht.sim U hr;exact ⟨u',_,stepG_value ho hw hk q1,q2,q3,fun e he=>q4 e (mem_listed he)⟩
end
end
end Go.Vc
