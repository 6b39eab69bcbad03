/- A part of the proof: a verified generator of conditions, and what each function of the program does. -/
import Derived.Test.YtjfnifbgmcjjkaaGreatS11
set_option maxRecDepth 100000
set_option maxHeartbeats 4000000
set_option linter.unusedSimpArgs false
set_option linter.unusedVariables false

namespace Go.Vc.T
open Go Go.Vc Go.Proofs
attribute [local simp] unk unA unE unT unC flat eL eI Qr Q16 Q1g Qs Cat.cells Prf.cells XL32Composite.cells
noncomputable def Q3v (p_:Prf) (q_:Prf):Option (XL32Composite × Bool) :=
 (Q1M p_.s).bind fun v1 =>
 (Q1M q_.t).bind fun v2 =>
 (Qy (σ:=List (List Int) × List (List (List (List Int))) × List (List (List Int)) × Int) (ε:=(List (List Int) × List (List (List (List Int))) × List (List (List Int))) ⊕ (XL32Composite × Bool)) (fun s33 =>
  if s33.2.2.2<p_.s.n then
   (Qy (σ:=List Int × List (List (List Int)) × List (List Int) × Int) (ε:=(List Int × List (List (List Int)) × List (List Int)) ⊕ (XL32Composite × Bool)) (fun s47 =>
    if s47.2.2.2<q_.t.n then
     (Q22 p_ q_ s33.2.2.2 s47.2.2.2).bind fun v49 =>
     if (v49.length:Int) > 256 then
      some (Ctl.ret (Sum.inr ((⟨(⟨(⟨0,[],[],[],[]⟩:Cat),(⟨0,[],[],[],[]⟩:Cat),[],[],[]⟩:Prf),[],[]⟩:XL32Composite),false)))
     else
      (Q2g p_ q_ s33.2.2.2 s47.2.2.2 v49).bind fun v51 =>
      (Q2V v51).bind fun v52 =>
      if v52 > 64 then
       some (Ctl.ret (Sum.inr ((⟨(⟨(⟨0,[],[],[],[]⟩:Cat),(⟨0,[],[],[],[]⟩:Cat),[],[],[]⟩:Prf),[],[]⟩:XL32Composite),false)))
      else
       (Q2V v51).bind fun v54 =>
       ass ((s47.1++[v54]).length≤1073741824) <|
       ass ((s47.2.1++[v49]).length≤1073741824) <|
       ass ((s47.2.2.1++[v51]).length≤1073741824) <|
       ass (B64 (s47.2.2.2+1)) <|
       some (Ctl.next (s47.1++[v54],s47.2.1++[v49],s47.2.2.1++[v51],s47.2.2.2+1))
    else
     some (Ctl.ret (Sum.inl (s47.1,s47.2.1,s47.2.2.1)))) fuel ([],[],[],0)).bind fun e35 =>
   match e35 with
   | .inl b35 =>
    ass ((s33.1++[b35.1]).length≤1073741824) <|
    ass ((s33.2.1++[b35.2.1]).length≤1073741824) <|
    ass ((s33.2.2.1++[b35.2.2]).length≤1073741824) <|
    ass (B64 (s33.2.2.2+1)) <|
    some (Ctl.next (s33.1++[b35.1],s33.2.1++[b35.2.1],s33.2.2.1++[b35.2.2],s33.2.2.2+1))
   | .inr p35 =>
    some (Ctl.ret (Sum.inr p35))
  else
   some (Ctl.ret (Sum.inl (s33.1,s33.2.1,s33.2.2.1)))) fuel ([],[],[],0)).bind fun e3 =>
 match e3 with
 | .inl b3 =>
  (Qy (σ:=List (List (List Int)) × Int) (ε:=List (List (List Int))) (fun s179 =>
   if s179.2<(p_.s.fr.length:Int) then
    (Qy (σ:=List (List Int) × Int) (ε:=List (List Int)) (fun s237 =>
     if s237.2<q_.t.n then
      ass (0≤s179.2∧s179.2<(p_.s.to.length:Int)) <|
      ass (0≤ix p_.s.to s179.2∧ix p_.s.to s179.2<(b3.1.length:Int)) <|
      ass (0≤s237.2∧s237.2<((rx b3.1 (ix p_.s.to s179.2)).length:Int)) <|
      ass (0≤ix (rx b3.1 (ix p_.s.to s179.2)) s237.2∧ix (rx b3.1 (ix p_.s.to s179.2)) s237.2≤1073741824) <|
      (Qy (σ:=List Int × Int) (ε:=List Int) (fun s267 =>
       ass (0≤s179.2∧s179.2<(p_.s.to.length:Int)) <|
       ass (0≤ix p_.s.to s179.2∧ix p_.s.to s179.2<(b3.2.1.length:Int)) <|
       ass (0≤s237.2∧s237.2<((gx b3.2.1 (ix p_.s.to s179.2)).length:Int)) <|
       if s267.2<((gx (gx b3.2.1 (ix p_.s.to s179.2)) s237.2).length:Int) then
        ass (0≤s179.2∧s179.2<(p_.s.to.length:Int)) <|
        ass (0≤ix p_.s.to s179.2∧ix p_.s.to s179.2<(b3.2.1.length:Int)) <|
        ass (0≤s237.2∧s237.2<((gx b3.2.1 (ix p_.s.to s179.2)).length:Int)) <|
        ass (0≤s267.2∧s267.2<((gx (gx b3.2.1 (ix p_.s.to s179.2)) s237.2).length:Int)) <|
        ass (0≤s179.2∧s179.2<(p_.s.to.length:Int)) <|
        ass (0≤ix p_.s.to s179.2∧ix p_.s.to s179.2<(b3.2.2.length:Int)) <|
        ass (0≤s237.2∧s237.2<((gx b3.2.2 (ix p_.s.to s179.2)).length:Int)) <|
        ass (0≤s267.2∧s267.2<((rx (gx b3.2.2 (ix p_.s.to s179.2)) s237.2).length:Int)) <|
        ass (0≤s179.2∧s179.2<(p_.s.fr.length:Int)) <|
        ass ((0:Int)≤0∧0<((rx (gx (gx b3.2.1 (ix p_.s.to s179.2)) s237.2) s267.2).length:Int)) <|
        ass (0≤s179.2∧s179.2<(p_.bf.length:Int)) <|
        ass ((0:Int)≤0∧0<((rx (gx (gx b3.2.1 (ix p_.s.to s179.2)) s237.2) s267.2).length:Int)) <|
        ass (0≤ix (rx (gx (gx b3.2.1 (ix p_.s.to s179.2)) s237.2) s267.2) 0∧ix (rx (gx (gx b3.2.1 (ix p_.s.to s179.2)) s237.2) s267.2) 0<((gx p_.bf s179.2).length:Int)) <|
        ass ((0:Int)≤1∧1<((rx (gx (gx b3.2.1 (ix p_.s.to s179.2)) s237.2) s267.2).length:Int)) <|
        ass (0≤ix (rx (gx (gx b3.2.1 (ix p_.s.to s179.2)) s237.2) s267.2) 1∧ix (rx (gx (gx b3.2.1 (ix p_.s.to s179.2)) s237.2) s267.2) 1<((rx (gx p_.bf s179.2) (ix (rx (gx (gx b3.2.1 (ix p_.s.to s179.2)) s237.2) s267.2) 0)).length:Int)) <|
        ass ((0:Int)≤2∧2<((rx (gx (gx b3.2.1 (ix p_.s.to s179.2)) s237.2) s267.2).length:Int)) <|
        (QV (⟨(⟨v1,v2,b3.1,s179.1,[]⟩:Prf),b3.2.1,b3.2.2⟩:XL32Composite) (ix p_.s.fr s179.2) s237.2 [ix (rx (gx (gx b3.2.1 (ix p_.s.to s179.2)) s237.2) s267.2) 0,ix (rx (gx p_.bf s179.2) (ix (rx (gx (gx b3.2.1 (ix p_.s.to s179.2)) s237.2) s267.2) 0)) (ix (rx (gx (gx b3.2.1 (ix p_.s.to s179.2)) s237.2) s267.2) 1),ix (rx (gx (gx b3.2.1 (ix p_.s.to s179.2)) s237.2) s267.2) 2]).bind fun v288 =>
        ass (0≤ix (rx (gx b3.2.2 (ix p_.s.to s179.2)) s237.2) s267.2∧ix (rx (gx b3.2.2 (ix p_.s.to s179.2)) s237.2) s267.2<(s267.1.length:Int)) <|
        ass (B64 (s267.2+1)) <|
        some (Ctl.next (s267.1.set ((ix (rx (gx b3.2.2 (ix p_.s.to s179.2)) s237.2) s267.2).toNat) v288,s267.2+1))
       else
        some (Ctl.ret s267.1)) fuel (List.replicate ((ix (rx b3.1 (ix p_.s.to s179.2)) s237.2).toNat) 0,0)).bind fun b243 =>
      ass ((s237.1++[b243]).length≤1073741824) <|
      ass (B64 (s237.2+1)) <|
      some (Ctl.next (s237.1++[b243],s237.2+1))
     else
      some (Ctl.ret s237.1)) fuel ([],0)).bind fun b181 =>
    ass ((s179.1++[b181]).length≤1073741824) <|
    ass (B64 (s179.2+1)) <|
    some (Ctl.next (s179.1++[b181],s179.2+1))
   else
    some (Ctl.ret s179.1)) fuel ([],0)).bind fun b63 =>
  (Qy (σ:=List (List (List Int)) × Int) (ε:=List (List (List Int))) (fun s411 =>
   if s411.2<(q_.t.fr.length:Int) then
    (Qy (σ:=List (List Int) × Int) (ε:=List (List Int)) (fun s469 =>
     if s469.2<p_.s.n then
      ass (0≤s469.2∧s469.2<(b3.1.length:Int)) <|
      ass (0≤s411.2∧s411.2<(q_.t.fr.length:Int)) <|
      ass (0≤ix q_.t.fr s411.2∧ix q_.t.fr s411.2<((rx b3.1 s469.2).length:Int)) <|
      ass (0≤ix (rx b3.1 s469.2) (ix q_.t.fr s411.2)∧ix (rx b3.1 s469.2) (ix q_.t.fr s411.2)≤1073741824) <|
      (Qy (σ:=List Int × Int) (ε:=List Int) (fun s499 =>
       ass (0≤s469.2∧s469.2<(b3.2.1.length:Int)) <|
       ass (0≤s411.2∧s411.2<(q_.t.fr.length:Int)) <|
       ass (0≤ix q_.t.fr s411.2∧ix q_.t.fr s411.2<((gx b3.2.1 s469.2).length:Int)) <|
       if s499.2<((gx (gx b3.2.1 s469.2) (ix q_.t.fr s411.2)).length:Int) then
        ass (0≤s469.2∧s469.2<(b3.2.1.length:Int)) <|
        ass (0≤s411.2∧s411.2<(q_.t.fr.length:Int)) <|
        ass (0≤ix q_.t.fr s411.2∧ix q_.t.fr s411.2<((gx b3.2.1 s469.2).length:Int)) <|
        ass (0≤s499.2∧s499.2<((gx (gx b3.2.1 s469.2) (ix q_.t.fr s411.2)).length:Int)) <|
        ass (0≤s469.2∧s469.2<(b3.2.2.length:Int)) <|
        ass (0≤s411.2∧s411.2<(q_.t.fr.length:Int)) <|
        ass (0≤ix q_.t.fr s411.2∧ix q_.t.fr s411.2<((gx b3.2.2 s469.2).length:Int)) <|
        ass (0≤s499.2∧s499.2<((rx (gx b3.2.2 s469.2) (ix q_.t.fr s411.2)).length:Int)) <|
        ass (0≤s411.2∧s411.2<(q_.t.to.length:Int)) <|
        ass ((0:Int)≤0∧0<((rx (gx (gx b3.2.1 s469.2) (ix q_.t.fr s411.2)) s499.2).length:Int)) <|
        ass ((0:Int)≤1∧1<((rx (gx (gx b3.2.1 s469.2) (ix q_.t.fr s411.2)) s499.2).length:Int)) <|
        ass (0≤s411.2∧s411.2<(q_.bh.length:Int)) <|
        ass ((0:Int)≤0∧0<((rx (gx (gx b3.2.1 s469.2) (ix q_.t.fr s411.2)) s499.2).length:Int)) <|
        ass (0≤ix (rx (gx (gx b3.2.1 s469.2) (ix q_.t.fr s411.2)) s499.2) 0∧ix (rx (gx (gx b3.2.1 s469.2) (ix q_.t.fr s411.2)) s499.2) 0<((gx q_.bh s411.2).length:Int)) <|
        ass ((0:Int)≤2∧2<((rx (gx (gx b3.2.1 s469.2) (ix q_.t.fr s411.2)) s499.2).length:Int)) <|
        ass (0≤ix (rx (gx (gx b3.2.1 s469.2) (ix q_.t.fr s411.2)) s499.2) 2∧ix (rx (gx (gx b3.2.1 s469.2) (ix q_.t.fr s411.2)) s499.2) 2<((rx (gx q_.bh s411.2) (ix (rx (gx (gx b3.2.1 s469.2) (ix q_.t.fr s411.2)) s499.2) 0)).length:Int)) <|
        (QV (⟨(⟨v1,v2,b3.1,b63,s411.1⟩:Prf),b3.2.1,b3.2.2⟩:XL32Composite) s469.2 (ix q_.t.to s411.2) [ix (rx (gx (gx b3.2.1 s469.2) (ix q_.t.fr s411.2)) s499.2) 0,ix (rx (gx (gx b3.2.1 s469.2) (ix q_.t.fr s411.2)) s499.2) 1,ix (rx (gx q_.bh s411.2) (ix (rx (gx (gx b3.2.1 s469.2) (ix q_.t.fr s411.2)) s499.2) 0)) (ix (rx (gx (gx b3.2.1 s469.2) (ix q_.t.fr s411.2)) s499.2) 2)]).bind fun v520 =>
        ass (0≤ix (rx (gx b3.2.2 s469.2) (ix q_.t.fr s411.2)) s499.2∧ix (rx (gx b3.2.2 s469.2) (ix q_.t.fr s411.2)) s499.2<(s499.1.length:Int)) <|
        ass (B64 (s499.2+1)) <|
        some (Ctl.next (s499.1.set ((ix (rx (gx b3.2.2 s469.2) (ix q_.t.fr s411.2)) s499.2).toNat) v520,s499.2+1))
       else
        some (Ctl.ret s499.1)) fuel (List.replicate ((ix (rx b3.1 s469.2) (ix q_.t.fr s411.2)).toNat) 0,0)).bind fun b475 =>
      ass ((s469.1++[b475]).length≤1073741824) <|
      ass (B64 (s469.2+1)) <|
      some (Ctl.next (s469.1++[b475],s469.2+1))
     else
      some (Ctl.ret s469.1)) fuel ([],0)).bind fun b413 =>
    ass ((s411.1++[b413]).length≤1073741824) <|
    ass (B64 (s411.2+1)) <|
    some (Ctl.next (s411.1++[b413],s411.2+1))
   else
    some (Ctl.ret s411.1)) fuel ([],0)).bind fun b295 =>
  some ((⟨(⟨v1,v2,b3.1,b63,b295⟩:Prf),b3.2.1,b3.2.2⟩:XL32Composite),true)
 | .inr p3 =>
  some p3
theorem Q1m {F : Fx} {st st' : St} (m : List (Nat × Nat)) (h : (m.map Prod.fst).Nodup ∧ (m.map Prod.snd).Nodup ∧ (∀ id, id < F.pins → look id m = some id) ∧ (∀ p ∈ m, p.2 < st'.n) ∧ (∀ p ∈ st'.h, p.1 < st'.n) ∧ (∀ p ∈ st'.s, p.2 = rl m (st.get p.1) ∨ p.2 = .bot) ∧ ∀ p ∈ st'.h, hhOk m st.h p.1 p.2 := by simp [hP, hhOk, back, idQ, Cat.cells, Prf.cells, XL32Composite.cells, UA, U1, IA, I1, LA, L1, BA, B1, EA, E1, E2, eB, eI, eL, Q8 _ Qs _ (fun _=>rfl), Q8 _ (fun x=>[.lst true 1 (Es eL x)]) _ (fun _=>rfl), XComposite.cells, Q8 _ Qk _ (fun _=>rfl), Q8 _ (XTripleint64.cells true) _ (fun _=>rfl), Q8 _ (fun x=>[.lst true 1 (Es (fun x=>[.lst true 3 (Es (XTripleint64.cells true) x)]) x)]) _ (fun _=>rfl), Q8 _ (fun x=>[.lst true 3 (Es (XTripleint64.cells true) x)]) _ (fun _=>rfl), XTripleint64.cells, Q8 _ Q9 _ (fun _=>rfl)]) : Wk F st st' := Wk.r1 m h
theorem Q1O {F : Fx} {st st' : St} (m : Nat) (h : ((idQ m).map Prod.fst).Nodup ∧ ((idQ m).map Prod.snd).Nodup ∧ (∀ id, id < F.pins → look id (idQ m) = some id) ∧ (∀ p ∈ (idQ m), p.2 < st'.n) ∧ (∀ p ∈ st'.h, p.1 < st'.n) ∧ (∀ p ∈ st'.s, p.2 = rl (idQ m) (st.get p.1) ∨ p.2 = .bot) ∧ ∀ p ∈ st'.h, hhOk (idQ m) st.h p.1 p.2 := by simp [hP, hhOk, back, idQ, Cat.cells, Prf.cells, XL32Composite.cells, UA, U1, IA, I1, LA, L1, BA, B1, EA, E1, E2, eB, eI, eL, Q8 _ Qs _ (fun _=>rfl), Q8 _ (fun x=>[.lst true 1 (Es eL x)]) _ (fun _=>rfl), XComposite.cells, Q8 _ Qk _ (fun _=>rfl), Q8 _ (XTripleint64.cells true) _ (fun _=>rfl), Q8 _ (fun x=>[.lst true 1 (Es (fun x=>[.lst true 3 (Es (XTripleint64.cells true) x)]) x)]) _ (fun _=>rfl), Q8 _ (fun x=>[.lst true 3 (Es (XTripleint64.cells true) x)]) _ (fun _=>rfl), XTripleint64.cells, Q8 _ Q9 _ (fun _=>rfl)]) : Wk F st st' := Wk.r1 (idQ m) h
@[simp] abbrev Y1h (a b:Cat) (c:List (AV)):List (AV):=iV a.n::.own 6 0 a.fr.length::.own 7 0 a.to.length::.own 8 0 a.id.length::.own 9 0 a.cs.length::iV b.n::.own 10 0 b.fr.length::.own 11 0 b.to.length::.own 12 0 b.id.length::.own 13 0 b.cs.length::c
@[simp] abbrev Y3 (a b:Prf) (c d:Cat) (e:List (List Int) × List (List (List (List Int))) × List (List (List Int))) (f:List (List (List Int)) × Int) (g:List (Nat × Ent)):List (Nat × Ent):=(0,.mix 13 [(Prf.cells true a)])::(1,.mix 13 [(Prf.cells true b)])::(2,.mix 15 [(Y1i [nS,nS,nS])])::(3,.mix 5 [(Cat.cells true a.s)])::(4,.mix 5 [(Cat.cells true b.t)])::(5,.mix 15 [(Y1h c d [.own 14 0 e.1.length,.own 15 0 f.1.length,.own 16 0 0,.own 17 0 e.2.1.length,.own 18 0 e.2.2.length])])::(6,rI c.fr)::(7,rI c.to)::(8,rI c.id)::(9,.row 1 (Ls c.cs))::(10,rI d.fr)::(11,rI d.to)::(12,rI d.id)::(13,.row 1 (Ls d.cs))::(14,.row 1 (Ls e.1))::(15,.row 1 (Es eL f.1))::(16,.mix 1 [])::(17,.row 1 (Es (fun x=>[.lst true 1 (Es eL x)]) e.2.1))::(18,.row 1 (Es eL e.2.2))::g
@[simp] abbrev Y1q (a:Cat) (b:List (AV)):List (AV):=iV a.n::.own 9 0 a.fr.length::.own 10 0 a.to.length::.own 11 0 a.id.length::.own 12 0 a.cs.length::b
@[simp] abbrev Y5 (a b:Prf) (c d:Cat) (e:List (List Int) × List (List (List (List Int))) × List (List (List Int))) (f:List (List (List Int))) (g:List (List (List Int)) × Int) (h:List (Nat × Ent)):List (Nat × Ent):=(0,.mix 13 [(Prf.cells true a)])::(1,.mix 15 [(Y1i [nS,nS,nS])])::(2,.mix 5 [(Cat.cells true b.s)])::(3,.mix 5 [(Cat.cells true a.t)])::(4,.mix 15 [(Y1k c (Y1q d [.own 13 0 e.1.length,.own 14 0 f.length,.own 15 0 g.1.length,.own 16 0 e.2.1.length,.own 17 0 e.2.2.length]))])::(5,rI c.fr)::(6,rI c.to)::(7,rI c.id)::(8,.row 1 (Ls c.cs))::(9,rI d.fr)::(10,rI d.to)::(11,rI d.id)::(12,.row 1 (Ls d.cs))::(13,.row 1 (Ls e.1))::(14,.row 1 (Es eL f))::(15,.row 1 (Es eL g.1))::(16,.row 1 (Es (fun x=>[.lst true 1 (Es eL x)]) e.2.1))::(17,.row 1 (Es eL e.2.2))::h
@[simp] abbrev Y6 (a b:Prf) (c d:Cat) (e:List (List Int) × List (List (List (List Int))) × List (List (List Int)) × Int) (f:List (Nat × Ent)):List (Nat × Ent):=(0,.mix 13 [(Prf.cells true a)])::(1,.mix 13 [(Prf.cells true b)])::(2,.mix 15 [(Y1i [nS,nS,nS])])::(3,.mix 5 [(Cat.cells true a.s)])::(4,.mix 5 [(Cat.cells true b.t)])::(5,.mix 15 [(Y1h c d (.own 14 0 e.1.length::Y1x [.own 17 0 e.2.1.length,.own 18 0 e.2.2.1.length]))])::(6,rI c.fr)::(7,rI c.to)::(8,rI c.id)::(9,.row 1 (Ls c.cs))::(10,rI d.fr)::(11,rI d.to)::(12,rI d.id)::(13,.row 1 (Ls d.cs))::(14,.row 1 (Ls e.1))::(15,.mix 1 [])::(16,.mix 1 [])::(17,.row 1 (Es (fun x=>[.lst true 1 (Es eL x)]) e.2.1))::(18,.row 1 (Es eL e.2.2.1))::f
@[simp] abbrev Yj (a:List (Nat × AV)):List (Nat × AV):=(2,.adr 0 0 0)::(3,.adr 1 0 0)::(4,.adr 2 0 0)::(6,.adr 3 0 0)::(7,.adr 4 0 0)::(8,.adr 5 0 0)::a
@[simp] abbrev YC (a b:Prf) (c:List (Nat × Ent)):List (Nat × Ent):=(2,.mix 15 [(Y1i [nS,nS,nS])])::(3,.mix 5 [(Cat.cells true a.s)])::(4,.mix 5 [(Cat.cells true b.t)])::c
@[simp] abbrev YG (a b:Prf) (c d:Cat) (e:List (List Int) × List (List (List (List Int))) × List (List (List Int))) (f:List (List (List Int))) (g:List (Nat × Ent)):List (Nat × Ent):=(0,.mix 13 [(Prf.cells true a)])::(1,.mix 15 [(Y1i [nS,nS,nS])])::(2,.mix 5 [(Cat.cells true b.s)])::(3,.mix 5 [(Cat.cells true a.t)])::(4,.mix 15 [(Y1k c (Y1q d [.own 13 0 e.1.length,.own 14 0 f.length,.own 15 0 0,.own 16 0 e.2.1.length,.own 17 0 e.2.2.length]))])::(5,rI c.fr)::(6,rI c.to)::(7,rI c.id)::(8,.row 1 (Ls c.cs))::(9,rI d.fr)::(10,rI d.to)::(11,rI d.id)::(12,.row 1 (Ls d.cs))::(13,.row 1 (Ls e.1))::(14,.row 1 (Es eL f))::g
@[simp] abbrev YH (a:List (Nat × AV)):List (Nat × AV):=(3,.adr 0 0 0)::(4,.adr 1 0 0)::(6,.adr 2 0 0)::(7,.adr 3 0 0)::(8,.adr 4 0 0)::a
@[simp] abbrev YJ (a b:Cat) (c:List (Nat × Ent)):List (Nat × Ent):=(6,rI a.fr)::(7,rI a.to)::(8,rI a.id)::(9,.row 1 (Ls a.cs))::(10,rI b.fr)::(11,rI b.to)::(12,rI b.id)::(13,.row 1 (Ls b.cs))::c
@[simp] abbrev YY (a:Prf) (b:List (Nat × Ent)):List (Nat × Ent):=(0,.mix 13 [(Prf.cells true a)])::b
@[simp] abbrev YZ (a b:Cat) (c:List (List Int) × List (List (List (List Int))) × List (List (List Int))) (d:List (Nat × Ent)):List (Nat × Ent):=(5,.mix 15 [(Y1h a b (.own 14 0 c.1.length::Y1x [.own 17 0 c.2.1.length,.own 18 0 c.2.2.length]))])::d
@[simp] abbrev Y0v (a b:Cat) (c:List (Nat × Ent)):List (Nat × Ent):=(5,.mix 15 [(Y1h a b (.own 14 0 0::Y1x [nS,nS]))])::c
@[simp] abbrev Y0x (a:List Int × List (List (List Int)) × List (List Int) × Int) (b:List (Nat × AV)):List (Nat × AV):=(10,.own 19 0 a.1.length)::(11,.own 20 0 a.2.1.length)::(12,.own 21 0 a.2.2.1.length)::(13,iV a.2.2.2)::b
@[simp] abbrev Y0T (a:List (List (List Int)) × Int) (b:List (List Int) × Int) (c:List (Nat × AV)):List (Nat × AV):=(16,iV a.2)::(17,.own 19 0 b.1.length)::(18,iV b.2)::c
@[simp] abbrev Y0U (a:List (List (List Int)) × Int) (b:List (List Int) × Int) (c:List (Nat × AV)):List (Nat × AV):=(22,iV a.2)::(23,.own 18 0 b.1.length)::(24,iV b.2)::c
@[simp] abbrev Y0X (a:List (List Int) × List (List (List (List Int))) × List (List (List Int))) (b:List (Nat × Ent)):List (Nat × Ent):=(17,.row 1 (Es (fun x=>[.lst true 1 (Es eL x)]) a.2.1))::(18,.row 1 (Es eL a.2.2))::b
@[simp] abbrev Y0Y (a:List (List Int) × List (List (List (List Int))) × List (List (List Int))) (b:List (Nat × Ent)):List (Nat × Ent):=(16,.row 1 (Es (fun x=>[.lst true 1 (Es eL x)]) a.2.1))::(17,.row 1 (Es eL a.2.2))::b
@[simp] abbrev Y12 (a:List (Nat × Ent)):List (Nat × Ent):=(0,.mix 15 [(Y1i [nS,nS,nS])])::a
@[simp] abbrev Y1b (a:List Int × List (List (List Int)) × List (List Int) × Int) (b:List (Nat × Ent)):List (Nat × Ent):=(19,rI a.1)::(20,.row 1 (Es eL a.2.1))::(21,.row 1 (Ls a.2.2.1))::b
theorem Q9j (p_:Prf) (q_:Prf) (r:XL32Composite × Bool) (h:Q3v p_ q_=some r):Contract Tryz.prog 19 [.agg (p_.cells true),.agg (q_.cells true)] (.tup [.agg (r.1.cells true),.val (.bool r.2)]):=by
 refine Qc (rvs:=[.cell 4 48,.tmp 5]) (rs:=[.agg (r.1.cells true),.val (.bool r.2)]) Tryz.func19 rfl rfl rfl rfl (by simp [Tryz.f19]) fun F hN hP=>?_;unfold Q3v at h;refine Q3 (runQ hN fun K hK=>?_);simp;repeat refine sdQ ?_
 refine hK _ ?_;clear hK K;refine tn (Q7 (st':=⟨Y0u [],Ym p_ q_ [(2,.mix 15 [(Y1i [nS,nS,nS])])],3⟩) (Q1O 3) (Q3 (w_runS mo (by rw [hN];decide) fun K hK=>?_)));simp;repeat refine sdQ ?_
 refine hK _ ?_;clear hK K;refine tn (Q7 (st':=⟨Y0u [(6,.adr 3 0 0),(7,.adr 4 0 0)],Ym p_ q_ (YC p_ q_ []),5⟩) (Q1O 5) (Q3 (runQ hN fun K hK=>?_)));simp;repeat with_reducible refine sdQ ?_
 replace ⟨v1,hv1,h⟩:=bind_some h;refine Q6 (Q3i _ v1 hv1) (.cons (.aggL (.cons .val (.cons .lst (.cons .lst (.cons .lst (.cons .lst .nil)))))) .nil) ?_;simp;repeat with_reducible refine sdQ ?_
 replace ⟨v2,hv2,h⟩:=bind_some h;refine Q6 (Q3i _ v2 hv2) (.cons (.aggL (.cons .val (.cons .lst (.cons .lst (.cons .lst (.cons .lst .nil)))))) .nil) ?_;simp;repeat refine sdQ ?_
 refine hK _ ?_;clear hK K;refine tn (Q7 (st':=⟨Yj [],Ym p_ q_ (YC p_ q_ (Y0v v1 v2 (YJ v1 v2 ((14,.mix 1 [])::Y0C [])))),17⟩) (Q1m [(0,0),(1,1),(2,2),(3,3),(4,4),(18,5),(6,6),(7,7),(8,8),(9,9),(11,10),(12,11),(13,12),(14,13),(15,14),(16,15),(17,16)]) (Q3 (Q3 (runQ hN fun K hK=>?_))));simp;repeat refine sdQ ?_
 refine hK _ (tn (Q7 (st':=⟨Yj [(9,iV 0)],Ym p_ q_ (YC p_ q_ (Y0v v1 v2 (YJ v1 v2 ((14,.mix 1 [])::Y0C [])))),17⟩) (Q1O 17) ?_));clear hK K;replace ⟨e3,h,h3⟩:=bind_some h;refine Qg (fun b3:List (List Int) × List (List (List (List Int))) × List (List (List Int))=>⟨Yj [],Ym p_ q_ (YC p_ q_ (YZ v1 v2 b3 (YJ v1 v2 ((14,.row 1 (Ls b3.1))::Y0C (Y0X b3 []))))),19⟩) (fun b3=>Sum.inl b3=e3) ?_ ?_
 ·refine Qa (Qn h (fun s33:List (List Int) × List (List (List (List Int))) × List (List (List Int)) × Int=>⟨Yj [(9,iV s33.2.2.2)],Y6 p_ q_ v1 v2 s33 [],19⟩) (Q1J ⟨Yj [(9,iV 0)],Ym p_ q_ (YC p_ q_ ((5,.mix 15 [(Y1h v1 v2 (.own 14 0 0::Y1x [.own 17 0 0,.own 18 0 0]))])::YJ v1 v2 ((14,.row 1 (Ls []))::Y0C [(17,.row 1 (Es (fun x=>[.lst true 1 (Es eL x)]) [])),(18,.row 1 (Es eL []))]))),19⟩ (Wk.nils [(17,1),(18,1)] (by simp) (by simp) (by simp [nlA]) (by simp [entN,nlL,nlA,Cat.cells,Prf.cells,XL32Composite.cells,UA,U1,IA,I1,LA,L1,BA,B1,EA,E1,E2,eB,eI,eL,Q8 _ Qs _ (fun _=>rfl),Q8 _ (fun x=>[.lst true 1 (Es eL x)]) _ (fun _=>rfl)]) (by simp)) (Q1O 19)) ?_);clear h;intro k33 s33 c33 h hk33;refine Q3 (Q3 (runQ hN fun K hK=>?_));simp;repeat refine sdQ ?_
  refine hK _ ?_;clear hK K;refine tn (Qd rfl (fun g=>?_) fun g=>?_)
  ·have g34:s33.2.2.2<p_.s.n:=gQ;clear g;replace h:=if_l g34 h;refine Qe (tn (Q3 (Qa (Q3 (runQ hN fun K hK=>?_)))));simp;(repeat refine sdQ ?_);refine hK _ ?_;clear hK K;refine tn (Q7 (st':=⟨Yj [(9,iV s33.2.2.2),(10,.own 19 0 0),(11,.own 20 0 0),(12,.own 21 0 0)],Y6 p_ q_ v1 v2 s33 [(19,.mix 1 []),(20,.mix 1 []),(21,.mix 1 [])],22⟩) (Q1O 22) (Q3 (Q3 (runQ hN fun K hK=>?_))));simp;(repeat refine sdQ ?_);refine hK _ (tn (Q7 (st':=⟨Yj [(9,iV s33.2.2.2),(10,.own 19 0 0),(11,.own 20 0 0),(12,.own 21 0 0),(13,iV 0)],Y6 p_ q_ v1 v2 s33 [(19,.mix 1 []),(20,.mix 1 []),(21,.mix 1 [])],22⟩) (Q1O 22) ?_));clear hK K;replace ⟨e35,h,h35⟩:=bind_some h
   refine Qg (fun b35:List Int × List (List (List Int)) × List (List Int)=>⟨Yj [(9,iV s33.2.2.2),(10,.own 19 0 b35.1.length),(11,.own 20 0 b35.2.1.length),(12,.own 21 0 b35.2.2.length)],Y6 p_ q_ v1 v2 s33 [(19,rI b35.1),(20,.row 1 (Es eL b35.2.1)),(21,.row 1 (Ls b35.2.2))],22⟩) (fun b35=>Sum.inl b35=e35) ?_ ?_
   ·refine Qa (Qn h (fun s47:List Int × List (List (List Int)) × List (List Int) × Int=>⟨Yj ((9,iV s33.2.2.2)::Y0x s47 []),Y6 p_ q_ v1 v2 s33 (Y1b s47 []),22⟩) (Q1J ⟨Yj [(9,iV s33.2.2.2),(10,.own 19 0 0),(11,.own 20 0 0),(12,.own 21 0 0),(13,iV 0)],Y6 p_ q_ v1 v2 s33 [(19,rI []),(20,.row 1 (Es eL [])),(21,.row 1 (Ls []))],22⟩ (Wk.nils [] (by simp) (by simp) (by simp [nlA]) (by simp [entN,nlL,nlA,Cat.cells,Prf.cells,XL32Composite.cells,UA,U1,IA,I1,LA,L1,BA,B1,EA,E1,E2,eB,eI,eL,Q8 _ Qs _ (fun _=>rfl),Q8 _ (fun x=>[.lst true 1 (Es eL x)]) _ (fun _=>rfl)]) (by simp)) (Q1O 22)) ?_);clear h;intro k47 s47 c47 h hk47;refine Q3 (Q3 (runQ hN fun K hK=>?_));simp;(repeat refine sdQ ?_);refine hK _ ?_;clear hK K;refine tn (Qd rfl (fun g=>?_) fun g=>?_)
    ·have g48:s47.2.2.2<q_.t.n:=gQ;clear g;replace h:=if_l g48 h;refine Qe (tn (Q3 (Qa (Q3 (runQ hN fun K hK=>?_)))));simp;(repeat with_reducible refine sdQ ?_);replace ⟨v49,hv49,h⟩:=bind_some h;refine Q6 (Q6M _ _ _ _ v49 hv49) (.cons (.aggL (.cons .val (.cons .lst (.cons .lst (.cons .lst (.cons .lst (.cons .val (.cons .lst (.cons .lst (.cons .lst (.cons .lst (.cons .lst (.cons .lst (.cons .lst .nil)))))))))))))) (.cons (.aggL (.cons .val (.cons .lst (.cons .lst (.cons .lst (.cons .lst (.cons .val (.cons .lst (.cons .lst (.cons .lst (.cons .lst (.cons .lst (.cons .lst (.cons .lst .nil)))))))))))))) (.cons .val (.cons .val .nil)))) ?_;simp;(repeat refine sdQ ?_);refine hK _ ?_;clear hK K;refine tn (Q7 (st':=⟨Yj ((9,iV s33.2.2.2)::Y0x s47 [(14,.own 22 0 v49.length)]),Y6 p_ q_ v1 v2 s33 (Y1b s47 [(22,.row 1 (Ls v49))]),23⟩) (Q1O 23) (Q3 (Q3 (runQ hN fun K hK=>?_))));simp;(repeat refine sdQ ?_);refine hK _ ?_;clear hK K;refine tn (Qd rfl (fun g=>?_) fun g=>?_)
     ·have g50:(v49.length:Int) > 256:=gQ;clear g;replace h:=if_l g50 h;refine Q3 (runQ hN fun K hK=>?_);simp;(repeat refine sdQ ?_);refine hK _ (tn (Q7 (st':=⟨[(4,.adr 0 0 0),(5,.val (.bool false))],Y12 [],1⟩) (Q1m [(2,0)]) (Qo (tr (br (tr (lr (br (tr (br (tr (lr (br (tr ?_))))))))))))));clear hK K;cases h;have q:_=e35:=hk47;have h:=h35;rw [← q] at h;clear q;(try dsimp only at h);cases h;have q:_=e3:=hk33;have h:=h3;rw [← q] at h;clear q;(try dsimp only at h);have hr:=Option.some.inj h;rw [← hr];refine ⟨_,(.cell tf_48 rfl rfl rfl (by simp) (by simp) (.tmp .nil)),?_⟩;refine ⟨(.agg rfl (.one rfl rfl .nil)),[iV 0,nS,nS,nS,nS,iV 0,nS,nS,nS,nS,nS,nS,nS,nS,nS,.val (.bool false)],[],by simp [Cat.cells,Prf.cells,XL32Composite.cells,UA,U1,IA,I1,LA,L1,BA,B1,EA,E1,E2,eB,eI,eL,Q8 _ Qs _ (fun _=>rfl),Q8 _ (fun x=>[.lst true 1 (Es eL x)]) _ (fun _=>rfl)],by simp,(.cons .refl (.cons .nil (.cons .nil (.cons .nil (.cons .nil (.cons .refl (.cons .nil (.cons .nil (.cons .nil (.cons .nil (.cons .nil (.cons .nil (.cons .nil (.cons .nil (.cons .nil (.cons .refl .nil))))))))))))))))⟩
     have g50:¬ ((v49.length:Int) > 256):=gQ;clear g;replace h:=if_r g50 h;refine Qe (tn (Q3 (runQ hN fun K hK=>?_)));simp;(repeat with_reducible refine sdQ ?_);replace ⟨v51,hv51,h⟩:=bind_some h;refine Q6 (Q6L _ _ _ _ _ v51 hv51) (.cons (.aggL (.cons .val (.cons .lst (.cons .lst (.cons .lst (.cons .lst (.cons .val (.cons .lst (.cons .lst (.cons .lst (.cons .lst (.cons .lst (.cons .lst (.cons .lst .nil)))))))))))))) (.cons (.aggL (.cons .val (.cons .lst (.cons .lst (.cons .lst (.cons .lst (.cons .val (.cons .lst (.cons .lst (.cons .lst (.cons .lst (.cons .lst (.cons .lst (.cons .lst .nil)))))))))))))) (.cons .val (.cons .val (.cons .w .nil))))) ?_;simp;(repeat refine sdQ ?_);refine hK _ ?_;clear hK K;refine tn (Q7 (st':=⟨Yj ((9,iV s33.2.2.2)::Y0x s47 [(14,.own 22 0 v49.length),(15,.own 23 0 v51.length)]),Y6 p_ q_ v1 v2 s33 (Y1b s47 [(22,.row 1 (Ls v49)),(23,rI v51)]),24⟩) (Q1O 24) (Q3 (Q3 (runQ hN fun K hK=>?_))));simp;(repeat with_reducible refine sdQ ?_);replace ⟨v52,hv52,h⟩:=bind_some h;refine Q6 (Q7b _ v52 hv52) (.cons .w .nil) ?_;simp;(repeat refine sdQ ?_);refine hK _ (tn ?_);clear hK K
     refine Q7 (st':=⟨Yj ((9,iV s33.2.2.2)::Y0x s47 [(14,.own 22 0 v49.length),(15,.own 23 0 v51.length),(73,.val (.bool (decide (v52 > 64))))]),Y6 p_ q_ v1 v2 s33 (Y1b s47 [(22,.row 1 (Ls v49)),(23,rI v51)]),24⟩) (Q1O 24) (Qd rfl (fun g=>?_) fun g=>?_)
     ·have g53:v52 > 64:=gQ;clear g;replace h:=if_l g53 h;refine Q3 (runQ hN fun K hK=>?_);simp;(repeat refine sdQ ?_);refine hK _ (tn (Q7 (st':=⟨[(4,.adr 0 0 0),(5,.val (.bool false))],Y12 [],1⟩) (Q1m [(2,0)]) (Qo (tr (br (tr (lr (br (tr (br (tr (lr (br (tr ?_))))))))))))));clear hK K;cases h;have q:_=e35:=hk47;have h:=h35;rw [← q] at h;clear q;(try dsimp only at h);cases h;have q:_=e3:=hk33;have h:=h3;rw [← q] at h;clear q;(try dsimp only at h);have hr:=Option.some.inj h;rw [← hr];refine ⟨_,(.cell tf_48 rfl rfl rfl (by simp) (by simp) (.tmp .nil)),?_⟩;refine ⟨(.agg rfl (.one rfl rfl .nil)),[iV 0,nS,nS,nS,nS,iV 0,nS,nS,nS,nS,nS,nS,nS,nS,nS,.val (.bool false)],[],by simp [Cat.cells,Prf.cells,XL32Composite.cells,UA,U1,IA,I1,LA,L1,BA,B1,EA,E1,E2,eB,eI,eL,Q8 _ Qs _ (fun _=>rfl),Q8 _ (fun x=>[.lst true 1 (Es eL x)]) _ (fun _=>rfl)],by simp,(.cons .refl (.cons .nil (.cons .nil (.cons .nil (.cons .nil (.cons .refl (.cons .nil (.cons .nil (.cons .nil (.cons .nil (.cons .nil (.cons .nil (.cons .nil (.cons .nil (.cons .nil (.cons .refl .nil))))))))))))))))⟩
     have g53:¬ (v52 > 64):=gQ;clear g;replace h:=if_r g53 h;refine Qe (tn (Q3 (runQ hN fun K hK=>?_)));simp;(repeat with_reducible refine sdQ ?_);replace ⟨v54,hv54,h⟩:=bind_some h;refine Q6 (Q7b _ v54 hv54) (.cons .w .nil) ?_;replace ⟨a55,h⟩:=Q0 h;(try simp only [List.length_append,List.length_cons,List.length_nil] at a55);simp [a55];(repeat refine sdQ ?_);refine hK _ ?_;clear hK K;refine tn (Q7 (st':=⟨Yj [(9,iV s33.2.2.2),(10,.own 19 0 ((s47.1++[v54]).length)),(11,.own 20 0 s47.2.1.length),(12,.own 21 0 s47.2.2.1.length),(13,iV s47.2.2.2),(14,.own 22 0 v49.length),(15,.own 23 0 v51.length)],Y6 p_ q_ v1 v2 s33 [(19,rI (s47.1++[v54])),(20,.row 1 (Es eL s47.2.1)),(21,.row 1 (Ls s47.2.2.1)),(22,.row 1 (Ls v49)),(23,rI v51)],24⟩) (Q1m [(0,0),(1,1),(2,2),(3,3),(4,4),(5,5),(6,6),(7,7),(8,8),(9,9),(10,10),(11,11),(12,12),(13,13),(14,14),(15,15),(16,16),(17,17),(18,18),(26,19),(20,20),(21,21),(22,22),(23,23)]) (Q3 (runQ hN fun K hK=>?_)));replace ⟨a56,h⟩:=Q0 h;(try simp only [List.length_append,List.length_cons,List.length_nil] at a56);simp [a56];(repeat refine sdQ ?_);refine hK _ (tn ?_);clear hK K
     refine Q7 (st':=⟨Yj [(9,iV s33.2.2.2),(10,.own 19 0 ((s47.1++[v54]).length)),(11,.own 20 0 ((s47.2.1++[v49]).length)),(12,.own 21 0 s47.2.2.1.length),(13,iV s47.2.2.2),(15,.own 22 0 v51.length)],Y6 p_ q_ v1 v2 s33 [(19,rI (s47.1++[v54])),(20,.row 1 (Es eL (s47.2.1++[v49]))),(21,.row 1 (Ls s47.2.2.1)),(22,rI v51)],23⟩) (Q1m [(0,0),(1,1),(2,2),(3,3),(4,4),(5,5),(6,6),(7,7),(8,8),(9,9),(10,10),(11,11),(12,12),(13,13),(14,14),(15,15),(16,16),(17,17),(18,18),(19,19),(25,20),(21,21),(23,22)]) (runQ hN fun K hK=>?_);replace ⟨a57,h⟩:=Q0 h;(try simp only [List.length_append,List.length_cons,List.length_nil] at a57);simp [a57];(repeat refine sdQ ?_);refine hK _ ?_;clear hK K;refine bn (tn (Q7 (st':=⟨Yj [(9,iV s33.2.2.2),(10,.own 19 0 ((s47.1++[v54]).length)),(11,.own 20 0 ((s47.2.1++[v49]).length)),(12,.own 21 0 ((s47.2.2.1++[v51]).length)),(13,iV s47.2.2.2)],Y6 p_ q_ v1 v2 s33 [(19,rI (s47.1++[v54])),(20,.row 1 (Es eL (s47.2.1++[v49]))),(21,.row 1 (Ls (s47.2.2.1++[v51])))],22⟩) (Q1m [(0,0),(1,1),(2,2),(3,3),(4,4),(5,5),(6,6),(7,7),(8,8),(9,9),(10,10),(11,11),(12,12),(13,13),(14,14),(15,15),(16,16),(17,17),(18,18),(19,19),(20,20),(24,21)]) (runQ hN fun K hK=>?_)));replace ⟨a58,h⟩:=Q0 h;simp [Qh a58]
     (repeat refine sdQ ?_);refine hK _ ?_;clear hK K;cases h;exact rn (s':=(s47.1++[v54],s47.2.1++[v49],s47.2.2.1++[v51],s47.2.2.2+1)) hk47 (Q1O 22)
    have g48:¬ (s47.2.2.2<q_.t.n):=gQ;clear g;replace h:=if_r g48 h;refine Qm (tx (lx (bh ?_)));cases h;exact jn (b:=(s47.1,s47.2.1,s47.2.2.1)) hk47 (Q1O 22)
   intro b35 hb35;have h:=h35;(try rw [← hb35] at h);clear h35;(try dsimp only at h);refine Q3 (runQ hN fun K hK=>?_);replace ⟨a59,h⟩:=Q0 h;(try simp only [List.length_append,List.length_cons,List.length_nil] at a59);simp [a59];(repeat refine sdQ ?_);refine hK _ ?_;clear hK K;refine tn (Q7 (st':=⟨Yj [(9,iV s33.2.2.2),(11,.own 19 0 b35.2.1.length),(12,.own 20 0 b35.2.2.length)],Ym p_ q_ (YC p_ q_ ((5,.mix 15 [(Y1h v1 v2 (.own 14 0 ((s33.1++[b35.1]).length)::Y1x [.own 17 0 s33.2.1.length,.own 18 0 s33.2.2.1.length]))])::YJ v1 v2 ((14,.row 1 (Ls (s33.1++[b35.1])))::Y0C [(17,.row 1 (Es (fun x=>[.lst true 1 (Es eL x)]) s33.2.1)),(18,.row 1 (Es eL s33.2.2.1)),(19,.row 1 (Es eL b35.2.1)),(20,.row 1 (Ls b35.2.2))]))),21⟩) (Q1m [(0,0),(1,1),(2,2),(3,3),(4,4),(5,5),(6,6),(7,7),(8,8),(9,9),(10,10),(11,11),(12,12),(13,13),(23,14),(15,15),(16,16),(17,17),(18,18),(20,19),(21,20)]) (Q3 (runQ hN fun K hK=>?_)));replace ⟨a60,h⟩:=Q0 h;(try simp only [List.length_append,List.length_cons,List.length_nil] at a60);simp [a60];(repeat refine sdQ ?_);refine hK _ ?_;clear hK K;refine tn (Q7 (st':=⟨Yj [(9,iV s33.2.2.2),(12,.own 19 0 b35.2.2.length)],Ym p_ q_ (YC p_ q_ ((5,.mix 15 [(Y1h v1 v2 (.own 14 0 ((s33.1++[b35.1]).length)::Y1x [.own 17 0 ((s33.2.1++[b35.2.1]).length),.own 18 0 s33.2.2.1.length]))])::YJ v1 v2 ((14,.row 1 (Ls (s33.1++[b35.1])))::Y0C [(17,.row 1 (Es (fun x=>[.lst true 1 (Es eL x)]) (s33.2.1++[b35.2.1]))),(18,.row 1 (Es eL s33.2.2.1)),(19,.row 1 (Ls b35.2.2))]))),20⟩) (Q1m [(0,0),(1,1),(2,2),(3,3),(4,4),(5,5),(6,6),(7,7),(8,8),(9,9),(10,10),(11,11),(12,12),(13,13),(14,14),(15,15),(16,16),(22,17),(18,18),(20,19)]) (runQ hN fun K hK=>?_));replace h:=Q0 h
   obtain ⟨a61,h⟩:=h;(try simp only [List.length_append,List.length_cons,List.length_nil] at a61);simp [a61];(repeat refine sdQ ?_);refine hK _ ?_;clear hK K;refine bn (tn (Q7 (st':=⟨Yj [(9,iV s33.2.2.2)],Ym p_ q_ (YC p_ q_ ((5,.mix 15 [(Y1h v1 v2 (.own 14 0 ((s33.1++[b35.1]).length)::Y1x [.own 17 0 ((s33.2.1++[b35.2.1]).length),.own 18 0 ((s33.2.2.1++[b35.2.2]).length)]))])::YJ v1 v2 ((14,.row 1 (Ls (s33.1++[b35.1])))::Y0C [(17,.row 1 (Es (fun x=>[.lst true 1 (Es eL x)]) (s33.2.1++[b35.2.1]))),(18,.row 1 (Es eL (s33.2.2.1++[b35.2.2])))]))),19⟩) (Q1m [(0,0),(1,1),(2,2),(3,3),(4,4),(5,5),(6,6),(7,7),(8,8),(9,9),(10,10),(11,11),(12,12),(13,13),(14,14),(15,15),(16,16),(17,17),(21,18)]) (runQ hN fun K hK=>?_)));replace ⟨a62,h⟩:=Q0 h;simp [Qh a62];(repeat refine sdQ ?_);refine hK _ ?_;clear hK K;cases h;exact rn (s':=(s33.1++[b35.1],s33.2.1++[b35.2.1],s33.2.2.1++[b35.2.2],s33.2.2.2+1)) hk33 (Q1O 19)
  have g34:¬ (s33.2.2.2<p_.s.n):=gQ;clear g;replace h:=if_r g34 h;refine Qm (tx (lx (bh ?_)));cases h;exact jn (b:=(s33.1,s33.2.1,s33.2.2.1)) hk33 (Q1O 19)
 intro b3 hb3;have h:=h3;try rw [← hb3] at h
 clear h3;try dsimp only at h
 refine Q3 (Q3 (runQ hN fun K hK=>?_));simp;repeat refine sdQ ?_
 refine hK _ (tn (Q7 (st':=⟨Yj [(16,iV 0)],Ym p_ q_ (YC p_ q_ (YZ v1 v2 b3 (YJ v1 v2 ((14,.row 1 (Ls b3.1))::Y0C (Y0X b3 []))))),19⟩) (Q1O 19) ?_));clear hK K;replace ⟨e63,h,h63⟩:=bind_some h;refine Qg (fun b63:List (List (List Int))=>⟨YH [],YG q_ p_ v1 v2 b3 b63 ((15,.mix 1 [])::Y0Y b3 []),18⟩) (fun b63=>b63=e63) ?_ ?_
 ·refine Qa (Qn h (fun s179:List (List (List Int)) × Int=>⟨Yj [(16,iV s179.2)],Y3 p_ q_ v1 v2 b3 s179 [],19⟩) (Q1J ⟨Yj [(16,iV 0)],Ym p_ q_ (YC p_ q_ (YZ v1 v2 b3 (YJ v1 v2 ((14,.row 1 (Ls b3.1))::(15,.row 1 (Es eL []))::(16,.mix 1 [])::Y0X b3 [])))),19⟩ (Wk.nils [] (by simp) (by simp) (by simp [nlA]) (by simp [entN,nlL,nlA,Cat.cells,Prf.cells,XL32Composite.cells,UA,U1,IA,I1,LA,L1,BA,B1,EA,E1,E2,eB,eI,eL,Q8 _ Qs _ (fun _=>rfl),Q8 _ (fun x=>[.lst true 1 (Es eL x)]) _ (fun _=>rfl)]) (by simp)) (Q1O 19)) ?_);clear h;intro k179 s179 c179 h hk179;refine Q3 (Q3 (runQ hN fun K hK=>?_));simp;repeat refine sdQ ?_
  refine hK _ ?_;clear hK K;refine tn (Qd rfl (fun g=>?_) fun g=>?_)
  ·have g180:s179.2<(p_.s.fr.length:Int):=gQ;clear g;replace h:=if_l g180 h;refine Qe (tn (Q3 (Qa (Q3 (runQ hN fun K hK=>?_)))));simp;(repeat refine sdQ ?_);refine hK _ ?_;clear hK K;refine tn (Q7 (st':=⟨Yj [(16,iV s179.2),(17,.own 19 0 0)],Y3 p_ q_ v1 v2 b3 s179 [(19,.mix 1 [])],20⟩) (Q1O 20) (Q3 (Q3 (runQ hN fun K hK=>?_))));simp;(repeat refine sdQ ?_);refine hK _ (tn (Q7 (st':=⟨Yj [(16,iV s179.2),(17,.own 19 0 0),(18,iV 0)],Y3 p_ q_ v1 v2 b3 s179 [(19,.mix 1 [])],20⟩) (Q1O 20) ?_));clear hK K;replace ⟨e181,h,h181⟩:=bind_some h
   refine Qg (fun b181:List (List Int)=>⟨Yj [(16,iV s179.2),(17,.own 19 0 b181.length)],Y3 p_ q_ v1 v2 b3 s179 [(19,.row 1 (Ls b181))],20⟩) (fun b181=>b181=e181) ?_ ?_
   ·refine Qa (Qn h (fun s237:List (List Int) × Int=>⟨Yj (Y0T s179 s237 []),Y3 p_ q_ v1 v2 b3 s179 [(19,.row 1 (Ls s237.1))],20⟩) (Q1J ⟨Yj [(16,iV s179.2),(17,.own 19 0 0),(18,iV 0)],Y3 p_ q_ v1 v2 b3 s179 [(19,.row 1 (Ls []))],20⟩ (Wk.nils [] (by simp) (by simp) (by simp [nlA]) (by simp [entN,nlL,nlA,Cat.cells,Prf.cells,XL32Composite.cells,UA,U1,IA,I1,LA,L1,BA,B1,EA,E1,E2,eB,eI,eL,Q8 _ Qs _ (fun _=>rfl),Q8 _ (fun x=>[.lst true 1 (Es eL x)]) _ (fun _=>rfl)]) (by simp)) (Q1O 20)) ?_);clear h;intro k237 s237 c237 h hk237;refine Q3 (Q3 (runQ hN fun K hK=>?_));simp;(repeat refine sdQ ?_);refine hK _ ?_;clear hK K;refine tn (Qd rfl (fun g=>?_) fun g=>?_)
    ·have g238:s237.2<q_.t.n:=gQ;clear g;replace h:=if_l g238 h;refine Qe (tn (Q3 (Qa (Q3 (runQ hN fun K hK=>?_)))));replace ⟨a239,h⟩:=Q0 h;replace ⟨a240,h⟩:=Q0 h;replace ⟨a241,h⟩:=Q0 h;replace ⟨a242,h⟩:=Q0 h;simp [at_I a239,at_L a240,at_I a241];(repeat refine sdQ ?_);refine hK _ ?_;clear hK K;refine tn (Q7 (st':=⟨Yj (Y0T s179 s237 [(19,.own 20 0 ((List.replicate ((ix (rx b3.1 (ix p_.s.to s179.2)) s237.2).toNat) 0).length))]),Y3 p_ q_ v1 v2 b3 s179 [(19,.row 1 (Ls s237.1)),(20,rI (List.replicate ((ix (rx b3.1 (ix p_.s.to s179.2)) s237.2).toNat) 0))],21⟩) (Q1m [(0,0),(1,1),(2,2),(3,3),(4,4),(5,5),(6,6),(7,7),(8,8),(9,9),(10,10),(11,11),(12,12),(13,13),(14,14),(15,15),(16,16),(17,17),(18,18),(19,19),(22,20)]) (Q3 (Q3 (runQ hN fun K hK=>?_))));simp;(repeat refine sdQ ?_);refine hK _ (tn ?_);clear hK K
     refine Q7 (st':=⟨Yj (Y0T s179 s237 [(19,.own 20 0 ((List.replicate ((ix (rx b3.1 (ix p_.s.to s179.2)) s237.2).toNat) 0).length)),(20,iV 0)]),Y3 p_ q_ v1 v2 b3 s179 [(19,.row 1 (Ls s237.1)),(20,rI (List.replicate ((ix (rx b3.1 (ix p_.s.to s179.2)) s237.2).toNat) 0))],21⟩) (Q1O 21) ?_;replace ⟨e243,h,h243⟩:=bind_some h;refine Qg (fun b243:List Int=>⟨Yj (Y0T s179 s237 [(19,.own 20 0 b243.length)]),Y3 p_ q_ v1 v2 b3 s179 [(19,.row 1 (Ls s237.1)),(20,rI b243)],21⟩) (fun b243=>b243=e243) ?_ ?_
     ·refine Qa (Qn h (fun s267:List Int × Int=>⟨Yj (Y0T s179 s237 [(19,.own 20 0 s267.1.length),(20,iV s267.2)]),Y3 p_ q_ v1 v2 b3 s179 [(19,.row 1 (Ls s237.1)),(20,rI s267.1)],21⟩) (Q1O 21) ?_);clear h;intro k267 s267 c267 h hk267;refine Q3 (Q3 (runQ hN fun K hK=>?_));replace ⟨a268,h⟩:=Q0 h;replace ⟨a269,h⟩:=Q0 h;replace ⟨a270,h⟩:=Q0 h;simp [at_I a268,at_E (c:=(fun x=>[.lst true 1 (Es eL x)])) a269,at_E (c:=eL) a270];(repeat refine sdQ ?_);refine hK _ ?_;clear hK K;refine tn (Qd rfl (fun g=>?_) fun g=>?_)
      ·have g271:s267.2<((gx (gx b3.2.1 (ix p_.s.to s179.2)) s237.2).length:Int):=gQ;clear g;replace h:=if_l g271 h;refine Qe (tn (Q3 (Qa (Q3 (runQ hN fun K hK=>?_)))));replace ⟨a272,h⟩:=Q0 h;replace ⟨a273,h⟩:=Q0 h;replace ⟨a274,h⟩:=Q0 h;replace ⟨a275,h⟩:=Q0 h;simp [at_I a272,at_E (c:=(fun x=>[.lst true 1 (Es eL x)])) a273,at_E (c:=eL) a274,at_L a275];(repeat refine sdQ ?_);refine hK _ ?_;clear hK K;refine tn (Q7 (st':=⟨Yj (Y0T s179 s237 [(19,.own 20 0 s267.1.length),(20,iV s267.2),(21,.own 23 0 ((rx (gx (gx b3.2.1 (ix p_.s.to s179.2)) s237.2) s267.2).length))]),Y3 p_ q_ v1 v2 b3 s179 [(19,.row 1 (Ls s237.1)),(20,rI s267.1),(21,.ali 17 ((ix p_.s.to s179.2).toNat) 0 1),(22,.ali 21 s237.2.toNat 0 1),(23,.ali 22 s267.2.toNat 0 1)],24⟩) (Q1m [(0,0),(1,1),(2,2),(3,3),(4,4),(5,5),(6,6),(7,7),(8,8),(9,9),(10,10),(11,11),(12,12),(13,13),(14,14),(15,15),(16,16),(17,17),(18,18),(19,19),(20,20),(25,23),(24,22),(23,21)]) (runQ hN fun K hK=>?_));replace ⟨a276,h⟩:=Q0 h;replace ⟨a277,h⟩:=Q0 h;replace ⟨a278,h⟩:=Q0 h;replace ⟨a279,h⟩:=Q0 h;replace ⟨a280,h⟩:=Q0 h;replace ⟨a281,h⟩:=Q0 h;replace ⟨a282,h⟩:=Q0 h;replace ⟨a283,h⟩:=Q0 h;replace ⟨a284,h⟩:=Q0 h;replace ⟨a285,h⟩:=Q0 h;replace ⟨a286,h⟩:=Q0 h;replace ⟨a287,h⟩:=Q0 h
       simp [at_I a276,at_E (c:=eL) a277,at_L a278,at_I a279,at_I a280,at_E (c:=(fun x=>[.lst true 1 (Es eL x)])) a273,at_E (c:=eL) a274,at_L a275,(show (Is (rx (gx (gx b3.2.1 (ix p_.s.to s179.2)) s237.2) s267.2))[0]? = some [iV (ix (rx (gx (gx b3.2.1 (ix p_.s.to s179.2)) s237.2) s267.2) 0)] from at_I (j:=0) a281),at_E (c:=eL) a282,(show (Is (rx (gx (gx b3.2.1 (ix p_.s.to s179.2)) s237.2) s267.2))[0]? = some [iV (ix (rx (gx (gx b3.2.1 (ix p_.s.to s179.2)) s237.2) s267.2) 0)] from at_I (j:=0) a283),at_L a284,(show (Is (rx (gx (gx b3.2.1 (ix p_.s.to s179.2)) s237.2) s267.2))[1]? = some [iV (ix (rx (gx (gx b3.2.1 (ix p_.s.to s179.2)) s237.2) s267.2) 1)] from at_I (j:=1) a285),at_I a286,(show (Is (rx (gx (gx b3.2.1 (ix p_.s.to s179.2)) s237.2) s267.2))[2]? = some [iV (ix (rx (gx (gx b3.2.1 (ix p_.s.to s179.2)) s237.2) s267.2) 2)] from at_I (j:=2) a287)];(repeat with_reducible refine sdQ ?_);replace ⟨v288,hv288,h⟩:=bind_some h;refine Q6 (Q2k _ _ _ _ v288 hv288) (.cons (.aggL (.cons .val (.cons .w (.cons .w (.cons .w (.cons .w (.cons .val (.cons .w (.cons .w (.cons .w (.cons .w (.cons .w (.cons .w (.cons (.lits (es:=_) rfl .nil rfl) (.cons .w (.cons .w .nil)))))))))))))))) (.cons .val (.cons .val (.cons (.lits (es:=_) rfl (.cons rfl (.cons .val .nil) (.cons rfl (.cons .val .nil) (.cons rfl (.cons .val .nil) .nil))) rfl) .nil)))) ?_;replace ⟨a289,h⟩:=Q0 h;simp [at_I a276,at_E (c:=eL) a277,at_L a278,at_I a279,at_I a280,at_E (c:=(fun x=>[.lst true 1 (Es eL x)])) a273,at_E (c:=eL) a274,at_L a275,at_E (c:=eL) a282,at_L a284,at_I a286,at_I a289];(repeat refine sdQ ?_);refine hK _ (bn (tn ?_));clear hK K
       refine Q7 (st':=⟨Yj (Y0T s179 s237 [(19,.own 20 0 ((s267.1.set ((ix (rx (gx b3.2.2 (ix p_.s.to s179.2)) s237.2) s267.2).toNat) v288).length)),(20,iV s267.2)]),Y3 p_ q_ v1 v2 b3 s179 [(19,.row 1 (Ls s237.1)),(20,rI (s267.1.set ((ix (rx (gx b3.2.2 (ix p_.s.to s179.2)) s237.2) s267.2).toNat) v288))],21⟩) (Q1O 21) (runQ hN fun K hK=>?_);replace ⟨a290,h⟩:=Q0 h;simp [Qh a290];(repeat refine sdQ ?_);refine hK _ ?_;clear hK K;cases h;exact rn (s':=(s267.1.set ((ix (rx (gx b3.2.2 (ix p_.s.to s179.2)) s237.2) s267.2).toNat) v288,s267.2+1)) hk267 (Q1O 21)
      have g271:¬ (s267.2<((gx (gx b3.2.1 (ix p_.s.to s179.2)) s237.2).length:Int)):=gQ;clear g;replace h:=if_r g271 h;refine Qm (tx (lx (bh ?_)));cases h;exact jn (b:=s267.1) hk267 (Q1O 21)
     intro b243 hb243;have h:=h243;(try rw [← hb243] at h);clear h243;(try dsimp only at h);refine runQ hN fun K hK=>?_;replace ⟨a291,h⟩:=Q0 h;(try simp only [List.length_append,List.length_cons,List.length_nil] at a291);simp [a291];(repeat refine sdQ ?_);refine hK _ ?_;clear hK K;refine bn (tn (Q7 (st':=⟨Yj [(16,iV s179.2),(17,.own 19 0 ((s237.1++[b243]).length)),(18,iV s237.2)],Y3 p_ q_ v1 v2 b3 s179 [(19,.row 1 (Ls (s237.1++[b243])))],20⟩) (Q1m [(0,0),(1,1),(2,2),(3,3),(4,4),(5,5),(6,6),(7,7),(8,8),(9,9),(10,10),(11,11),(12,12),(13,13),(14,14),(15,15),(16,16),(17,17),(18,18),(22,19)]) (runQ hN fun K hK=>?_)));replace ⟨a292,h⟩:=Q0 h;simp [Qh a292];(repeat refine sdQ ?_);refine hK _ ?_;clear hK K;cases h;exact rn (s':=(s237.1++[b243],s237.2+1)) hk237 (Q1O 20)
    have g238:¬ (s237.2<q_.t.n):=gQ;clear g;replace h:=if_r g238 h;refine Qm (tx (lx (bh ?_)));cases h;exact jn (b:=s237.1) hk237 (Q1O 20)
   intro b181 hb181;have h:=h181;(try rw [← hb181] at h);clear h181;(try dsimp only at h);refine runQ hN fun K hK=>?_;replace ⟨a293,h⟩:=Q0 h;(try simp only [List.length_append,List.length_cons,List.length_nil] at a293);simp [a293];(repeat refine sdQ ?_);refine hK _ ?_;clear hK K;refine bn (tn (Q7 (st':=⟨Yj [(16,iV s179.2)],Ym p_ q_ (YC p_ q_ ((5,.mix 15 [(Y1h v1 v2 [.own 14 0 b3.1.length,.own 15 0 ((s179.1++[b181]).length),.own 16 0 0,.own 17 0 b3.2.1.length,.own 18 0 b3.2.2.length])])::YJ v1 v2 ((14,.row 1 (Ls b3.1))::(15,.row 1 (Es eL (s179.1++[b181])))::(16,.mix 1 [])::Y0X b3 []))),19⟩) (Q1m [(0,0),(1,1),(2,2),(3,3),(4,4),(5,5),(6,6),(7,7),(8,8),(9,9),(10,10),(11,11),(12,12),(13,13),(14,14),(21,15),(16,16),(17,17),(18,18)]) (runQ hN fun K hK=>?_)));replace ⟨a294,h⟩:=Q0 h;simp [Qh a294];(repeat refine sdQ ?_);refine hK _ ?_;clear hK K;cases h;exact rn (s':=(s179.1++[b181],s179.2+1)) hk179 (Q1O 19)
  have g180:¬ (s179.2<(p_.s.fr.length:Int)):=gQ;clear g;replace h:=if_r g180 h;refine Qm (tx (lx (bh ?_)));cases h;exact jn (b:=s179.1) hk179 (Q1m [(1,0),(2,1),(3,2),(4,3),(5,4),(6,5),(7,6),(8,7),(9,8),(10,9),(11,10),(12,11),(13,12),(14,13),(15,14),(16,15),(17,16),(18,17)])
 intro b63 hb63;have h:=h63;try rw [← hb63] at h
 clear h63;try dsimp only at h
 refine Q3 (Q3 (runQ hN fun K hK=>?_));simp;repeat refine sdQ ?_
 refine hK _ (tn (Q7 (st':=⟨YH [(22,iV 0)],YG q_ p_ v1 v2 b3 b63 ((15,.mix 1 [])::Y0Y b3 []),18⟩) (Q1O 18) ?_));clear hK K;replace ⟨e295,h,h295⟩:=bind_some h;refine Qg (fun b295:List (List (List Int))=>⟨[(4,.adr 0 0 0),(8,.adr 1 0 0)],Y12 ((1,.mix 15 [(Y1f v1 v2 [.own 10 0 b3.1.length,.own 11 0 b63.length,.own 12 0 b295.length,.own 13 0 b3.2.1.length,.own 14 0 b3.2.2.length])])::Y7 v1 v2 [(10,.row 1 (Ls b3.1)),(11,.row 1 (Es eL b63)),(12,.row 1 (Es eL b295)),(13,.row 1 (Es (fun x=>[.lst true 1 (Es eL x)]) b3.2.1)),(14,.row 1 (Es eL b3.2.2))]),15⟩) (fun b295=>b295=e295) ?_ ?_
 ·refine Qa (Qn h (fun s411:List (List (List Int)) × Int=>⟨YH [(22,iV s411.2)],Y5 q_ p_ v1 v2 b3 b63 s411 [],18⟩) (Q1J ⟨YH [(22,iV 0)],YG q_ p_ v1 v2 b3 b63 ((15,.row 1 (Es eL []))::Y0Y b3 []),18⟩ (Wk.nils [] (by simp) (by simp) (by simp [nlA]) (by simp [entN,nlL,nlA,Cat.cells,Prf.cells,XL32Composite.cells,UA,U1,IA,I1,LA,L1,BA,B1,EA,E1,E2,eB,eI,eL,Q8 _ Qs _ (fun _=>rfl),Q8 _ (fun x=>[.lst true 1 (Es eL x)]) _ (fun _=>rfl)]) (by simp)) (Q1O 18)) ?_);clear h;intro k411 s411 c411 h hk411;refine Q3 (Q3 (runQ hN fun K hK=>?_));simp;repeat refine sdQ ?_
  refine hK _ ?_;clear hK K;refine tn (Qd rfl (fun g=>?_) fun g=>?_)
  ·have g412:s411.2<(q_.t.fr.length:Int):=gQ;clear g;replace h:=if_l g412 h;refine Qe (tn (Q3 (Qa (Q3 (runQ hN fun K hK=>?_)))));simp;(repeat refine sdQ ?_);refine hK _ ?_;clear hK K;refine tn (Q7 (st':=⟨YH [(22,iV s411.2),(23,.own 18 0 0)],Y5 q_ p_ v1 v2 b3 b63 s411 [(18,.mix 1 [])],19⟩) (Q1O 19) (Q3 (Q3 (runQ hN fun K hK=>?_))));simp;(repeat refine sdQ ?_);refine hK _ (tn (Q7 (st':=⟨YH [(22,iV s411.2),(23,.own 18 0 0),(24,iV 0)],Y5 q_ p_ v1 v2 b3 b63 s411 [(18,.mix 1 [])],19⟩) (Q1O 19) ?_));clear hK K;replace ⟨e413,h,h413⟩:=bind_some h
   refine Qg (fun b413:List (List Int)=>⟨YH [(22,iV s411.2),(23,.own 18 0 b413.length)],Y5 q_ p_ v1 v2 b3 b63 s411 [(18,.row 1 (Ls b413))],19⟩) (fun b413=>b413=e413) ?_ ?_
   ·refine Qa (Qn h (fun s469:List (List Int) × Int=>⟨YH (Y0U s411 s469 []),Y5 q_ p_ v1 v2 b3 b63 s411 [(18,.row 1 (Ls s469.1))],19⟩) (Q1J ⟨YH [(22,iV s411.2),(23,.own 18 0 0),(24,iV 0)],Y5 q_ p_ v1 v2 b3 b63 s411 [(18,.row 1 (Ls []))],19⟩ (Wk.nils [] (by simp) (by simp) (by simp [nlA]) (by simp [entN,nlL,nlA,Cat.cells,Prf.cells,XL32Composite.cells,UA,U1,IA,I1,LA,L1,BA,B1,EA,E1,E2,eB,eI,eL,Q8 _ Qs _ (fun _=>rfl),Q8 _ (fun x=>[.lst true 1 (Es eL x)]) _ (fun _=>rfl)]) (by simp)) (Q1O 19)) ?_);clear h;intro k469 s469 c469 h hk469;refine Q3 (Q3 (runQ hN fun K hK=>?_));simp;(repeat refine sdQ ?_);refine hK _ ?_;clear hK K;refine tn (Qd rfl (fun g=>?_) fun g=>?_)
    ·have g470:s469.2<p_.s.n:=gQ;clear g;replace h:=if_l g470 h;refine Qe (tn (Q3 (Qa (Q3 (runQ hN fun K hK=>?_)))));replace ⟨a471,h⟩:=Q0 h;replace ⟨a472,h⟩:=Q0 h;replace ⟨a473,h⟩:=Q0 h;replace ⟨a474,h⟩:=Q0 h;simp [at_L a471,at_I a472,at_I a473];(repeat refine sdQ ?_);refine hK _ ?_;clear hK K;refine tn (Q7 (st':=⟨YH (Y0U s411 s469 [(25,.own 19 0 ((List.replicate ((ix (rx b3.1 s469.2) (ix q_.t.fr s411.2)).toNat) 0).length))]),Y5 q_ p_ v1 v2 b3 b63 s411 [(18,.row 1 (Ls s469.1)),(19,rI (List.replicate ((ix (rx b3.1 s469.2) (ix q_.t.fr s411.2)).toNat) 0))],20⟩) (Q1m [(0,0),(1,1),(2,2),(3,3),(4,4),(5,5),(6,6),(7,7),(8,8),(9,9),(10,10),(11,11),(12,12),(13,13),(14,14),(15,15),(16,16),(17,17),(18,18),(21,19)]) (Q3 (Q3 (runQ hN fun K hK=>?_))));simp;(repeat refine sdQ ?_);refine hK _ (tn ?_);clear hK K
     refine Q7 (st':=⟨YH (Y0U s411 s469 [(25,.own 19 0 ((List.replicate ((ix (rx b3.1 s469.2) (ix q_.t.fr s411.2)).toNat) 0).length)),(26,iV 0)]),Y5 q_ p_ v1 v2 b3 b63 s411 [(18,.row 1 (Ls s469.1)),(19,rI (List.replicate ((ix (rx b3.1 s469.2) (ix q_.t.fr s411.2)).toNat) 0))],20⟩) (Q1O 20) ?_;replace ⟨e475,h,h475⟩:=bind_some h;refine Qg (fun b475:List Int=>⟨YH (Y0U s411 s469 [(25,.own 19 0 b475.length)]),Y5 q_ p_ v1 v2 b3 b63 s411 [(18,.row 1 (Ls s469.1)),(19,rI b475)],20⟩) (fun b475=>b475=e475) ?_ ?_
     ·refine Qa (Qn h (fun s499:List Int × Int=>⟨YH (Y0U s411 s469 [(25,.own 19 0 s499.1.length),(26,iV s499.2)]),Y5 q_ p_ v1 v2 b3 b63 s411 [(18,.row 1 (Ls s469.1)),(19,rI s499.1)],20⟩) (Q1O 20) ?_);clear h;intro k499 s499 c499 h hk499;refine Q3 (Q3 (runQ hN fun K hK=>?_));replace ⟨a500,h⟩:=Q0 h;replace ⟨a501,h⟩:=Q0 h;replace ⟨a502,h⟩:=Q0 h;simp [at_E (c:=(fun x=>[.lst true 1 (Es eL x)])) a500,at_I a501,at_E (c:=eL) a502];(repeat refine sdQ ?_);refine hK _ ?_;clear hK K;refine tn (Qd rfl (fun g=>?_) fun g=>?_)
      ·have g503:s499.2<((gx (gx b3.2.1 s469.2) (ix q_.t.fr s411.2)).length:Int):=gQ;clear g;replace h:=if_l g503 h;refine Qe (tn (Q3 (Qa (Q3 (runQ hN fun K hK=>?_)))));replace ⟨a504,h⟩:=Q0 h;replace ⟨a505,h⟩:=Q0 h;replace ⟨a506,h⟩:=Q0 h;replace ⟨a507,h⟩:=Q0 h;simp [at_E (c:=(fun x=>[.lst true 1 (Es eL x)])) a504,at_I a505,at_E (c:=eL) a506,at_L a507];(repeat refine sdQ ?_);refine hK _ ?_;clear hK K;refine tn (Q7 (st':=⟨YH (Y0U s411 s469 [(25,.own 19 0 s499.1.length),(26,iV s499.2),(27,.own 22 0 ((rx (gx (gx b3.2.1 s469.2) (ix q_.t.fr s411.2)) s499.2).length))]),Y5 q_ p_ v1 v2 b3 b63 s411 [(18,.row 1 (Ls s469.1)),(19,rI s499.1),(20,.ali 16 s469.2.toNat 0 1),(21,.ali 20 ((ix q_.t.fr s411.2).toNat) 0 1),(22,.ali 21 s499.2.toNat 0 1)],23⟩) (Q1m [(0,0),(1,1),(2,2),(3,3),(4,4),(5,5),(6,6),(7,7),(8,8),(9,9),(10,10),(11,11),(12,12),(13,13),(14,14),(15,15),(16,16),(17,17),(18,18),(19,19),(24,22),(23,21),(22,20)]) (runQ hN fun K hK=>?_));replace ⟨a508,h⟩:=Q0 h;replace ⟨a509,h⟩:=Q0 h;replace ⟨a510,h⟩:=Q0 h;replace ⟨a511,h⟩:=Q0 h;replace ⟨a512,h⟩:=Q0 h;replace ⟨a513,h⟩:=Q0 h;replace ⟨a514,h⟩:=Q0 h;replace ⟨a515,h⟩:=Q0 h;replace ⟨a516,h⟩:=Q0 h;replace ⟨a517,h⟩:=Q0 h;replace ⟨a518,h⟩:=Q0 h;replace ⟨a519,h⟩:=Q0 h
       simp [at_E (c:=eL) a508,at_I a509,at_L a510,at_I a511,at_I a512,at_E (c:=(fun x=>[.lst true 1 (Es eL x)])) a504,at_E (c:=eL) a506,at_L a507,(show (Is (rx (gx (gx b3.2.1 s469.2) (ix q_.t.fr s411.2)) s499.2))[0]? = some [iV (ix (rx (gx (gx b3.2.1 s469.2) (ix q_.t.fr s411.2)) s499.2) 0)] from at_I (j:=0) a513),(show (Is (rx (gx (gx b3.2.1 s469.2) (ix q_.t.fr s411.2)) s499.2))[1]? = some [iV (ix (rx (gx (gx b3.2.1 s469.2) (ix q_.t.fr s411.2)) s499.2) 1)] from at_I (j:=1) a514),at_E (c:=eL) a515,(show (Is (rx (gx (gx b3.2.1 s469.2) (ix q_.t.fr s411.2)) s499.2))[0]? = some [iV (ix (rx (gx (gx b3.2.1 s469.2) (ix q_.t.fr s411.2)) s499.2) 0)] from at_I (j:=0) a516),at_L a517,(show (Is (rx (gx (gx b3.2.1 s469.2) (ix q_.t.fr s411.2)) s499.2))[2]? = some [iV (ix (rx (gx (gx b3.2.1 s469.2) (ix q_.t.fr s411.2)) s499.2) 2)] from at_I (j:=2) a518),at_I a519];(repeat with_reducible refine sdQ ?_);replace ⟨v520,hv520,h⟩:=bind_some h;refine Q6 (Q2k _ _ _ _ v520 hv520) (.cons (.aggL (.cons .val (.cons .w (.cons .w (.cons .w (.cons .w (.cons .val (.cons .w (.cons .w (.cons .w (.cons .w (.cons .w (.cons .w (.cons .w (.cons .w (.cons .w .nil)))))))))))))))) (.cons .val (.cons .val (.cons (.lits (es:=_) rfl (.cons rfl (.cons .val .nil) (.cons rfl (.cons .val .nil) (.cons rfl (.cons .val .nil) .nil))) rfl) .nil)))) ?_;replace ⟨a521,h⟩:=Q0 h;simp [at_E (c:=eL) a508,at_I a509,at_L a510,at_I a511,at_I a512,at_E (c:=(fun x=>[.lst true 1 (Es eL x)])) a504,at_E (c:=eL) a506,at_L a507,at_E (c:=eL) a515,at_L a517,at_I a519,at_I a521];(repeat refine sdQ ?_);refine hK _ (bn (tn ?_));clear hK K
       refine Q7 (st':=⟨YH (Y0U s411 s469 [(25,.own 19 0 ((s499.1.set ((ix (rx (gx b3.2.2 s469.2) (ix q_.t.fr s411.2)) s499.2).toNat) v520).length)),(26,iV s499.2)]),Y5 q_ p_ v1 v2 b3 b63 s411 [(18,.row 1 (Ls s469.1)),(19,rI (s499.1.set ((ix (rx (gx b3.2.2 s469.2) (ix q_.t.fr s411.2)) s499.2).toNat) v520))],20⟩) (Q1O 20) (runQ hN fun K hK=>?_);replace ⟨a522,h⟩:=Q0 h;simp [Qh a522];(repeat refine sdQ ?_);refine hK _ ?_;clear hK K;cases h;exact rn (s':=(s499.1.set ((ix (rx (gx b3.2.2 s469.2) (ix q_.t.fr s411.2)) s499.2).toNat) v520,s499.2+1)) hk499 (Q1O 20)
      have g503:¬ (s499.2<((gx (gx b3.2.1 s469.2) (ix q_.t.fr s411.2)).length:Int)):=gQ;clear g;replace h:=if_r g503 h;refine Qm (tx (lx (bh ?_)));cases h;exact jn (b:=s499.1) hk499 (Q1O 20)
     intro b475 hb475;have h:=h475;(try rw [← hb475] at h);clear h475;(try dsimp only at h);refine runQ hN fun K hK=>?_;replace ⟨a523,h⟩:=Q0 h;(try simp only [List.length_append,List.length_cons,List.length_nil] at a523);simp [a523];(repeat refine sdQ ?_);refine hK _ ?_;clear hK K;refine bn (tn (Q7 (st':=⟨YH [(22,iV s411.2),(23,.own 18 0 ((s469.1++[b475]).length)),(24,iV s469.2)],Y5 q_ p_ v1 v2 b3 b63 s411 [(18,.row 1 (Ls (s469.1++[b475])))],19⟩) (Q1m [(0,0),(1,1),(2,2),(3,3),(4,4),(5,5),(6,6),(7,7),(8,8),(9,9),(10,10),(11,11),(12,12),(13,13),(14,14),(15,15),(16,16),(17,17),(21,18)]) (runQ hN fun K hK=>?_)));replace ⟨a524,h⟩:=Q0 h;simp [Qh a524];(repeat refine sdQ ?_);refine hK _ ?_;clear hK K;cases h;exact rn (s':=(s469.1++[b475],s469.2+1)) hk469 (Q1O 19)
    have g470:¬ (s469.2<p_.s.n):=gQ;clear g;replace h:=if_r g470 h;refine Qm (tx (lx (bh ?_)));cases h;exact jn (b:=s469.1) hk469 (Q1O 19)
   intro b413 hb413;have h:=h413;(try rw [← hb413] at h);clear h413;(try dsimp only at h);refine runQ hN fun K hK=>?_;replace ⟨a525,h⟩:=Q0 h;(try simp only [List.length_append,List.length_cons,List.length_nil] at a525);simp [a525];(repeat refine sdQ ?_);refine hK _ ?_;clear hK K;refine bn (tn (Q7 (st':=⟨YH [(22,iV s411.2)],YY q_ ((1,.mix 15 [(Y1i [nS,nS,nS])])::(2,.mix 5 [(Cat.cells true p_.s)])::(3,.mix 5 [(Cat.cells true q_.t)])::(4,.mix 15 [(Y1k v1 (Y1q v2 [.own 13 0 b3.1.length,.own 14 0 b63.length,.own 15 0 ((s411.1++[b413]).length),.own 16 0 b3.2.1.length,.own 17 0 b3.2.2.length]))])::(5,rI v1.fr)::(6,rI v1.to)::(7,rI v1.id)::(8,.row 1 (Ls v1.cs))::(9,rI v2.fr)::(10,rI v2.to)::(11,rI v2.id)::(12,.row 1 (Ls v2.cs))::(13,.row 1 (Ls b3.1))::(14,.row 1 (Es eL b63))::(15,.row 1 (Es eL (s411.1++[b413])))::Y0Y b3 []),18⟩) (Q1m [(0,0),(1,1),(2,2),(3,3),(4,4),(5,5),(6,6),(7,7),(8,8),(9,9),(10,10),(11,11),(12,12),(13,13),(14,14),(20,15),(16,16),(17,17)]) (runQ hN fun K hK=>?_)));replace ⟨a526,h⟩:=Q0 h;simp [Qh a526];(repeat refine sdQ ?_);refine hK _ ?_;clear hK K;cases h;exact rn (s':=(s411.1++[b413],s411.2+1)) hk411 (Q1O 18)
  have g412:¬ (s411.2<(q_.t.fr.length:Int)):=gQ;clear g;replace h:=if_r g412 h;refine Qm (tx (lx (bh ?_)));cases h;exact jn (b:=s411.1) hk411 (Q1m [(1,0),(4,1),(5,2),(6,3),(7,4),(8,5),(9,6),(10,7),(11,8),(12,9),(13,10),(14,11),(15,12),(16,13),(17,14)])
 intro b295 hb295;have h:=h295;try rw [← hb295] at h
 clear h295;try dsimp only at h
 refine Q3 (runQ hN fun K hK=>?_);simp;repeat refine sdQ ?_
 refine hK _ (tn (Q7 (st':=⟨[(4,.adr 0 0 0),(5,.val (.bool true))],[(0,.mix 15 [(Y1u v1 (Y1k v2 [.own 9 0 b3.1.length,.own 10 0 b63.length,.own 11 0 b295.length,.own 12 0 b3.2.1.length,.own 13 0 b3.2.2.length]))]),(1,rI v1.fr),(2,rI v1.to),(3,rI v1.id),(4,.row 1 (Ls v1.cs)),(5,rI v2.fr),(6,rI v2.to),(7,rI v2.id),(8,.row 1 (Ls v2.cs)),(9,.row 1 (Ls b3.1)),(10,.row 1 (Es eL b63)),(11,.row 1 (Es eL b295)),(12,.row 1 (Es (fun x=>[.lst true 1 (Es eL x)]) b3.2.1)),(13,.row 1 (Es eL b3.2.2))],14⟩) (Q1m [(0,0),(2,1),(3,2),(4,3),(5,4),(6,5),(7,6),(8,7),(9,8),(10,9),(11,10),(12,11),(13,12),(14,13)]) (Qo ?_)));clear hK K;have hr:=Option.some.inj h;rw [← hr];refine ⟨_,(.cell tf_48 rfl rfl rfl (by simp) (by simp) (.tmp .nil)),?_⟩;refine ⟨(.agg rfl (.one rfl rfl .nil)),[iV v1.n,lI v1.fr,lI v1.to,lI v1.id,.lst true 1 (Ls v1.cs),iV v2.n,lI v2.fr,lI v2.to,lI v2.id,.lst true 1 (Ls v2.cs),.lst true 1 (Ls b3.1),.lst true 1 (Es eL b63),.lst true 1 (Es eL b295),.lst true 1 (Es (fun x=>[.lst true 1 (Es eL x)]) b3.2.1),.lst true 1 (Es eL b3.2.2),.val (.bool true)],[1,2,3,4,5,6,7,8,9,10,11,12,13],by simp [Cat.cells,Prf.cells,XL32Composite.cells,UA,U1,IA,I1,LA,L1,BA,B1,EA,E1,E2,eB,eI,eL,Q8 _ Qs _ (fun _=>rfl),Q8 _ (fun x=>[.lst true 1 (Es eL x)]) _ (fun _=>rfl)],by simp,(UpL.refl _)⟩
section
attribute [local simp] Ql Q11 QE Q1j QW
theorem e_top {L:List Int} {m:Int} (hl:L.length≤1000000) (hb:∀ i:Nat,i<L.length→0≤ix L i∧ix L i≤1000000):Q2V L=some (top L L.length):=by
 unfold Q2V;refine QY L.length (fun i=>top L i) (e:=top L L.length) rfl (by omega) (fun i hi=>?_) (by simp only;rw [if_neg (by omega)]) rfl;have:=hb i hi;have e:(if ix L i+1 > top L i then ix L i+1 else top L i)=top L (i+1):=by
  simp only [top];split<;>omega
 simp only;rw [if_pos (by omega),Q4 (by omega),Q4 (by unfold B64;omega),Q4 (by unfold B64;omega),e]
theorem e_parts {L:List Int} (hl:L.length≤1000000) (hb:∀ i:Nat,i<L.length→0≤ix L i∧ix L i≤1000000):QT L=some (top L L.length):=by
 have:=e_top (m:=0) hl hb;exact this
theorem cls_at {r:Nat→Nat} {n i:Nat} (h:i<n):ix (cls r n) i=(cn r (r i):Int):=Q3R n _ h
theorem Q42 (p q:Prf) (x z:Nat):(cmC p q x z).length=tN p q x z:=by simp [cmC,cls]
theorem PQ.rle {p q:Prf} (h:PQ p q) {x z:Nat} (hx:(x:Int)<p.s.n) (hz:(z:Int)<q.t.n) {i:Nat} (hi:i<tN p q x z):0≤ix (cmC p q x z) i∧ix (cmC p q x z) i≤i:=by
 have g:=RR_ok (h.prs hx hz (Nat.le_refl _)) i hi;unfold cmC;rw [cls_at hi];have:=cn_le (RR (tPS p q x z p.t.fr.length)) (RR (tPS p q x z p.t.fr.length) i);omega
noncomputable def cmT (p q:Prf) (x z:Nat):Int:=top (cmC p q x z) (tN p q x z)
theorem PQ.e_cmT {p q:Prf} (h:PQ p q) {x z:Nat} (hx:(x:Int)<p.s.n) (hz:(z:Int)<q.t.n) (hN:tN p q x z≤256):Q2V (cmC p q x z)=some (cmT p q x z)∧QT (cmC p q x z)=some (cmT p q x z):=by
 have l:=Q42 p q x z;have b:∀ i:Nat,i<(cmC p q x z).length→0≤ix (cmC p q x z) i∧ix (cmC p q x z) i≤1000000:=fun i hi=>by
  have:=h.rle hx hz (i:=i) (by omega);omega
 rw [e_top (m:=0) (by omega) b,e_parts (by omega) b,l];exact ⟨rfl,rfl⟩
theorem PQ.cmT_b {p q:Prf} (h:PQ p q) {x z:Nat} (hx:(x:Int)<p.s.n) (hz:(z:Int)<q.t.n):0≤cmT p q x z∧cmT p q x z≤tN p q x z∧∀ i:Nat,i<tN p q x z→0≤ix (cmC p q x z) i∧ix (cmC p q x z) i<cmT p q x z:=by
 refine ⟨top_nn _ _,top_le _ (by omega) fun i hi=>?_,fun i hi=>⟨(h.rle hx hz hi).1,top_gt _ hi⟩⟩;have:=h.rle hx hz hi;omega
def OKc (p q:Prf):Prop:=∀ x z:Nat,x<p.s.id.length→z<q.t.id.length→tN p q x z≤256∧cmT p q x z≤64
noncomputable def Qa6 (p q:Prf) (x z y e d:Nat):Int:=ix (cmC p q x z) (tpos p q x z y e d)
noncomputable def tdec (p q:Prf) (x z i:Nat):Nat × Nat × Nat:=(tri (fun y e d=>(y,e,d)) (szx p x) (szz q z) p.t.id.length)[i]?.getD (0,0,0)
noncomputable def T3 (p q:Prf) (x z:Nat):List (List Int):=tri tr3 (szx p x) (szz q z) p.t.id.length
noncomputable def TX (p q:Prf) (x z:Nat):List XTripleint64:=tri trX (szx p x) (szz q z) p.t.id.length
theorem Q6O (p q:Prf) (x z:Nat):(T3 p q x z).length=tN p q x z:=Q3K _ _ _ _
theorem Q6P (p q:Prf) (x z:Nat):(TX p q x z).length=tN p q x z:=Q3K _ _ _ _
theorem t_at {p q:Prf} {x z i:Nat} (hi:i<tN p q x z):∃ y e d,(y<p.t.id.length∧e<szx p x y∧d<szz q z y)∧i=tpos p q x z y e d∧rx (T3 p q x z) i=[(y:Int),(e:Int),(d:Int)]∧gx (TX p q x z) i=⟨(y:Int),(e:Int),(d:Int)⟩∧tdec p q x z i=(y,e,d):=by
 obtain ⟨y,e,d,h1,h2,h3,rfl⟩:=Q7x (s:=szx p x) (k:=szz q z) (n:=p.t.id.length) hi;refine ⟨y,e,d,⟨h1,h2,h3⟩,rfl,?_,?_,?_⟩
 ·have:=Q6x tr3 (szx p x) (szz q z) h2 h3 _ h1;unfold T3;simp only [rx,List.getD_eq_getElem?_getD];rw [Int.toNat_natCast,this];rfl
 ·have:=Q6x trX (szx p x) (szz q z) h2 h3 _ h1;unfold TX;simp only [gx,List.getD_eq_getElem?_getD];rw [Int.toNat_natCast,this];rfl
 have:=Q6x (fun y e d=>(y,e,d)) (szx p x) (szz q z) h2 h3 _ h1;unfold tdec;simp [this]
theorem tr3_inj (y e d y' e' d':Nat) (h:tr3 y e d=tr3 y' e' d'):y=y'∧e=e'∧d=d':=by
 simp [tr3] at h;omega
theorem pos_T3 {p q:Prf} {x z y e d:Nat} (hy:y<p.t.id.length) (he:e<szx p x y) (hd:d<szz q z y):posL (T3 p q x z) [(y:Int),(e:Int),(d:Int)]=(tpos p q x z y e d:Int):=by
 have l:=Q6O p q x z;have b:=Q4f (p:=p) (q:=q) (x:=x) (z:=z) hy he hd;have a:=Q6x tr3 (szx p x) (szz q z) he hd _ hy;unfold posL;refine Q9z (by omega) ?_ fun k hk w=>?_
 ·unfold T3;simp only [rx,List.getD_eq_getElem?_getD];rw [Int.toNat_natCast];unfold tpos;rw [a];rfl
 have hk':k<(T3 p q x z).length:=by omega
 have g:(T3 p q x z)[k]? = some (tr3 y e d):=by
  rw [List.getElem?_eq_getElem hk'];have:rx (T3 p q x z) k=(T3 p q x z)[k]:=by simp [rx,List.getD_eq_getElem?_getD,hk']
  rw [← this,w];rfl
 have:=tri_one tr3 tr3_inj _ _ he hd hy g;unfold tpos at hk;omega
noncomputable def Q4X (p q:Prf):List (List (List (List Int))):=tab p.s.id.length fun x=>tab q.t.id.length fun z=>T3 p q x z
noncomputable def Q3J (p q:Prf):List (List (List XTripleint64)):=tab p.s.id.length fun x=>tab q.t.id.length fun z=>TX p q x z
noncomputable def tabC (p q:Prf):List (List (List Int)):=tab p.s.id.length fun x=>tab q.t.id.length fun z=>cmC p q x z
theorem PQ.nX {p q:Prf} (h:PQ p q):(p.s.id.length:Int)=p.s.n∧p.s.id.length≤8∧(q.t.id.length:Int)=q.t.n∧q.t.id.length≤8∧p.s.fr.length≤40∧p.s.to.length=p.s.fr.length∧q.t.fr.length≤40∧q.t.to.length=q.t.fr.length:=by
 have a:=h.a.z.hs.nums;have b:=h.b.z.ht.nums;omega
theorem Q6U {p q:Prf} (h:PQ p q) {k:XL32Composite} (ht:k.triples_=Q4X p q) (hc:k.classes_=tabC p q) {x z y e d:Nat} (hx:x<p.s.id.length) (hz:z<q.t.id.length) (hy:y<p.t.id.length) (he:e<szx p x y) (hd:d<szz q z y):QV k x z [(y:Int),(e:Int),(d:Int)]=some (Qa6 p q x z y e d):=by
 have n:=h.nX;have l:=Q6O p q x z;have b:=Q4f (p:=p) (q:=q) (x:=x) (z:=z) hy he hd;have B:=h.bnd (x:=x) (z:=z) (y:=p.t.id.length) (by omega) (by omega) (Nat.le_refl _);have B':tN p q x z≤32768:=B;unfold QV;rw [ht,hc];unfold Q4X tabC;rw [Q1q _ hx,Q1q _ hx,Q1q _ hz,Q2N _ hz,Q4 (by simp;omega),Q4 (by simp;omega),Q4 (by simp;omega),Q4 (by simp;omega),e_find (by omega),pos_T3 hy he hd];simp only [Option.bind_some];rw [Q4 (by rw [Q42];omega)];rfl
noncomputable def pB (p:Prf) (a y e:Nat):Nat:=(ix (rx (gx p.bf a) y) e).toNat
noncomputable def qH (q:Prf) (b y d:Nat):Nat:=(ix (rx (gx q.bh b) y) d).toNat
theorem PQ.pbf {p q:Prf} (h:PQ p q) {a y e:Nat} (ha:a<p.s.fr.length) (hy:y<p.t.id.length) (he:e<szx p (toN p.s a) y):((a:Int)<(p.bf.length:Int)∧(y:Int)<((gx p.bf a).length:Int)∧(e:Int)<((rx (gx p.bf a) y).length:Int))∧ix (rx (gx p.bf a) y) e=(pB p a y e:Int)∧pB p a y e<szx p (frN p.s a) y:=by
 have n:=h.a.z.ht.nums;have l:=h.a.z.lb;have nx:=h.nX;have B:=h.a.B (a:=a) (by omega);have g:=B.2 y (by omega);obtain ⟨f1,f2,f3,f4⟩:=Q3A h.a.z.hs ha;rw [f1,f3] at g;have s1:=(h.sx (x:=frN p.s a) (by omega) hy).1;have s2:=(h.sx (x:=toN p.s a) (by omega) hy).1;rw [s1,s2] at g;have g1:=g.1;have g2:=g.2 e (by omega);unfold pB;omega
theorem PQ.qbh {p q:Prf} (h:PQ p q) {b y d:Nat} (hb:b<q.t.fr.length) (hy:y<p.t.id.length) (hd:d<szz q (frN q.t b) y):((b:Int)<(q.bh.length:Int)∧(y:Int)<((gx q.bh b).length:Int)∧(d:Int)<((rx (gx q.bh b) y).length:Int))∧ix (rx (gx q.bh b) y) d=(qH q b y d:Int)∧qH q b y d<szz q (toN q.t b) y:=by
 have n:=h.b.z.hs.nums;have l:=h.b.z.lh;have nx:=h.nX;have B:=h.b.H (b:=b) (by omega);have hy':y<q.s.id.length:=by rw [← h.e];exact hy
 have g:=B.2 y (by omega);obtain ⟨f1,f2,f3,f4⟩:=Q3A h.b.z.ht hb;rw [f1,f3] at g;have s1:=(h.sz (z:=frN q.t b) (by omega) hy).1;have s2:=(h.sz (z:=toN q.t b) (by omega) hy).1;rw [s1,s2] at g;have g1:=g.1;have g2:=g.2 d (by omega);unfold qH;omega
noncomputable def bVal (p q:Prf) (a z i:Nat):Int:=Qa6 p q (frN p.s a) z (tdec p q (toN p.s a) z i).1 (pB p a (tdec p q (toN p.s a) z i).1 (tdec p q (toN p.s a) z i).2.1) (tdec p q (toN p.s a) z i).2.2
noncomputable def hVal (p q:Prf) (b x i:Nat):Int:=Qa6 p q x (toN q.t b) (tdec p q x (frN q.t b) i).1 (tdec p q x (frN q.t b) i).2.1 (qH q b (tdec p q x (frN q.t b) i).1 (tdec p q x (frN q.t b) i).2.2)
noncomputable def comB (p q:Prf) (a z:Nat):List Int:=img (cmC p q (toN p.s a) z) (bVal p q a z) (List.replicate (cmT p q (toN p.s a) z).toNat 0) (tN p q (toN p.s a) z)
noncomputable def comH (p q:Prf) (b x:Nat):List Int:=img (cmC p q x (frN q.t b)) (hVal p q b x) (List.replicate (cmT p q x (frN q.t b)).toNat 0) (tN p q x (frN q.t b))
noncomputable def comP (p q:Prf):Prf:=⟨p.s,q.t,tab p.s.id.length fun x=>tab q.t.id.length fun z=>cmT p q x z,tab p.s.fr.length fun a=>tab q.t.id.length fun z=>comB p q a z,tab q.t.fr.length fun b=>tab p.s.id.length fun x=>comH p q b x⟩
def zeroL:XL32Composite:=⟨Q9l,[],[]⟩
open Classical in
noncomputable def mkL (p q:Prf):XL32Composite × Bool:=if OKc p q then (⟨comP p q,Q4X p q,tabC p q⟩,true) else (zeroL,false)
theorem e_l32Make {p q:Prf} (h:PQ p q):Q3v p q=some (mkL p q):=by
 obtain ⟨nx1,nx2,nx3,nx4,nx5,nx6,nx7,nx8⟩:=h.nX;unfold Q3v Q1M;rw [Q4 h.a.z.hs.ok,Q4 h.b.z.ht.ok];simp only [Option.bind_some];have fin:OKc p q→∀ K:Option (XL32Composite × Bool),K=some (⟨comP p q,Q4X p q,tabC p q⟩,true)→K=some (mkL p q):=fun ok K hK=>by rw [hK,mkL,if_pos ok]
 refine Q1x (σ:=List (List Int) × List (List (List (List Int))) × List (List (List Int)) × Int) (Q:=fun o=>o=some (mkL p q)) p.s.id.length
  (fun x s=>s=(tab x fun x=>tab q.t.id.length fun z=>cmT p q x z,tab x fun x=>tab q.t.id.length fun z=>T3 p q x z,tab x fun x=>tab q.t.id.length fun z=>cmC p q x z,(x:Int))∧∀ x' z:Nat,x' < x→z<q.t.id.length→tN p q x' z≤256∧cmT p q x' z≤64)
  (fun e=>(e = .inl ((comP p q).sz,Q4X p q,tabC p q)∧OKc p q)∨(e = .inr (zeroL,false)∧¬ OKc p q)) (by omega) ⟨rfl,fun x' z hx'=>by omega⟩ ?_ ?_ ?_
 ·rintro x s hx ⟨rfl,ok⟩
  simp only;rw [if_pos (by omega)];refine Q1x (σ:=List Int × List (List (List Int)) × List (List Int) × Int) (Q:=fun o=>(∃ s':List (List Int) × List (List (List (List Int))) × List (List (List Int)) × Int,o=some (Ctl.next s')∧s'=(tab (x+1) fun x=>tab q.t.id.length fun z=>cmT p q x z,tab (x+1) fun x=>tab q.t.id.length fun z=>T3 p q x z,tab (x+1) fun x=>tab q.t.id.length fun z=>cmC p q x z,((x+1:Nat):Int))∧∀ x' z:Nat,x' < x+1→z<q.t.id.length→tN p q x' z≤256∧cmT p q x' z≤64)∨∃ e:(List (List Int) × List (List (List (List Int))) × List (List (List Int))) ⊕ (XL32Composite × Bool),o=some (Ctl.ret e)∧((e = .inl ((comP p q).sz,Q4X p q,tabC p q)∧OKc p q)∨(e = .inr (zeroL,false)∧¬ OKc p q))) q.t.id.length
   (fun z s=>s=(tab z fun z=>cmT p q x z,tab z fun z=>T3 p q x z,tab z fun z=>cmC p q x z,(z:Int))∧∀ z':Nat,z' < z→tN p q x z'≤256∧cmT p q x z'≤64)
   (fun e=>(e = .inl (tab q.t.id.length fun z=>cmT p q x z,tab q.t.id.length fun z=>T3 p q x z,tab q.t.id.length fun z=>cmC p q x z)∧∀ z':Nat,z' < q.t.id.length→tN p q x z'≤256∧cmT p q x z'≤64)∨(e = .inr (zeroL,false)∧¬ OKc p q)) (by omega) ⟨rfl,fun z' hz'=>by omega⟩ ?_ ?_ ?_
  ·rintro z s hz ⟨rfl,ok2⟩
   have l3:=Q6O p q x z;simp only;have e3:Q22 p q x z=some (T3 p q x z):=e_l32Tri h (by omega) (by omega);rw [if_pos (by omega),e3];simp only [Option.bind_some]
   by_cases g1:tN p q x z≤256
   case neg =>
    right;rw [if_pos (by omega)];exact ⟨_,rfl,.inr ⟨rfl,fun w=>g1 (w x z hx hz).1⟩⟩
   have ec:=e_l32Cls h (x:=x) (z:=z) (by omega) (by omega) g1 (T:=T3 p q x z) l3;have et:=(h.e_cmT (x:=x) (z:=z) (by omega) (by omega) g1).1;rw [if_neg (by omega),ec];simp only [Option.bind_some];rw [et];simp only [Option.bind_some]
   by_cases g2:cmT p q x z≤64
   case neg =>
    right;rw [if_pos (by omega)];exact ⟨_,rfl,.inr ⟨rfl,fun w=>g2 (w x z hx hz).2⟩⟩
   left;rw [if_neg (by omega),Q4 (by simp;omega),Q4 (by simp;omega),Q4 (by simp;omega),Q4 (by unfold B64;omega)];refine ⟨_,rfl,by simp only [Q1u];rfl,fun z' hz'=>?_⟩
   by_cases w:z'=z
   ·subst w;exact ⟨g1,g2⟩
   exact ok2 z' (by omega)
  ·rintro s ⟨rfl,ok2⟩
   simp only;rw [if_neg (by omega)];exact ⟨_,rfl,.inl ⟨rfl,ok2⟩⟩
  rintro e (⟨rfl,ok2⟩|⟨rfl,no⟩)
  ·left;simp only;rw [Q4 (by simp;omega),Q4 (by simp;omega),Q4 (by simp;omega),Q4 (by unfold B64;omega)];refine ⟨_,rfl,by simp only [Q1u];rfl,fun x' z' hx' hz'=>?_⟩
   by_cases w:x'=x
   ·subst w;exact ok2 z' hz'
   exact ok x' z' (by omega) hz'
  right;exact ⟨_,rfl,.inr ⟨rfl,no⟩⟩
 ·rintro s ⟨rfl,ok⟩
  simp only;rw [if_neg (by omega)];exact ⟨_,rfl,.inl ⟨rfl,ok⟩⟩
 rintro e (⟨rfl,ok⟩|⟨rfl,no⟩)
 case inr =>
  rw [mkL,if_neg no]
 refine fin ok _ ?_;simp only;refine tabg p.s.fr.length (fun a=>tab q.t.id.length fun z=>comB p q a z) (e:=(comP p q).bf) (by omega) (fun a ha=>?_) (by simp only;rw [if_neg (by omega)];rfl) ?_
 ·obtain ⟨f1,f2,f3,f4⟩:=Q3A h.a.z.hs ha;simp only;rw [if_pos (by omega)];refine tabg q.t.id.length (fun z=>comB p q a z) (e:=tab q.t.id.length fun z=>comB p q a z) (by omega) (fun z hz=>?_) (by simp only;rw [if_neg (by omega)]) rfl;have e1:rx (comP p q).sz (toN p.s a:Nat)=tab q.t.id.length fun z=>cmT p q (toN p.s a) z:=Q2N _ f4;have e2:gx (Q4X p q) (toN p.s a:Nat)=tab q.t.id.length fun z=>T3 p q (toN p.s a) z:=Q1q _ f4;have e3:gx (tabC p q) (toN p.s a:Nat)=tab q.t.id.length fun z=>cmC p q (toN p.s a) z:=Q1q _ f4;have e4:((comP p q).sz.length:Int)=p.s.id.length:=by simp [comP]
  have e5:((Q4X p q).length:Int)=p.s.id.length:=by simp [Q4X]
  have e6:((tabC p q).length:Int)=p.s.id.length:=by simp [tabC]
  obtain ⟨t1,t2⟩:=ok (toN p.s a) z f4 hz;have cb:=h.cmT_b (x:=toN p.s a) (z:=z) (by omega) (by omega);simp only;rw [if_pos (by omega),f3,f1,e1,e2,e3,Q4 (by omega),Q4 (by omega),Q4 (by simp;omega),Q3R _ _ hz,Q1q _ hz,Q2N _ hz,Q4 (by omega)];have l3:=Q6O p q (toN p.s a) z;have lc:=Q42 p q (toN p.s a) z;refine QY (tN p q (toN p.s a) z) (fun i=>img (cmC p q (toN p.s a) z) (bVal p q a z) (List.replicate (cmT p q (toN p.s a) z).toNat 0) i) (e:=comB p q a z) rfl (by omega) (fun i hi=>?_) (by simp only;rw [Q4 (by omega),Q4 (by omega),Q4 (by simp;omega),if_neg (by omega)];rfl) rfl;obtain ⟨y,e,d,⟨y1,y2,y3⟩,y4,y5,y6,y7⟩:=t_at hi;obtain ⟨⟨b1,b2,b3⟩,b4,b5⟩:=h.pbf ha y1 y2;have cbi:=cb.2.2 i hi;simp only;rw [Q4 (by omega),Q4 (by omega),Q4 (by simp;omega),if_pos (by omega),y5];simp only [List.length_cons,List.length_nil];have i0:ix [(y:Int),(e:Int),(d:Int)] 0=y:=rfl;have i1:ix [(y:Int),(e:Int),(d:Int)] 1=e:=rfl;have i2:ix [(y:Int),(e:Int),(d:Int)] 2=d:=rfl;rw [i0,i1,i2,b4,Q4 (by omega),Q4 (by omega),Q4 (by simp;omega),Q4 (by omega),Q4 (by omega),Q4 (by omega),Q4 (by simp;omega),Q4 (by omega),Q4 (by omega),Q4 (by omega),Q4 (by omega),Q4 (by omega),Q4 (by omega),Q4 (by omega),Q4 (by omega),Q4 (by omega)];rw [Q6U h rfl rfl f2 hz y1 b5 y3];simp only [Option.bind_some];rw [Q4 (by simp;omega),Q4 (by unfold B64;omega)];have ev:bVal p q a z i=Qa6 p q (frN p.s a) z y (pB p a y e) d:=by unfold bVal;rw [y7]
  rw [← ev];rfl
 refine tabg q.t.fr.length (fun b=>tab p.s.id.length fun x=>comH p q b x) (e:=(comP p q).bh) (by omega) (fun b hb=>?_) (by simp only;rw [if_neg (by omega)];rfl) rfl;obtain ⟨f1,f2,f3,f4⟩:=Q3A h.b.z.ht hb;simp only;rw [if_pos (by omega)];refine tabg p.s.id.length (fun x=>comH p q b x) (e:=tab p.s.id.length fun x=>comH p q b x) (by omega) (fun x hx=>?_) (by simp only;rw [if_neg (by omega)]) rfl;have e1:rx (comP p q).sz (x:Nat)=tab q.t.id.length fun z=>cmT p q x z:=Q2N _ hx;have e2:gx (Q4X p q) (x:Nat)=tab q.t.id.length fun z=>T3 p q x z:=Q1q _ hx;have e3:gx (tabC p q) (x:Nat)=tab q.t.id.length fun z=>cmC p q x z:=Q1q _ hx;have e4:((comP p q).sz.length:Int)=p.s.id.length:=by simp [comP]
 have e5:((Q4X p q).length:Int)=p.s.id.length:=by simp [Q4X]
 have e6:((tabC p q).length:Int)=p.s.id.length:=by simp [tabC]
 obtain ⟨t1,t2⟩:=ok x (frN q.t b) hx f2;have cb:=h.cmT_b (x:=x) (z:=frN q.t b) (by omega) (by omega);simp only;rw [if_pos (by omega),f3,f1,e1,e2,e3,Q4 (by omega),Q4 (by omega),Q4 (by simp;omega),Q3R _ _ f2,Q1q _ f2,Q2N _ f2,Q4 (by omega)];have l3:=Q6O p q x (frN q.t b);have lc:=Q42 p q x (frN q.t b);refine QY (tN p q x (frN q.t b)) (fun i=>img (cmC p q x (frN q.t b)) (hVal p q b x) (List.replicate (cmT p q x (frN q.t b)).toNat 0) i) (e:=comH p q b x) rfl (by omega) (fun i hi=>?_) (by simp only;rw [Q4 (by omega),Q4 (by omega),Q4 (by simp;omega),if_neg (by omega)];rfl) rfl;obtain ⟨y,e,d,⟨y1,y2,y3⟩,y4,y5,y6,y7⟩:=t_at hi;obtain ⟨⟨b1,b2,b3⟩,b4,b5⟩:=h.qbh hb y1 y3;have cbi:=cb.2.2 i hi;simp only;rw [Q4 (by omega),Q4 (by omega),Q4 (by simp;omega),if_pos (by omega),y5];simp only [List.length_cons,List.length_nil];have i0:ix [(y:Int),(e:Int),(d:Int)] 0=y:=rfl;have i1:ix [(y:Int),(e:Int),(d:Int)] 1=e:=rfl;have i2:ix [(y:Int),(e:Int),(d:Int)] 2=d:=rfl;rw [i0,i1,i2,b4,Q4 (by omega),Q4 (by omega),Q4 (by simp;omega),Q4 (by omega),Q4 (by omega),Q4 (by omega),Q4 (by simp;omega),Q4 (by omega),Q4 (by omega),Q4 (by omega),Q4 (by omega),Q4 (by omega),Q4 (by omega),Q4 (by omega),Q4 (by omega),Q4 (by omega)];rw [Q6U h rfl rfl hx f4 y1 y2 b5];simp only [Option.bind_some];rw [Q4 (by simp;omega),Q4 (by unfold B64;omega)];have ev:hVal p q b x i=Qa6 p q x (toN q.t b) y e (qH q b y d):=by unfold hVal;rw [y7]
 rw [← ev];rfl
end
attribute [local simp] unk unA unE unT unC flat eL eI Qr Q1g Qk Prf.cells XComposite.cells
noncomputable def Q1A (x_:Int) (z_:Int) (c0_:XComposite):Option Int :=
 ass (0≤x_∧x_<(c0_.classes_.length:Int)) <|
 ass (0≤z_∧z_<((gx c0_.classes_ x_).length:Int)) <|
 (QT (rx (gx c0_.classes_ x_) z_)).bind fun v3 =>
 some v3
@[simp] abbrev Y1e (a:XComposite) (b:List (AV)):List (AV):=.rptr (Prf.cells true a.p_)::.rptr (Prf.cells true a.q_)::iV a.out_.s.n::lI a.out_.s.fr::lI a.out_.s.to::lI a.out_.s.id::.lst true 1 (Ls a.out_.s.cs)::iV a.out_.t.n::lI a.out_.t.fr::lI a.out_.t.to::lI a.out_.t.id::.lst true 1 (Ls a.out_.t.cs)::.lst true 1 (Ls a.out_.sz)::.lst true 1 (Es eL a.out_.bf)::.lst true 1 (Es eL a.out_.bh)::.lst true 1 (Es (fun x=>[.lst true 1 (Es (fun x=>[.lst true 3 (Es (XTripleint64.cells true) x)]) x)]) a.triples_)::.lst true 1 (Es eL a.classes_)::b
@[simp] abbrev Y00 (a:XComposite) (b:List (Nat × AV)):List (Nat × AV):=(2,.rptr [.rptr (Y1e a [])])::b
theorem Q5i (x_:Int) (z_:Int) (c0_:XComposite) (r:Int) (h:Q1A x_ z_ c0_=some r):Contract Tryz.prog 68 [iV x_,iV z_,.rptr [.rptr (Y1e c0_ [])]] (iV r):=by
 refine Qc (rvs:=[.tmp 5]) (rs:=[iV r]) Tryz.func68 rfl rfl rfl rfl (by simp [Tryz.f68]) fun F hN hP=>?_;unfold Q1A at h;refine Q3 (runQ hN fun K hK=>?_);simp;repeat refine sdQ ?_
 refine hK _ ?_;clear hK K;refine tn (Q7 (st':=⟨(0,iV x_)::(1,iV z_)::Y00 c0_ [],[],0⟩) (Q1m []) (Q3 (runQ hN fun K hK=>?_)));replace ⟨a1,h⟩:=Q0 h;replace ⟨a2,h⟩:=Q0 h;simp [at_E (c:=eL) a1,at_L a2];repeat with_reducible refine sdQ ?_
 replace ⟨v3,hv3,h⟩:=bind_some h;refine Q6 (Q1D _ v3 hv3) (.cons .lst .nil) ?_;simp [at_E (c:=eL) a1,at_L a2];repeat refine sdQ ?_
 refine hK _ (tn (Q7 (st':=⟨[(5,iV v3)],[],0⟩) (Q1m []) (Qo ?_)));clear hK K;have hr:=Option.some.inj h;rw [← hr];refine ⟨_,(.tmp .nil),?_⟩;refine ⟨(.one rfl rfl .nil),[iV v3],[],by simp [Prf.cells,XComposite.cells,UA,U1,IA,I1,LA,L1,BA,B1,EA,E1,E2,eB,eI,eL,Q8 _ Qk _ (fun _=>rfl),Q8 _ (XTripleint64.cells true) _ (fun _=>rfl),Q8 _ (fun x=>[.lst true 1 (Es (fun x=>[.lst true 3 (Es (XTripleint64.cells true) x)]) x)]) _ (fun _=>rfl),Q8 _ (fun x=>[.lst true 3 (Es (XTripleint64.cells true) x)]) _ (fun _=>rfl)],by simp,(UpL.refl _)⟩
attribute [local simp] unk unA unE unT unC flat eL eI Qr Q9 XTripleint64.cells
noncomputable def Qj (p0_:List XTripleint64) (p1_:XTripleint64):Option Int :=
 (Qy (σ:=Int) (ε:=Unit ⊕ Int) (fun s6 =>
  if s6<(p0_.length:Int) then
   ass (0≤s6∧s6<(p0_.length:Int)) <|
   if p1_.a_=(gx p0_ s6).a_∧p1_.b_=(gx p0_ s6).b_∧p1_.c_=(gx p0_ s6).c_ then
    some (Ctl.ret (Sum.inr s6))
   else
    ass (B64 (s6+1)) <|
    some (Ctl.next (s6+1))
  else
   some (Ctl.ret (Sum.inl ()))) fuel 0).bind fun e1 =>
 match e1 with
 | .inl b1 =>
  some (-1)
 | .inr p1 =>
  some p1
@[simp] abbrev Y0r (a:XTripleint64) (b:List (Nat × Ent)):List (Nat × Ent):=(0,.mix 3 [(XTripleint64.cells true a)])::b
theorem QQ (p0_:List XTripleint64) (p1_:XTripleint64) (r:Int) (h:Qj p0_ p1_=some r):Contract Tryz.prog 99 [.lst true 3 (Es (XTripleint64.cells true) p0_),.agg (p1_.cells true)] (iV r):=by
 refine Qc (rvs:=[.tmp 4]) (rs:=[iV r]) Tryz.func99 rfl rfl rfl rfl (by simp [Tryz.f99]) fun F hN hP=>?_;unfold Qj at h;refine Q3 (runQ hN fun K hK=>?_);simp;repeat refine sdQ ?_
 refine hK _ ?_;clear hK K;refine tn (Q7 (st':=⟨Y0D p0_ [(3,.adr 0 0 0)],Y0r p1_ [],1⟩) (Q1m [(0,0)]) (Q3 (Q3 (runQ hN fun K hK=>?_))));simp;repeat refine sdQ ?_
 refine hK _ (tn (Q7 (st':=⟨Y0D p0_ [(3,.adr 0 0 0),(7,iV (p0_.length:Int)),(8,iV 0)],Y0r p1_ [],1⟩) (Q1m [(0,0)]) ?_));clear hK K;replace ⟨e1,h,h1⟩:=bind_some h;refine Qg (fun b1:Unit=>⟨[],[],0⟩) (fun b1=>Sum.inl b1=e1) ?_ ?_
 ·refine Qa (Qn h (fun s6:Int=>⟨Y0D p0_ [(3,.adr 0 0 0),(7,iV (p0_.length:Int)),(8,iV s6)],Y0r p1_ [],1⟩) (Q1m [(0,0)]) ?_);clear h;intro k6 s6 c6 h hk6;refine Q3 (runQ hN fun K hK=>?_);simp;repeat refine sdQ ?_
  refine hK _ ?_;clear hK K;refine tn (Q3 (Qd rfl (fun g=>?_) fun g=>?_))
  ·have g7:s6<(p0_.length:Int):=gQ;clear g;replace h:=if_l g7 h;refine Qe (tn (Q3 (Qa (Q3 (runQ hN fun K hK=>?_)))));simp;(repeat refine sdQ ?_);refine hK _ ?_;clear hK K;refine tn (Q7 (st':=⟨Y0D p0_ [(3,.adr 0 0 0),(5,iV s6),(7,iV (p0_.length:Int)),(8,iV s6)],Y0r p1_ [],1⟩) (Q1m [(0,0)]) (Q3 (runQ hN fun K hK=>?_)));replace ⟨a8,h⟩:=Q0 h;simp [at_E (c:=(XTripleint64.cells true)) a8];(repeat refine sdQ ?_);refine hK _ ?_;clear hK K;refine tn (Qd rfl (fun g=>?_) fun g=>?_)
   ·have g9:p1_.a_=(gx p0_ s6).a_∧p1_.b_=(gx p0_ s6).b_∧p1_.c_=(gx p0_ s6).c_:=gQ;clear g;replace h:=if_l g9 h;refine Q3 (runQ hN fun K hK=>?_);simp;(repeat refine sdQ ?_);refine hK _ (tn (Q7 (st':=⟨[(4,iV s6)],[],0⟩) (Q1m []) (Qo (br (tr (lr (br (tr ?_))))))));clear hK K;cases h;have q:_=e1:=hk6;have h:=h1;rw [← q] at h;clear q;(try dsimp only at h);have hr:=Option.some.inj h;rw [← hr];refine ⟨_,(.tmp .nil),?_⟩;refine ⟨(.one rfl rfl .nil),[iV s6],[],by simp [XTripleint64.cells,UA,U1,IA,I1,LA,L1,BA,B1,EA,E1,E2,eB,eI,eL,Q8 _ Q9 _ (fun _=>rfl),Q8 _ (XTripleint64.cells true) _ (fun _=>rfl)],by simp,(UpL.refl _)⟩
   have g9:¬ (p1_.a_=(gx p0_ s6).a_∧p1_.b_=(gx p0_ s6).b_∧p1_.c_=(gx p0_ s6).c_):=gQ;clear g;replace h:=if_r g9 h;refine Qe (bn (tn (runQ hN fun K hK=>?_)));replace ⟨a10,h⟩:=Q0 h;simp [Qh a10];(repeat refine sdQ ?_);refine hK _ ?_;clear hK K;cases h;exact rn (s':=s6+1) hk6 (Q1m [(0,0)])
  have g7:¬ (s6<(p0_.length:Int)):=gQ;clear g;replace h:=if_r g7 h;refine Qm (tx (lx (bh ?_)));cases h;exact jn (b:=()) hk6 (Q1m [])
 intro b1 hb1;have h:=h1;try rw [← hb1] at h
 clear h1;try dsimp only at h
 refine Q3 (runQ hN fun K hK=>?_);simp;repeat refine sdQ ?_
 refine hK _ (tn (Q7 (st':=⟨[(4,iV (-1))],[],0⟩) (Q1m []) (Qo ?_)));clear hK K;have hr:=Option.some.inj h;rw [← hr];refine ⟨_,(.tmp .nil),?_⟩;refine ⟨(.one rfl rfl .nil),[iV (-1)],[],by simp [XTripleint64.cells,UA,U1,IA,I1,LA,L1,BA,B1,EA,E1,E2,eB,eI,eL,Q8 _ Q9 _ (fun _=>rfl),Q8 _ (XTripleint64.cells true) _ (fun _=>rfl)],by simp,(UpL.refl _)⟩
attribute [local simp] unk unA unE unT unC flat eL eI Qr Q9 XTripleint64.cells
noncomputable def Qt (p0_:List XTripleint64) (p1_:XTripleint64):Option Int :=
 (Qj p0_ p1_).bind fun v1 =>
 some v1
theorem Q1N (p0_:List XTripleint64) (p1_:XTripleint64) (r:Int) (h:Qt p0_ p1_=some r):Contract Tryz.prog 77 [.lst true 3 (Es (XTripleint64.cells true) p0_),.agg (p1_.cells true)] (iV r):=by
 refine Qc (rvs:=[.tmp 4]) (rs:=[iV r]) Tryz.func77 rfl rfl rfl rfl (by simp [Tryz.f77]) fun F hN hP=>?_;unfold Qt at h;refine Q3 (runQ hN fun K hK=>?_);simp;repeat refine sdQ ?_
 refine hK _ ?_;clear hK K;refine tn (Q7 (st':=⟨Y0D p0_ [(3,.adr 0 0 0)],Y0r p1_ [],1⟩) (Q1m [(0,0)]) (Q3 (runQ hN fun K hK=>?_)));simp;repeat with_reducible refine sdQ ?_
 replace ⟨v1,hv1,h⟩:=bind_some h;refine Q6 (QQ _ _ v1 hv1) (.cons .lst (.cons (.aggL (.cons .val (.cons .val (.cons .val .nil)))) .nil)) ?_;simp;repeat refine sdQ ?_
 refine hK _ (tn (Q7 (st':=⟨[(4,iV v1)],[],0⟩) (Q1m []) (Qo ?_)));clear hK K;have hr:=Option.some.inj h;rw [← hr];refine ⟨_,(.tmp .nil),?_⟩;refine ⟨(.one rfl rfl .nil),[iV v1],[],by simp [XTripleint64.cells,UA,U1,IA,I1,LA,L1,BA,B1,EA,E1,E2,eB,eI,eL,Q8 _ Q9 _ (fun _=>rfl),Q8 _ (XTripleint64.cells true) _ (fun _=>rfl)],by simp,(UpL.refl _)⟩
attribute [local simp] unk unA unE unT unC flat eL eI Qr Q1g Qk Q9 Prf.cells XComposite.cells XTripleint64.cells
noncomputable def Q19 (k_:XComposite) (x_:Int) (z_:Int) (t_:XTripleint64):Option Int :=
 ass (0≤x_∧x_<(k_.classes_.length:Int)) <|
 ass (0≤z_∧z_<((gx k_.classes_ x_).length:Int)) <|
 ass (0≤x_∧x_<(k_.triples_.length:Int)) <|
 ass (0≤z_∧z_<((gx k_.triples_ x_).length:Int)) <|
 (Qt (gx (gx k_.triples_ x_) z_) t_).bind fun v5 =>
 ass (0≤v5∧v5<((rx (gx k_.classes_ x_) z_).length:Int)) <|
 some (ix (rx (gx k_.classes_ x_) z_) v5)
@[simp] abbrev Y4 (a:XComposite) (b c:Int) (d:List (Nat × AV)):List (Nat × AV):=(0,.rptr (Y1e a []))::(1,iV b)::(2,iV c)::d
theorem Q3x (k_:XComposite) (x_:Int) (z_:Int) (t_:XTripleint64) (r:Int) (h:Q19 k_ x_ z_ t_=some r):Contract Tryz.prog 49 [.rptr (k_.cells true),iV x_,iV z_,.agg (t_.cells true)] (iV r):=by
 refine Qc (rvs:=[.tmp 8]) (rs:=[iV r]) Tryz.func49 rfl rfl rfl rfl (by simp [Tryz.f49]) fun F hN hP=>?_;unfold Q19 at h;refine Q3 (runQ hN fun K hK=>?_);simp;repeat refine sdQ ?_
 refine hK _ ?_;clear hK K;refine tn (Q7 (st':=⟨Y4 k_ x_ z_ [(7,.adr 0 0 0)],Y0r t_ [],1⟩) (Q1m [(0,0)]) (Q3 (runQ hN fun K hK=>?_)));replace ⟨a1,h⟩:=Q0 h;replace ⟨a2,h⟩:=Q0 h;replace ⟨a3,h⟩:=Q0 h;replace ⟨a4,h⟩:=Q0 h;simp [at_E (c:=eL) a1,at_L a2,at_E (c:=(fun x=>[.lst true 1 (Es (fun x=>[.lst true 3 (Es (XTripleint64.cells true) x)]) x)])) a3,at_E (c:=(fun x=>[.lst true 3 (Es (XTripleint64.cells true) x)])) a4];repeat with_reducible refine sdQ ?_
 replace ⟨v5,hv5,h⟩:=bind_some h;refine Q6 (Q1N _ _ v5 hv5) (.cons .lst (.cons (.aggL (.cons .val (.cons .val (.cons .val .nil)))) .nil)) ?_;replace ⟨a6,h⟩:=Q0 h;simp [at_E (c:=eL) a1,at_L a2,at_E (c:=(fun x=>[.lst true 1 (Es (fun x=>[.lst true 3 (Es (XTripleint64.cells true) x)]) x)])) a3,at_E (c:=(fun x=>[.lst true 3 (Es (XTripleint64.cells true) x)])) a4,at_I a6];repeat refine sdQ ?_
 refine hK _ (tn (Q7 (st':=⟨[(8,iV (ix (rx (gx k_.classes_ x_) z_) v5))],[],0⟩) (Q1m []) (Qo ?_)));clear hK K;have hr:=Option.some.inj h;rw [← hr];refine ⟨_,(.tmp .nil),?_⟩;refine ⟨(.one rfl rfl .nil),[iV (ix (rx (gx k_.classes_ x_) z_) v5)],[],by simp [Prf.cells,XComposite.cells,XTripleint64.cells,UA,U1,IA,I1,LA,L1,BA,B1,EA,E1,E2,eB,eI,eL,Q8 _ Qk _ (fun _=>rfl),Q8 _ Q9 _ (fun _=>rfl),Q8 _ (XTripleint64.cells true) _ (fun _=>rfl),Q8 _ (fun x=>[.lst true 1 (Es (fun x=>[.lst true 3 (Es (XTripleint64.cells true) x)]) x)]) _ (fun _=>rfl),Q8 _ (fun x=>[.lst true 3 (Es (XTripleint64.cells true) x)]) _ (fun _=>rfl)],by simp,(UpL.refl _)⟩
attribute [local simp] unk unA unE unT unC flat eL eI Qr Q1g Qk Q9 Prf.cells XComposite.cells XTripleint64.cells
noncomputable def QR (t_:XTripleint64) (c0_:XComposite) (c1_:Int) (c2_:Int) (c3_:Prf) (c4_:Int):Option Int :=
 ass (0≤c4_∧c4_<(c3_.bf.length:Int)) <|
 ass (0≤t_.a_∧t_.a_<((gx c3_.bf c4_).length:Int)) <|
 ass (0≤t_.b_∧t_.b_<((rx (gx c3_.bf c4_) t_.a_).length:Int)) <|
 (Q19 c0_ c1_ c2_ (⟨t_.a_,ix (rx (gx c3_.bf c4_) t_.a_) t_.b_,t_.c_⟩:XTripleint64)).bind fun v4 =>
 some v4
@[simp] abbrev Y1j (a:Prf) (b:List (AV)):List (AV):=.rptr (Prf.cells true a)::b
@[simp] abbrev YV (a:XComposite) (b c:Int) (d:Prf) (e:Int) (f:List (Nat × AV)):List (Nat × AV):=(1,.rptr [.rptr (Y1e a [])])::(2,.rptr [iV b])::(3,.rptr [iV c])::(4,.rptr (Y1j d []))::(5,.rptr [iV e])::(6,.adr 0 0 0)::f
theorem Q37 (t_:XTripleint64) (c0_:XComposite) (c1_:Int) (c2_:Int) (c3_:Prf) (c4_:Int) (r:Int) (h:QR t_ c0_ c1_ c2_ c3_ c4_=some r):Contract Tryz.prog 71 [.agg (t_.cells true),.rptr [.rptr (Y1e c0_ [])],.rptr [iV c1_],.rptr [iV c2_],.rptr (Y1j c3_ []),.rptr [iV c4_]] (iV r):=by
 refine Qc (rvs:=[.tmp 7]) (rs:=[iV r]) Tryz.func71 rfl rfl rfl rfl (by simp [Tryz.f71]) fun F hN hP=>?_;unfold QR at h;refine Q3 (runQ hN fun K hK=>?_);simp;repeat refine sdQ ?_
 refine hK _ ?_;clear hK K;refine tn (Q7 (st':=⟨YV c0_ c1_ c2_ c3_ c4_ [],Y0r t_ [],1⟩) (Q1m [(0,0)]) (Q3 (runQ hN fun K hK=>?_)));replace ⟨a1,h⟩:=Q0 h;replace ⟨a2,h⟩:=Q0 h;replace ⟨a3,h⟩:=Q0 h;simp [at_E (c:=eL) a1,at_L a2,at_I a3];repeat with_reducible refine sdQ ?_
 replace ⟨v4,hv4,h⟩:=bind_some h;refine Q6 (Q3x _ _ _ _ v4 hv4) (.cons (.preT (by simp [Prf.cells,XComposite.cells,XTripleint64.cells])) (.cons .val (.cons .val (.cons (.aggL (.cons .val (.cons .val (.cons .val .nil)))) .nil)))) ?_;simp [at_E (c:=eL) a1,at_L a2,at_I a3];repeat refine sdQ ?_
 refine hK _ (tn (Q7 (st':=⟨[(7,iV v4)],[],0⟩) (Q1m []) (Qo ?_)));clear hK K;have hr:=Option.some.inj h;rw [← hr];refine ⟨_,(.tmp .nil),?_⟩;refine ⟨(.one rfl rfl .nil),[iV v4],[],by simp [Prf.cells,XComposite.cells,XTripleint64.cells,UA,U1,IA,I1,LA,L1,BA,B1,EA,E1,E2,eB,eI,eL,Q8 _ Qk _ (fun _=>rfl),Q8 _ Q9 _ (fun _=>rfl),Q8 _ (XTripleint64.cells true) _ (fun _=>rfl),Q8 _ (fun x=>[.lst true 1 (Es (fun x=>[.lst true 3 (Es (XTripleint64.cells true) x)]) x)]) _ (fun _=>rfl),Q8 _ (fun x=>[.lst true 3 (Es (XTripleint64.cells true) x)]) _ (fun _=>rfl)],by simp,(UpL.refl _)⟩
attribute [local simp] unk unA unE unT unC flat eL eI Qr Q1g Qk Q9 Prf.cells XComposite.cells XTripleint64.cells
noncomputable def QB (k_:XComposite) (x_:Int) (z_:Int) (image_0:XComposite) (image_1:Int) (image_2:Int) (image_3:Prf) (image_4:Int):Option (List Int) :=
 ass (0≤x_∧x_<(k_.classes_.length:Int)) <|
 ass (0≤z_∧z_<((gx k_.classes_ x_).length:Int)) <|
 (QT (rx (gx k_.classes_ x_) z_)).bind fun v3 =>
 ass (0≤v3∧v3≤1073741824) <|
 ass (0≤x_∧x_<(k_.triples_.length:Int)) <|
 ass (0≤z_∧z_<((gx k_.triples_ x_).length:Int)) <|
 (Qy (σ:=List Int × Int) (ε:=List Int) (fun s16 =>
  if s16.2<((gx (gx k_.triples_ x_) z_).length:Int) then
   ass (0≤s16.2∧s16.2<((gx (gx k_.triples_ x_) z_).length:Int)) <|
   ass (0≤x_∧x_<(k_.classes_.length:Int)) <|
   ass (0≤z_∧z_<((gx k_.classes_ x_).length:Int)) <|
   ass (0≤s16.2∧s16.2<((rx (gx k_.classes_ x_) z_).length:Int)) <|
   (QR (gx (gx (gx k_.triples_ x_) z_) s16.2) image_0 image_1 image_2 image_3 image_4).bind fun v22 =>
   ass (0≤ix (rx (gx k_.classes_ x_) z_) s16.2∧ix (rx (gx k_.classes_ x_) z_) s16.2<(s16.1.length:Int)) <|
   ass (B64 (s16.2+1)) <|
   some (Ctl.next (s16.1.set ((ix (rx (gx k_.classes_ x_) z_) s16.2).toNat) v22,s16.2+1))
  else
   some (Ctl.ret s16.1)) fuel (List.replicate v3.toNat 0,0)).bind fun b7 =>
 some b7
@[simp] abbrev Yk (a:XComposite) (b c:Int) (d:Prf) (e:Int) (f:List (Nat × AV)):List (Nat × AV):=(3,.fn 71 [.rptr [.rptr (Y1e a [])],.rptr [iV b],.rptr [iV c],.rptr (Y1j d []),.rptr [iV e]])::f
@[simp] abbrev YE (a:XComposite) (b c:Int) (d:List (Nat × AV)):List (Nat × AV):=(33,.lst true 3 (Es (XTripleint64.cells true) (gx (gx a.triples_ b) c)))::(34,iV ((gx (gx a.triples_ b) c).length:Int))::d
@[simp] abbrev Y0I (a:Int) (b:List (Nat × AV)):List (Nat × AV):=(9,.own 0 0 ((List.replicate a.toNat 0).length))::b
theorem Q1v (k_:XComposite) (x_:Int) (z_:Int) (image_0:XComposite) (image_1:Int) (image_2:Int) (image_3:Prf) (image_4:Int) (r:List Int) (h:QB k_ x_ z_ image_0 image_1 image_2 image_3 image_4=some r):Contract Tryz.prog 34 [.rptr (k_.cells true),iV x_,iV z_,.fn 71 [.rptr [.rptr (Y1e image_0 [])],.rptr [iV image_1],.rptr [iV image_2],.rptr (Y1j image_3 []),.rptr [iV image_4]]] (lI r):=by
 refine Qc (rvs:=[.tmp 8]) (rs:=[lI r]) Tryz.func34 rfl rfl rfl rfl (by simp [Tryz.f34]) fun F hN hP=>?_;unfold QB at h;refine Q3 (runQ hN fun K hK=>?_);simp;repeat refine sdQ ?_
 refine hK _ ?_;clear hK K;refine tn (Q7 (st':=⟨Y4 k_ x_ z_ (Yk image_0 image_1 image_2 image_3 image_4 []),[],0⟩) (Q1m []) (Q3 (runQ hN fun K hK=>?_)));replace ⟨a1,h⟩:=Q0 h;replace ⟨a2,h⟩:=Q0 h;simp [at_E (c:=eL) a1,at_L a2];repeat with_reducible refine sdQ ?_
 replace ⟨v3,hv3,h⟩:=bind_some h;refine Q6 (Q1D _ v3 hv3) (.cons .lst .nil) ?_;replace ⟨a4,h⟩:=Q0 h;simp [at_E (c:=eL) a1,at_L a2];repeat refine sdQ ?_
 refine hK _ ?_;clear hK K;refine tn (Q7 (st':=⟨Y4 k_ x_ z_ (Yk image_0 image_1 image_2 image_3 image_4 (Y0I v3 [])),Y0Q v3 [],1⟩) (Q1m [(1,0)]) (Q3 (Q3 (runQ hN fun K hK=>?_))));replace ⟨a5,h⟩:=Q0 h;replace ⟨a6,h⟩:=Q0 h;simp [at_E (c:=(fun x=>[.lst true 1 (Es (fun x=>[.lst true 3 (Es (XTripleint64.cells true) x)]) x)])) a5,at_E (c:=(fun x=>[.lst true 3 (Es (XTripleint64.cells true) x)])) a6];repeat refine sdQ ?_
 refine hK _ (tn (Q7 (st':=⟨Y4 k_ x_ z_ (Yk image_0 image_1 image_2 image_3 image_4 (Y0I v3 (YE k_ x_ z_ [(35,iV 0)]))),Y0Q v3 [],1⟩) (Q1m [(0,0)]) ?_));clear hK K;replace ⟨e7,h,h7⟩:=bind_some h;refine Qg (fun b7:List Int=>⟨[(9,.own 0 0 b7.length)],[(0,rI b7)],1⟩) (fun b7=>b7=e7) ?_ ?_
 ·refine Qa (Qn h (fun s16:List Int × Int=>⟨Y4 k_ x_ z_ (Yk image_0 image_1 image_2 image_3 image_4 ((9,.own 0 0 s16.1.length)::YE k_ x_ z_ [(35,iV s16.2)])),[(0,rI s16.1)],1⟩) (Q1m [(0,0)]) ?_);clear h;intro k16 s16 c16 h hk16;refine Q3 (runQ hN fun K hK=>?_);simp;repeat refine sdQ ?_
  refine hK _ ?_;clear hK K;refine tn (Q3 (Qd rfl (fun g=>?_) fun g=>?_))
  ·have g17:s16.2<((gx (gx k_.triples_ x_) z_).length:Int):=gQ;clear g;replace h:=if_l g17 h;refine Qe (tn (Q3 (Qa (Q3 (runQ hN fun K hK=>?_)))));replace ⟨a18,h⟩:=Q0 h;simp [at_E (c:=(XTripleint64.cells true)) a18];(repeat refine sdQ ?_);refine hK _ ?_;clear hK K;refine tn (Q7 (st':=⟨Y4 k_ x_ z_ (Yk image_0 image_1 image_2 image_3 image_4 ((9,.own 0 0 s16.1.length)::(10,iV s16.2)::(11,.adr 1 0 0)::YE k_ x_ z_ [(35,iV s16.2)])),[(0,rI s16.1),(1,.mix 3 [(XTripleint64.cells true (gx (gx (gx k_.triples_ x_) z_) s16.2))])],2⟩) (Q1m [(0,0),(1,1)]) (runQ hN fun K hK=>?_));replace ⟨a19,h⟩:=Q0 h;replace ⟨a20,h⟩:=Q0 h;replace ⟨a21,h⟩:=Q0 h;simp [at_E (c:=eL) a19,at_L a20,at_I a21];(repeat with_reducible refine sdQ ?_);replace ⟨v22,hv22,h⟩:=bind_some h;refine Q6 (Q37 _ _ _ _ _ _ v22 hv22) (.cons (.aggL (.cons .val (.cons .val (.cons .val .nil)))) (.cons .rptr (.cons .rptr (.cons .rptr (.cons .rptr (.cons .rptr .nil)))))) ?_;replace ⟨a23,h⟩:=Q0 h;simp [at_E (c:=eL) a19,at_L a20,at_I a21,at_I a23];(repeat refine sdQ ?_);refine hK _ (bn (tn ?_));clear hK K
   refine Q7 (st':=⟨Y4 k_ x_ z_ (Yk image_0 image_1 image_2 image_3 image_4 ((9,.own 0 0 ((s16.1.set ((ix (rx (gx k_.classes_ x_) z_) s16.2).toNat) v22).length))::YE k_ x_ z_ [(35,iV s16.2)])),[(0,rI (s16.1.set ((ix (rx (gx k_.classes_ x_) z_) s16.2).toNat) v22))],1⟩) (Q1m [(0,0)]) (runQ hN fun K hK=>?_);replace ⟨a24,h⟩:=Q0 h;simp [Qh a24];(repeat refine sdQ ?_);refine hK _ ?_;clear hK K;cases h;exact rn (s':=(s16.1.set ((ix (rx (gx k_.classes_ x_) z_) s16.2).toNat) v22,s16.2+1)) hk16 (Q1m [(0,0)])
  have g17:¬ (s16.2<((gx (gx k_.triples_ x_) z_).length:Int)):=gQ;clear g;replace h:=if_r g17 h;refine Qm (tx (lx (bh ?_)));cases h;exact jn (b:=s16.1) hk16 (Q1m [(0,0)])
 intro b7 hb7;have h:=h7;try rw [← hb7] at h
 clear h7;try dsimp only at h
 refine Q3 (runQ hN fun K hK=>?_);simp;repeat refine sdQ ?_
 refine hK _ (tn (Q7 (st':=⟨[(8,.own 0 0 b7.length)],[(0,rI b7)],1⟩) (Q1m [(0,0)]) (Qo ?_)));clear hK K;have hr:=Option.some.inj h;rw [← hr];refine ⟨_,(.tmp .nil),?_⟩;refine ⟨(.one rfl rfl .nil),[lI b7],[0],by simp [Prf.cells,XComposite.cells,XTripleint64.cells,UA,U1,IA,I1,LA,L1,BA,B1,EA,E1,E2,eB,eI,eL,Q8 _ Qk _ (fun _=>rfl),Q8 _ Q9 _ (fun _=>rfl),Q8 _ (XTripleint64.cells true) _ (fun _=>rfl),Q8 _ (fun x=>[.lst true 1 (Es (fun x=>[.lst true 3 (Es (XTripleint64.cells true) x)]) x)]) _ (fun _=>rfl),Q8 _ (fun x=>[.lst true 3 (Es (XTripleint64.cells true) x)]) _ (fun _=>rfl)],by simp,(UpL.refl _)⟩
attribute [local simp] unk unA unE unT unC flat eL eI Qr Q1g Qk Prf.cells XComposite.cells
noncomputable def Q1d (a_:Int) (z_:Int) (c0_:Prf) (c1_:XComposite):Option (List Int) :=
 ass (0≤a_∧a_<(c0_.s.to.length:Int)) <|
 ass (0≤a_∧a_<(c0_.s.fr.length:Int)) <|
 (QB c1_ (ix c0_.s.to a_) z_ c1_ (ix c0_.s.fr a_) z_ c0_ a_).bind fun v3 =>
 some v3
@[simp] abbrev Yt (a:Prf) (b:XComposite) (c:List (Nat × AV)):List (Nat × AV):=(2,.rptr (Y1j a []))::(3,.rptr [.rptr (Y1e b [])])::(4,.adr 0 0 0)::(5,.adr 1 0 0)::c
theorem Q4z (a_:Int) (z_:Int) (c0_:Prf) (c1_:XComposite) (r:List Int) (h:Q1d a_ z_ c0_ c1_=some r):Contract Tryz.prog 70 [iV a_,iV z_,.rptr (Y1j c0_ []),.rptr [.rptr (Y1e c1_ [])]] (lI r):=by
 refine Qc (rvs:=[.tmp 6]) (rs:=[lI r]) Tryz.func70 rfl rfl rfl rfl (by simp [Tryz.f70]) fun F hN hP=>?_;unfold Q1d at h;refine Q3 (runQ hN fun K hK=>?_);simp;repeat refine sdQ ?_
 refine hK _ ?_;clear hK K;refine tn (Q7 (st':=⟨Yt c0_ c1_ [],[(0,.mix 1 [[iV a_]]),(1,.mix 1 [[iV z_]])],2⟩) (Q1m [(0,0),(1,1)]) (Q3 (runQ hN fun K hK=>?_)));replace ⟨a1,h⟩:=Q0 h;replace ⟨a2,h⟩:=Q0 h;simp [at_I a1,at_I a2];repeat refine sdQ ?_
 refine hK _ ?_;clear hK K;refine tn (Q7 (st':=⟨Yt c0_ c1_ [(7,iV (ix c0_.s.to a_)),(8,.adr 2 0 0)],[(0,.mix 1 [[iV a_]]),(1,.mix 1 [[iV z_]]),(2,.mix 1 [[iV (ix c0_.s.fr a_)]])],3⟩) (Q1O 3) (Q3 (QG [] mo (by rw [hN];decide) fun K hK=>?_)));simp;repeat with_reducible refine sdQ ?_
 replace ⟨v3,hv3,h⟩:=bind_some h;refine Q1G (fz:=[]) (Q1v _ _ _ _ _ _ _ _ v3 hv3) (.cons (.preT (by simp [Prf.cells,XComposite.cells])) (.cons .val (.cons .val (.cons (.fnL (by simp) (.cons .rptr (.cons (.field rfl (by simp [Prf.cells,XComposite.cells]) (.cons .val .nil)) (.cons (.field rfl (by simp [Prf.cells,XComposite.cells]) (.cons .val .nil)) (.cons .rptr (.cons (.field rfl (by simp [Prf.cells,XComposite.cells]) (.cons .val .nil)) .nil)))))) .nil)))) ?_;simp;repeat refine sdQ ?_
 refine hK _ (tn (Q7 (st':=⟨[(6,.own 0 0 v3.length)],[(0,rI v3)],1⟩) (Q1m [(3,0)]) (Qo ?_)));clear hK K;have hr:=Option.some.inj h;rw [← hr];refine ⟨_,(.tmp .nil),?_⟩;refine ⟨(.one rfl rfl .nil),[lI v3],[0],by simp [Prf.cells,XComposite.cells,UA,U1,IA,I1,LA,L1,BA,B1,EA,E1,E2,eB,eI,eL,Q8 _ Qk _ (fun _=>rfl),Q8 _ (XTripleint64.cells true) _ (fun _=>rfl),Q8 _ (fun x=>[.lst true 1 (Es (fun x=>[.lst true 3 (Es (XTripleint64.cells true) x)]) x)]) _ (fun _=>rfl),Q8 _ (fun x=>[.lst true 3 (Es (XTripleint64.cells true) x)]) _ (fun _=>rfl)],by simp,(UpL.refl _)⟩
attribute [local simp] unk unA unE unT unC flat eL eI Qr Q1g Qk Q9 Prf.cells XComposite.cells XTripleint64.cells
noncomputable def QS (t_:XTripleint64) (c0_:XComposite) (c1_:Int) (c2_:Int) (c3_:Prf) (c4_:Int):Option Int :=
 ass (0≤c4_∧c4_<(c3_.bh.length:Int)) <|
 ass (0≤t_.a_∧t_.a_<((gx c3_.bh c4_).length:Int)) <|
 ass (0≤t_.c_∧t_.c_<((rx (gx c3_.bh c4_) t_.a_).length:Int)) <|
 (Q19 c0_ c1_ c2_ (⟨t_.a_,t_.b_,ix (rx (gx c3_.bh c4_) t_.a_) t_.c_⟩:XTripleint64)).bind fun v4 =>
 some v4
theorem Q38 (t_:XTripleint64) (c0_:XComposite) (c1_:Int) (c2_:Int) (c3_:Prf) (c4_:Int) (r:Int) (h:QS t_ c0_ c1_ c2_ c3_ c4_=some r):Contract Tryz.prog 73 [.agg (t_.cells true),.rptr [.rptr (Y1e c0_ [])],.rptr [iV c1_],.rptr [iV c2_],.rptr (Y1j c3_ []),.rptr [iV c4_]] (iV r):=by
 refine Qc (rvs:=[.tmp 7]) (rs:=[iV r]) Tryz.func73 rfl rfl rfl rfl (by simp [Tryz.f73]) fun F hN hP=>?_;unfold QS at h;refine Q3 (runQ hN fun K hK=>?_);simp;repeat refine sdQ ?_
 refine hK _ ?_;clear hK K;refine tn (Q7 (st':=⟨YV c0_ c1_ c2_ c3_ c4_ [],Y0r t_ [],1⟩) (Q1m [(0,0)]) (Q3 (runQ hN fun K hK=>?_)));replace ⟨a1,h⟩:=Q0 h;replace ⟨a2,h⟩:=Q0 h;replace ⟨a3,h⟩:=Q0 h;simp [at_E (c:=eL) a1,at_L a2,at_I a3];repeat with_reducible refine sdQ ?_
 replace ⟨v4,hv4,h⟩:=bind_some h;refine Q6 (Q3x _ _ _ _ v4 hv4) (.cons (.preT (by simp [Prf.cells,XComposite.cells,XTripleint64.cells])) (.cons .val (.cons .val (.cons (.aggL (.cons .val (.cons .val (.cons .val .nil)))) .nil)))) ?_;simp [at_E (c:=eL) a1,at_L a2,at_I a3];repeat refine sdQ ?_
 refine hK _ (tn (Q7 (st':=⟨[(7,iV v4)],[],0⟩) (Q1m []) (Qo ?_)));clear hK K;have hr:=Option.some.inj h;rw [← hr];refine ⟨_,(.tmp .nil),?_⟩;refine ⟨(.one rfl rfl .nil),[iV v4],[],by simp [Prf.cells,XComposite.cells,XTripleint64.cells,UA,U1,IA,I1,LA,L1,BA,B1,EA,E1,E2,eB,eI,eL,Q8 _ Qk _ (fun _=>rfl),Q8 _ Q9 _ (fun _=>rfl),Q8 _ (XTripleint64.cells true) _ (fun _=>rfl),Q8 _ (fun x=>[.lst true 1 (Es (fun x=>[.lst true 3 (Es (XTripleint64.cells true) x)]) x)]) _ (fun _=>rfl),Q8 _ (fun x=>[.lst true 3 (Es (XTripleint64.cells true) x)]) _ (fun _=>rfl)],by simp,(UpL.refl _)⟩
end Go.Vc.T
