/- A part of the proof. -/
import Derived.Test.YtllnbmfplpilcaaI9
set_option maxRecDepth 100000
set_option maxHeartbeats 4000000
set_option linter.unusedSimpArgs false
set_option linter.unusedVariables false
set_option linter.unusedSectionVars false
set_option linter.unnecessarySimpa false

open List renaming getD_eq_getElem?_getD→qB
open Option.some renaming inj→zC
open Option renaming bind_some→zF
open List renaming replicate→qW
open List renaming length_append→qE
open List renaming length_cons→qG
open List renaming take_succ_eq_append_getElem→zH
open List renaming length_nil→zB
open List renaming getElem_mem→zI
open List renaming length_map→zL
namespace Go.Vc.T
open Go Go.Vc Go.Proofs
attribute [local simp] unk unA unE unT unC flat eL eI Qf Q28 Qg Q6 Qe Cat.cells XPairint64.cells XQuery.cells XTerm.cells
noncomputable def QO (c_:Cat) (q_:XQuery):Option (Unit ⊕ (Int × List Int × List Int × List Int × List (List Int) × List Int × List (List Int) × (List (XPairint64 × Int)))) :=
 (QA (σ:=List XPairint64 × Int) (ε:=List XPairint64) (fun s17 =>
  if s17.2<(q_.variables_.length:Int) then
   (
    ass (0≤s17.2∧s17.2<(q_.variables_.length:Int)) <|
    (Q11 c_ (ix q_.variables_ s17.2)).bind fun v21 =>
    (QA (σ:=List XPairint64 × Int) (ε:=List XPairint64) (fun s26 =>
     if s26.2<(v21.length:Int) then
      ass (0≤s26.2∧s26.2<(v21.length:Int)) <|
      ass ((s26.1++[(⟨s17.2,ix v21 s26.2⟩:XPairint64)]).length≤1073741824) <|
      ass (B64 (s26.2+1)) <|
      some (Ctl.next (s26.1++[(⟨s17.2,ix v21 s26.2⟩:XPairint64)],s26.2+1))
     else
      some (Ctl.ret s26.1)) fuel (s17.1,0)).bind fun p26 =>
    some p26:Option (List XPairint64)).bind fun b19 =>
   ass (B64 (s17.2+1)) <|
   some (Ctl.next (b19,s17.2+1))
  else
   some (Ctl.ret s17.1)) fuel ([],0)).bind fun b2 =>
 (Qv b2).bind fun v32 =>
 (Q30 (b2.length:Int)).bind fun v33 =>
 (QA (σ:=List Int × Int) (ε:=List Int) (fun s133 =>
  if s133.2<(q_.left_.length:Int) then
   (
    ass (0≤s133.2∧s133.2<(q_.left_.length:Int)) <|
    ass (0≤s133.2∧s133.2<(q_.right_.length:Int)) <|
    ass (0≤(gx q_.left_ s133.2).arrow_∧(gx q_.left_ s133.2).arrow_<(c_.to.length:Int)) <|
    (Q11 c_ (ix c_.to ((gx q_.left_ s133.2).arrow_))).bind fun v139 =>
    (QA (σ:=List Int × Int) (ε:=List Int) (fun s185 =>
     if s185.2<(v139.length:Int) then
      ass (0≤s185.2∧s185.2<(v139.length:Int)) <|
      (QQ c_ ((gx q_.left_ s133.2).arrow_) (ix v139 s185.2)).bind fun v188 =>
      (QQ c_ ((gx q_.right_ s133.2).arrow_) (ix v139 s185.2)).bind fun v189 =>
      (
       (
        (QA (σ:=List Int × Int) (ε:=List Int × Int) (fun s200 =>
         ass (0≤s200.2∧s200.2<(s200.1.length:Int)) <|
         if ¬ ((ix s200.1 s200.2)=s200.2) then
          ass (0≤s200.2∧s200.2<(s200.1.length:Int)) <|
          ass (0≤ix s200.1 s200.2∧ix s200.1 s200.2<(s200.1.length:Int)) <|
          ass (0≤s200.2∧s200.2<(s200.1.length:Int)) <|
          ass (0≤s200.2∧s200.2<((s200.1.set s200.2.toNat (ix s200.1 (ix s200.1 s200.2))).length:Int)) <|
          some (Ctl.next (s200.1.set s200.2.toNat (ix s200.1 (ix s200.1 s200.2)),ix (s200.1.set s200.2.toNat (ix s200.1 (ix s200.1 s200.2))) s200.2))
         else
          some (Ctl.ret (s200.1,s200.2))) fuel (s185.1,(QV (⟨(gx q_.left_ s133.2).variable_,v188⟩:XPairint64) v32).getD 0)).bind fun b192 =>
        some (b192.1,b192.2):Option (List Int × Int)).bind fun v207 =>
       ass (v207.1.length=s185.1.length) <|
       (
        (QA (σ:=List Int × Int) (ε:=List Int × Int) (fun s218 =>
         ass (0≤s218.2∧s218.2<(s218.1.length:Int)) <|
         if ¬ ((ix s218.1 s218.2)=s218.2) then
          ass (0≤s218.2∧s218.2<(s218.1.length:Int)) <|
          ass (0≤ix s218.1 s218.2∧ix s218.1 s218.2<(s218.1.length:Int)) <|
          ass (0≤s218.2∧s218.2<(s218.1.length:Int)) <|
          ass (0≤s218.2∧s218.2<((s218.1.set s218.2.toNat (ix s218.1 (ix s218.1 s218.2))).length:Int)) <|
          some (Ctl.next (s218.1.set s218.2.toNat (ix s218.1 (ix s218.1 s218.2)),ix (s218.1.set s218.2.toNat (ix s218.1 (ix s218.1 s218.2))) s218.2))
         else
          some (Ctl.ret (s218.1,s218.2))) fuel (v207.1,(QV (⟨(gx q_.right_ s133.2).variable_,v189⟩:XPairint64) v32).getD 0)).bind fun b210 =>
        some (b210.1,b210.2):Option (List Int × Int)).bind fun v225 =>
       ass (v225.1.length=v207.1.length) <|
       ass (0≤(if v225.2 > v207.2 then v225.2 else v207.2)∧(if v225.2 > v207.2 then v225.2 else v207.2)<(v225.1.length:Int)) <|
       some (v225.1.set ((if v225.2 > v207.2 then v225.2 else v207.2).toNat) (if v225.2<v207.2 then v225.2 else v207.2),v207.2 != v225.2):Option (List Int × Bool)).bind fun v228 =>
      ass (v228.1.length=s185.1.length) <|
      ass (B64 (s185.2+1)) <|
      some (Ctl.next (v228.1,s185.2+1))
     else
      some (Ctl.ret s185.1)) fuel (s133.1,0)).bind fun p185 =>
    some p185:Option (List Int)).bind fun b135 =>
   ass (B64 (s133.2+1)) <|
   some (Ctl.next (b135,s133.2+1))
  else
   some (Ctl.ret s133.1)) fuel (v33,0)).bind fun b34 =>
 (Q1K c_).bind fun v232 =>
 (QA (σ:=List Int × List Int × (List (XPairint64 × Int)) × Int) (ε:=List Int × (List (XPairint64 × Int))) (fun s305 =>
  if s305.2.2.2<c_.n then
   (QA (σ:=List Int × List Int × List XPairint64 × Int) (ε:=List Int × List Int × List XPairint64) (fun s334 =>
    if s334.2.2.2<(b2.length:Int) then
     (
      ass (0≤s334.2.2.2∧s334.2.2.2<(b2.length:Int)) <|
      ass (0≤(gx b2 s334.2.2.2).second_∧(gx b2 s334.2.2.2).second_<(c_.to.length:Int)) <|
      if (ix c_.to ((gx b2 s334.2.2.2).second_))=s305.2.2.2 then
       (
        (QA (σ:=List Int × Int) (ε:=List Int × Int) (fun s349 =>
         ass (0≤s349.2∧s349.2<(s349.1.length:Int)) <|
         if ¬ ((ix s349.1 s349.2)=s349.2) then
          ass (0≤s349.2∧s349.2<(s349.1.length:Int)) <|
          ass (0≤ix s349.1 s349.2∧ix s349.1 s349.2<(s349.1.length:Int)) <|
          ass (0≤s349.2∧s349.2<(s349.1.length:Int)) <|
          ass (0≤s349.2∧s349.2<((s349.1.set s349.2.toNat (ix s349.1 (ix s349.1 s349.2))).length:Int)) <|
          some (Ctl.next (s349.1.set s349.2.toNat (ix s349.1 (ix s349.1 s349.2)),ix (s349.1.set s349.2.toNat (ix s349.1 (ix s349.1 s349.2))) s349.2))
         else
          some (Ctl.ret (s349.1,s349.2))) fuel (s334.1,s334.2.2.2)).bind fun b341 =>
        some (b341.1,b341.2):Option (List Int × Int)).bind fun v356 =>
       ass (v356.1.length=s334.1.length) <|
       ass ((s334.2.1++[v356.2]).length≤1073741824) <|
       ass ((s334.2.2.1++[(gx b2 s334.2.2.2)]).length≤1073741824) <|
       some (v356.1,s334.2.1++[v356.2],s334.2.2.1++[(gx b2 s334.2.2.2)])
      else
       some (s334.1,s334.2.1,s334.2.2.1):Option (List Int × List Int × List XPairint64)).bind fun b336 =>
     ass (B64 (s334.2.2.2+1)) <|
     some (Ctl.next (b336.1,b336.2.1,b336.2.2,s334.2.2.2+1))
    else
     some (Ctl.ret (s334.1,s334.2.1,s334.2.2.1))) fuel (s305.1,[],[],0)).bind fun b307 =>
   (Q3e b307.2.1).bind fun v361 =>
   (QA (σ:=(List (XPairint64 × Int)) × Int) (ε:=List (XPairint64 × Int)) (fun s368 =>
    if s368.2<(b307.2.2.length:Int) then
     ass (0≤s368.2∧s368.2<(b307.2.2.length:Int)) <|
     ass (0≤s368.2∧s368.2<(v361.length:Int)) <|
     ass (s368.1.length<1099511627776) <|
     ass (B64 (s368.2+1)) <|
     some (Ctl.next (tset (gx b307.2.2 s368.2) (ix v361 s368.2) s368.1,s368.2+1))
    else
     some (Ctl.ret s368.1)) fuel (s305.2.2.1,0)).bind fun b362 =>
   (Q10 v361).bind fun v374 =>
   ass ((s305.2.1++[v374]).length≤1073741824) <|
   ass (B64 (s305.2.2.2+1)) <|
   some (Ctl.next (b307.1,s305.2.1++[v374],b362,s305.2.2.2+1))
  else
   some (Ctl.ret (s305.2.1,s305.2.2.1))) fuel (b34,[],[],0)).bind fun b233 =>
 (Q3x b233.1).bind fun v377 =>
 if ¬ (v377=true) then
  some (Sum.inl ())
 else
  (QA (σ:=List (List Int) × Int) (ε:=List (List Int)) (fun s406 =>
   if s406.2<(c_.fr.length:Int) then
    ass (0≤s406.2∧s406.2<(c_.fr.length:Int)) <|
    ass (0≤ix c_.fr s406.2∧ix c_.fr s406.2<(b233.1.length:Int)) <|
    ass (0≤ix b233.1 (ix c_.fr s406.2)∧ix b233.1 (ix c_.fr s406.2)≤1073741824) <|
    (QA (σ:=List Int × Int) (ε:=List Int) (fun s421 =>
     if s421.2<(b2.length:Int) then
      (
       ass (0≤s421.2∧s421.2<(b2.length:Int)) <|
       ass (0≤(gx b2 s421.2).second_∧(gx b2 s421.2).second_<(c_.to.length:Int)) <|
       ass (0≤s406.2∧s406.2<(c_.fr.length:Int)) <|
       if (ix c_.to ((gx b2 s421.2).second_))=(ix c_.fr s406.2) then
        (QQ c_ ((gx b2 s421.2).second_) s406.2).bind fun v428 =>
        ass (0≤(QV (gx b2 s421.2) b233.2).getD 0∧(QV (gx b2 s421.2) b233.2).getD 0<(s421.1.length:Int)) <|
        some (s421.1.set (((QV (gx b2 s421.2) b233.2).getD 0).toNat) ((QV (⟨(gx b2 s421.2).first_,v428⟩:XPairint64) b233.2).getD 0))
       else
        some s421.1:Option (List Int)).bind fun b423 =>
      ass (B64 (s421.2+1)) <|
      some (Ctl.next (b423,s421.2+1))
     else
      some (Ctl.ret s421.1)) fuel (qW ((ix b233.1 (ix c_.fr s406.2)).toNat) 0,0)).bind fun b411 =>
    ass ((s406.1++[b411]).length≤1073741824) <|
    ass (B64 (s406.2+1)) <|
    some (Ctl.next (s406.1++[b411],s406.2+1))
   else
    some (Ctl.ret s406.1)) fuel ([],0)).bind fun b379 =>
  some (Sum.inr (v232.n,v232.fr,v232.to,v232.id,v232.cs,b233.1,b379,b233.2))
theorem QD {F : Fx} {st st' : St} (m : List (Nat × Nat)) (h : (m.map Prod.fst).Nodup ∧ (m.map Prod.snd).Nodup ∧ (∀ id, id < F.pins → look id m = some id) ∧ (∀ p ∈ m, p.2 < st'.n) ∧ (∀ p ∈ st'.h, p.1 < st'.n) ∧ (∀ p ∈ st'.s, p.2 = rl m (st.get p.1) ∨ p.2 = .bot) ∧ ∀ p ∈ st'.h, hhOk m st.h p.1 p.2 := by simp [hP, hhOk, back, idQ, Cat.cells, XPairint64.cells, XQuery.cells, XTerm.cells, UA, U1, IA, I1, LA, L1, BA, B1, EA, E1, E2, eB, eI, eL, Q5 _ Qg _ (fun _=>rfl), Q5 _ Q6 _ (fun _=>rfl), Q5 _ Qe _ (fun _=>rfl), Q5 _ (XPairint64.cells true) _ (fun _=>rfl)]) : Wk F st st' := Wk.r1 m h
theorem Q2j {F : Fx} {st st' : St} (m : Nat) (h : ((idQ m).map Prod.fst).Nodup ∧ ((idQ m).map Prod.snd).Nodup ∧ (∀ id, id < F.pins → look id (idQ m) = some id) ∧ (∀ p ∈ (idQ m), p.2 < st'.n) ∧ (∀ p ∈ st'.h, p.1 < st'.n) ∧ (∀ p ∈ st'.s, p.2 = rl (idQ m) (st.get p.1) ∨ p.2 = .bot) ∧ ∀ p ∈ st'.h, hhOk (idQ m) st.h p.1 p.2 := by simp [hP, hhOk, back, idQ, Cat.cells, XPairint64.cells, XQuery.cells, XTerm.cells, UA, U1, IA, I1, LA, L1, BA, B1, EA, E1, E2, eB, eI, eL, Q5 _ Qg _ (fun _=>rfl), Q5 _ Q6 _ (fun _=>rfl), Q5 _ Qe _ (fun _=>rfl), Q5 _ (XPairint64.cells true) _ (fun _=>rfl)]) : Wk F st st' := Wk.r1 (idQ m) h
theorem wkP10 {F : Fx} {st st' : St} {n : Nat} (m : List (Nat × Nat)) (hP : F.pins = n) (hq : pinsB n m = true := by rfl) (h : (m.map Prod.fst).Nodup ∧ (m.map Prod.snd).Nodup ∧ (∀ p ∈ m, p.2 < st'.n) ∧ (∀ p ∈ st'.h, p.1 < st'.n) ∧ (∀ p ∈ st'.s, p.2 = rl m (st.get p.1) ∨ p.2 = .bot) ∧ ∀ p ∈ st'.h, hhOk m st.h p.1 p.2 := by simp [hhOk, back, idQ, Cat.cells, XPairint64.cells, XQuery.cells, XTerm.cells, UA, U1, IA, I1, LA, L1, BA, B1, EA, E1, E2, eB, eI, eL, Q5 _ Qg _ (fun _=>rfl), Q5 _ Q6 _ (fun _=>rfl), Q5 _ Qe _ (fun _=>rfl), Q5 _ (XPairint64.cells true) _ (fun _=>rfl)]) : Wk F st st' := Wk.rP n m hP hq h
theorem Q5a {F : Fx} {st st' : St} {n : Nat} (m : Nat) (hP : F.pins = n) (hq : pinsB n (idQ m) = true := by rfl) (h : ((idQ m).map Prod.fst).Nodup ∧ ((idQ m).map Prod.snd).Nodup ∧ (∀ p ∈ (idQ m), p.2 < st'.n) ∧ (∀ p ∈ st'.h, p.1 < st'.n) ∧ (∀ p ∈ st'.s, p.2 = rl (idQ m) (st.get p.1) ∨ p.2 = .bot) ∧ ∀ p ∈ st'.h, hhOk (idQ m) st.h p.1 p.2 := by simp [hhOk, back, idQ, Cat.cells, XPairint64.cells, XQuery.cells, XTerm.cells, UA, U1, IA, I1, LA, L1, BA, B1, EA, E1, E2, eB, eI, eL, Q5 _ Qg _ (fun _=>rfl), Q5 _ Q6 _ (fun _=>rfl), Q5 _ Qe _ (fun _=>rfl), Q5 _ (XPairint64.cells true) _ (fun _=>rfl)]) : Wk F st st' := Wk.rP n (idQ m) hP hq h
@[simp] abbrev Y0o (a:XQuery) (b:List (AV)):List (AV):=.rptr (XQuery.cells true a)::b
@[simp] abbrev Y0 (a:XQuery) (b:Cat) (c:List Int × List Int × (List (XPairint64 × Int)) × Int) (d:List (Nat × Ent)):List (Nat × Ent):=(2,.mix 9 [(Y0o a (Y0l b [.own 7 0 c.2.1.length,nS,.mp 8]))])::(3,rI b.fr)::(4,rI b.to)::(5,rI b.id)::(6,.row 1 (Ls b.cs))::(7,rI c.2.1)::d
@[simp] abbrev Y4 (a:List XPairint64) (b:XQuery) (c:Cat) (d:List Int × (List (XPairint64 × Int))) (e:List (List Int) × Int) (f:List (Nat × Ent)):List (Nat × Ent):=(0,.row 2 (Es (XPairint64.cells true) a))::(1,.mix 9 [(Y0o b (Y0n c [.own 6 0 d.1.length,.own 7 0 e.1.length,.mp 8]))])::(2,rI c.fr)::(3,rI c.to)::(4,rI c.id)::(5,.row 1 (Ls c.cs))::(6,rI d.1)::(7,.row 1 (Ls e.1))::(8,.mapE (.st 2) (Qi d.2))::f
@[simp] abbrev Y6 (a:XQuery) (b:List Int × Int) (c:List Int) (d:List (Nat × Ent)):List (Nat × Ent):=(2,.mix 2 [(XTerm.cells true (gx a.left_ b.2))])::(3,.mix 2 [(XTerm.cells true (gx a.right_ b.2))])::(4,rI c)::d
@[simp] abbrev Y7 (a:List XPairint64) (b:List (Nat × Ent)):List (Nat × Ent):=(0,.row 2 (Es (XPairint64.cells true) a))::b
@[simp] abbrev Ya (a:Cat) (b:XQuery) (c:List (Nat × AV)):List (Nat × AV):=(0,.rptr (Cat.cells true a))::(1,.rptr (XQuery.cells true b))::c
@[simp] abbrev Yd (a:Cat) (b:List XPairint64) (c:List (Nat × AV)):List (Nat × AV):=(0,.rptr (Cat.cells true a))::(6,.own 0 0 b.length)::c
@[simp] abbrev Yk (a:List Int × List Int × (List (XPairint64 × Int)) × Int) (b:List Int × List Int × List XPairint64 × Int) (c:List XPairint64) (d:List (Nat × Ent)):List (Nat × Ent):=(8,.mapE (.st 2) (Qi a.2.2.1))::(9,rI b.2.1)::(10,.row 2 (Es (XPairint64.cells true) b.2.2.1))::(11,.mix 2 [(XPairint64.cells true (gx c b.2.2.2))])::d
@[simp] abbrev Yl (a:XQuery) (b:Cat) (c:List Int × (List (XPairint64 × Int))) (d:List (List Int)) (e:List (Nat × Ent)):List (Nat × Ent):=(0,.mix 9 [(Y0o a [iV b.n,.own 1 0 b.fr.length,.own 2 0 b.to.length,.own 3 0 b.id.length,.own 4 0 b.cs.length,.own 5 0 c.1.length,.own 6 0 d.length,.mp 7])])::(1,rI b.fr)::(2,rI b.to)::(3,rI b.id)::(4,.row 1 (Ls b.cs))::(5,rI c.1)::(6,.row 1 (Ls d))::(7,.mapE (.st 2) (Qi c.2))::e
@[simp] abbrev Ys (a:XQuery) (b:Cat) (c:List Int × (List (XPairint64 × Int))) (d:List (Nat × Ent)):List (Nat × Ent):=(1,.mix 9 [(Y0o a (Y0n b [.own 6 0 c.1.length,nS,.mp 7]))])::(2,rI b.fr)::(3,rI b.to)::(4,rI b.id)::(5,.row 1 (Ls b.cs))::(6,rI c.1)::(7,.mapE (.st 2) (Qi c.2))::d
@[simp] abbrev Yu (a:List XPairint64) (b:List (XPairint64 × Int)) (c:List (Nat × AV)):List (Nat × AV):=(6,.own 0 0 a.length)::(11,.cmap (.st 2) (Qi b))::c
@[simp] abbrev Yv (a:XQuery) (b:List (Nat × AV)):List (Nat × AV):=(35,lI a.variables_)::(36,iV (a.variables_.length:Int))::b
@[simp] abbrev YF (a:List Int × List Int × (List (XPairint64 × Int)) × Int) (b:List (Nat × Ent)):List (Nat × Ent):=(8,.mapE (.st 2) (Qi a.2.2.1))::b
@[simp] abbrev YG (a:Cat) (b:List Int × List Int × (List (XPairint64 × Int)) × Int) (c:List XPairint64) (d:List (Nat × AV)):List (Nat × AV):=(134,iV a.n)::(135,iV b.2.2.2)::(140,.own 0 0 c.length)::(141,iV (c.length:Int))::d
@[simp] abbrev YO (a:List Int × List Int × List XPairint64) (b:List (Nat × AV)):List (Nat × AV):=(12,.own 1 0 a.1.length)::(18,.adr 2 0 0)::b
@[simp] abbrev YS (a:Cat) (b:List (List Int) × Int) (c:List (Nat × AV)):List (Nat × AV):=(212,iV (a.fr.length:Int))::(213,iV b.2)::c
@[simp] abbrev YV (a:XQuery) (b:List Int × Int) (c:List Int) (d:List (Nat × AV)):List (Nat × AV):=(67,iV (a.left_.length:Int))::(68,iV b.2)::(94,.own 4 0 c.length)::(95,iV (c.length:Int))::d
@[simp] abbrev Y08 (a:List Int × Int) (b:List (Nat × AV)):List (Nat × AV):=(12,.own 1 0 a.1.length)::(14,.adr 2 0 0)::(15,.adr 3 0 0)::b
@[simp] abbrev Y0a (a:List Int × Int) (b:List (Nat × AV)):List (Nat × AV):=(0,.own 1 0 ((a.1.set a.2.toNat (ix a.1 (ix a.1 a.2))).length))::(1,iV a.2)::b
@[simp] abbrev Y0c (a:XQuery) (b:Cat) (c:List (Nat × Ent)):List (Nat × Ent):=(2,.mix 9 [(Y0o a (Y0l b [nS,nS,.mp 7]))])::c
@[simp] abbrev Y0g (a:List Int × List Int × (List (XPairint64 × Int)) × Int) (b:List (Nat × AV)):List (Nat × AV):=(12,.own 1 0 a.1.length)::(18,.adr 2 0 0)::(19,iV a.2.2.2)::(20,.own 9 0 0)::(21,.own 10 0 0)::b
@[simp] abbrev Y0j (a:List XPairint64 × Int) (b:List (Nat × Ent)):List (Nat × Ent):=(0,.row 2 (Es (XPairint64.cells true) a.1))::b
theorem Q3P (c_:Cat) (q_:XQuery) (v433:Unit ⊕ (Int × List Int × List Int × List Int × List (List Int) × List Int × List (List Int) × (List (XPairint64 × Int)))) (h:QO c_ q_=some v433):ICon Try.prog 36 [.rptr (c_.cells true),.rptr (q_.cells true)] (fun _=>none) 0 (match v433 with|.inl v433=>({ v:=.tup [.val (.pointer none),.val (.bool false)],set:=[],del:=[],new:=[],cnt:=0 }:Eff)|.inr v433=>({ v:=.tup [.adr 0 0 0,.val (.bool true)],set:=[],del:=[],new:=[(0,.mix 9 [(Y0o q_ [iV v433.1,.own 1 0 v433.2.1.length,.own 2 0 v433.2.2.1.length,.own 3 0 v433.2.2.2.1.length,.own 4 0 v433.2.2.2.2.1.length,.own 5 0 v433.2.2.2.2.2.1.length,.own 6 0 v433.2.2.2.2.2.2.1.length,.mp 7])]),(1,rI v433.2.1),(2,rI v433.2.2.1),(3,rI v433.2.2.2.1),(4,.row 1 (Ls v433.2.2.2.2.1)),(5,rI v433.2.2.2.2.2.1),(6,.row 1 (Ls v433.2.2.2.2.2.2.1)),(7,.mapE (.st 2) (Qi v433.2.2.2.2.2.2.2))],cnt:=8 }:Eff)):=by
 refine Q2K (ts:=[4,5]) (H:=[]) Try.func36 rfl rfl rfl (by simp [Try.f36]) (by simp) (Qak (by rcases v433 with v433|v433<;>simp)) (newI (by rcases v433 with v433|v433<;>rfl)) fun F hN hP=>?_;unfold QO at h;refine Q1 (Qn [] mo (by rw [hN];decide) fun K hK=>?_);simp;repeat refine sdQ ?_
 refine hK _ ?_;clear hK K;refine tn (Q4 (st':=⟨Ya c_ q_ [],[],0⟩) (QD []) (Q1 (Qn [] mo (by rw [hN];decide) fun K hK=>?_)));simp;repeat refine sdQ ?_
 refine hK _ ?_;clear hK K;refine tn (Q4 (st':=⟨Ya c_ q_ [(6,.own 0 0 0)],[(0,.mix 2 [])],1⟩) (QD [(0,0)]) (Q1 (Q1 (Qn [] mo (by rw [hN];decide) fun K hK=>?_))));simp;repeat refine sdQ ?_
 refine hK _ (tn (Q4 (st':=⟨Ya c_ q_ ((6,.own 0 0 0)::Yv q_ [(37,iV 0)]),[(0,.mix 2 [])],1⟩) (QD [(0,0)]) ?_));clear hK K;replace ⟨e2,h,h2⟩:=bind_some h;refine Qk (fun b2:List XPairint64=>⟨Ya c_ q_ [(6,.own 0 0 b2.length)],Y7 b2 [],1⟩) (fun b2=>b2=e2) ?_ ?_
 ·refine Q7 (Qu h (fun s17:List XPairint64 × Int=>⟨Ya c_ q_ ((6,.own 0 0 s17.1.length)::Yv q_ [(37,iV s17.2)]),Y0j s17 [],1⟩) (Q2V ⟨Ya c_ q_ ((6,.own 0 0 0)::Yv q_ [(37,iV 0)]),[(0,.row 2 (Es (XPairint64.cells true) []))],1⟩ (Wk.nils [] (by simp) (by simp) (by simp [nlA]) (by simp [entN,nlL,nlA,Cat.cells,XPairint64.cells,XQuery.cells,XTerm.cells,UA,U1,IA,I1,LA,L1,BA,B1,EA,E1,E2,eB,eI,eL,Q5 _ Qg _ (fun _=>rfl),Q5 _ Q6 _ (fun _=>rfl),Q5 _ Qe _ (fun _=>rfl),Q5 _ (XPairint64.cells true) _ (fun _=>rfl)]) (by simp)) (QD [(0,0)])) ?_);clear h;intro k17 s17 c17 h hk17;refine Q1 (Qn [] mo (by rw [hN];decide) fun K hK=>?_);simp;repeat refine sdQ ?_
  refine hK _ ?_;clear hK K;refine tn (Q1 (Qa rfl (fun g=>?_) fun g=>?_))
  ·have g18:s17.2<(q_.variables_.length:Int):=gQ;clear g;replace h:=if_l g18 h;refine Qc (tn (Q1 ?_));replace ⟨e19,h,h19⟩:=bind_some h;refine Qk (fun b19:List XPairint64=>⟨Ya c_ q_ ((6,.own 0 0 b19.length)::Yv q_ [(37,iV s17.2)]),Y7 b19 [],1⟩) (fun b19=>b19=e19) ?_ ?_
   ·refine Q7 (Q1 (Qn [] mo (by rw [hN];decide) fun K hK=>?_));replace ⟨a20,h⟩:=Q0 h;simp [at_I a20];(repeat refine sdQ ?_);refine hK _ ?_;clear hK K;refine tn (Q4 (st':=⟨Ya c_ q_ ((6,.own 0 0 s17.1.length)::(7,iV s17.2)::(8,iV (ix q_.variables_ s17.2))::Yv q_ [(37,iV s17.2)]),Y0j s17 [],1⟩) (QD [(0,0)]) (Q1 (Qn [] mo (by rw [hN];decide) fun K hK=>?_)));simp;(repeat with_reducible refine sdQ ?_);replace ⟨v21,hv21,h⟩:=bind_some h;refine QU (fz:=[]) (Q33 _ _ v21 hv21) (.cons (.preT (by simp [Cat.cells,XPairint64.cells,XQuery.cells])) (.cons .val .nil)) ?_;simp;(repeat refine sdQ ?_);refine hK _ (tn (Q4 (st':=⟨Ya c_ q_ ((6,.own 0 0 s17.1.length)::(7,iV s17.2)::Yv q_ [(37,iV s17.2),(44,.own 1 0 v21.length),(45,iV (v21.length:Int)),(46,iV 0)]),Y0j s17 [(1,rI v21)],2⟩) (QD [(0,0),(1,1)]) (Q7 ?_)));clear hK K;replace ⟨e26,he26,h26⟩:=bind_some h;refine Qu he26 (fun s26:List XPairint64 × Int=>⟨Ya c_ q_ ((6,.own 0 0 s26.1.length)::(7,iV s17.2)::Yv q_ [(37,iV s17.2),(44,.own 1 0 v21.length),(45,iV (v21.length:Int)),(46,iV s26.2)]),Y0j s26 [(1,rI v21)],2⟩) (QD [(0,0),(1,1)]) ?_;intro k26 s26 c26 h hk26;refine Q1 (Qn [] mo (by rw [hN];decide) fun K hK=>?_);simp;(repeat refine sdQ ?_);refine hK _ ?_;clear hK K;refine tn (Q1 (Qa rfl (fun g=>?_) fun g=>?_))
    ·have g27:s26.2<(v21.length:Int):=gQ;clear g;replace h:=if_l g27 h;refine Qc (tn (Q1 (Q7 (Q1 (Qn [] mo (by rw [hN];decide) fun K hK=>?_)))));replace ⟨a28,h⟩:=Q0 h;simp [at_I a28];(repeat refine sdQ ?_);refine hK _ ?_;clear hK K;refine tn (Q4 (st':=⟨Ya c_ q_ ((6,.own 0 0 s26.1.length)::(7,iV s17.2)::(10,iV (ix v21 s26.2))::Yv q_ [(37,iV s17.2),(44,.own 1 0 v21.length),(45,iV (v21.length:Int)),(46,iV s26.2)]),Y0j s26 [(1,rI v21)],2⟩) (QD [(0,0),(1,1)]) (Qn [] mo (by rw [hN];decide) fun K hK=>?_));replace ⟨a29,h⟩:=Q0 h;(try simp only [qE,qG,zB] at a29);simp [a29];(repeat refine sdQ ?_);refine hK _ ?_;clear hK K;refine bn (tn (Q4 (st':=⟨Ya c_ q_ ((6,.own 0 0 ((s26.1++[(⟨s17.2,ix v21 s26.2⟩:XPairint64)]).length))::(7,iV s17.2)::Yv q_ [(37,iV s17.2),(44,.own 1 0 v21.length),(45,iV (v21.length:Int)),(46,iV s26.2)]),[(0,.row 2 (Es (XPairint64.cells true) (s26.1++[(⟨s17.2,ix v21 s26.2⟩:XPairint64)]))),(1,rI v21)],2⟩) (QD [(3,0),(1,1)]) (Qn [] mo (by rw [hN];decide) fun K hK=>?_)));replace ⟨a30,h⟩:=Q0 h;simp [Qm a30];(repeat refine sdQ ?_);refine hK _ ?_;clear hK K;cases h;exact rn (s':=(s26.1++[(⟨s17.2,ix v21 s26.2⟩:XPairint64)],s26.2+1)) hk26 (QD [(0,0),(1,1)])
    have g27:¬ (s26.2<(v21.length:Int)):=gQ;clear g;replace h:=if_r g27 h;refine Qp (tx (lx (bh (bn ?_))));cases h;have q:_=e26:=hk26;have h:=h26;rw [← q] at h;clear q;(try dsimp only at h);exact jn (b:=s26.1) (zC h) (QD [(0,0)])
   intro b19 hb19;have h:=h19;(try rw [← hb19] at h);clear h19;(try dsimp only at h);refine Qn [] mo (by rw [hN];decide) fun K hK=>?_;replace ⟨a31,h⟩:=Q0 h;simp [Qm a31];(repeat refine sdQ ?_);refine hK _ ?_;clear hK K;cases h;exact rn (s':=(b19,s17.2+1)) hk17 (QD [(0,0)])
  have g18:¬ (s17.2<(q_.variables_.length:Int)):=gQ;clear g;replace h:=if_r g18 h;refine Qp (tx (lx (bh ?_)));cases h;exact jn (b:=s17.1) hk17 (QD [(0,0)])
 intro b2 hb2;have h:=h2;try rw [← hb2] at h
 clear h2;try dsimp only at h
 refine Q1 (Qn [] mo (by rw [hN];decide) fun K hK=>?_);simp;repeat with_reducible refine sdQ ?_
 replace ⟨v32,hv32,h⟩:=bind_some h;refine Q5P (fz:=[]) false (Q1m _ v32 hv32) (PurK.ofL (.cons .w .nil)) ?_;simp;repeat refine sdQ ?_
 refine hK _ ?_;clear hK K;refine tn (Q4 (st':=⟨Ya c_ q_ (Yu b2 v32 []),Y7 b2 [],1⟩) (QD [(0,0)]) (Q1 (Qn [] mo (by rw [hN];decide) fun K hK=>?_)));simp;repeat with_reducible refine sdQ ?_
 replace ⟨v33,hv33,h⟩:=bind_some h;refine QU (fz:=[]) (Q8k _ v33 hv33) (.cons .val .nil) ?_;simp;repeat refine sdQ ?_
 refine hK _ ?_;clear hK K;refine tn (Q4 (st':=⟨Ya c_ q_ (Yu b2 v32 [(12,.own 1 0 v33.length)]),Y7 b2 [(1,rI v33)],2⟩) (QD [(0,0),(1,1)]) (Q1 (Q1 (Qn [] mo (by rw [hN];decide) fun K hK=>?_))));simp;repeat refine sdQ ?_
 refine hK _ (tn (Q4 (st':=⟨Ya c_ q_ (Yu b2 v32 [(12,.own 1 0 v33.length),(67,iV (q_.left_.length:Int)),(68,iV 0)]),Y7 b2 [(1,rI v33)],2⟩) (QD [(0,0),(1,1)]) ?_));clear hK K;replace ⟨e34,h,h34⟩:=bind_some h;refine Qk (fun b34:List Int=>⟨Ya c_ q_ [(6,.own 0 0 b2.length),(12,.own 1 0 b34.length)],Y7 b2 [(1,rI b34)],2⟩) (fun b34=>b34=e34) ?_ ?_
 ·refine Q7 (Qu h (fun s133:List Int × Int=>⟨Ya c_ q_ (Yu b2 v32 [(12,.own 1 0 s133.1.length),(67,iV (q_.left_.length:Int)),(68,iV s133.2)]),Y7 b2 [(1,rI s133.1)],2⟩) (QD [(0,0),(1,1)]) ?_);clear h;intro k133 s133 c133 h hk133;refine Q1 (Qn [] mo (by rw [hN];decide) fun K hK=>?_);simp;repeat refine sdQ ?_
  refine hK _ ?_;clear hK K;refine tn (Q1 (Qa rfl (fun g=>?_) fun g=>?_))
  ·have g134:s133.2<(q_.left_.length:Int):=gQ;clear g;replace h:=if_l g134 h;refine Qc (tn (Q1 ?_));replace ⟨e135,h,h135⟩:=bind_some h;refine Qk (fun b135:List Int=>⟨Ya c_ q_ (Yu b2 v32 [(12,.own 1 0 b135.length),(67,iV (q_.left_.length:Int)),(68,iV s133.2)]),Y7 b2 [(1,rI b135)],2⟩) (fun b135=>b135=e135) ?_ ?_
   ·refine Q7 (Q1 (Qn [] mo (by rw [hN];decide) fun K hK=>?_));simp;(repeat refine sdQ ?_);refine hK _ ?_;clear hK K;refine tn (Q4 (st':=⟨Ya c_ q_ (Yu b2 v32 [(12,.own 1 0 s133.1.length),(13,iV s133.2),(67,iV (q_.left_.length:Int)),(68,iV s133.2)]),Y7 b2 [(1,rI s133.1)],2⟩) (QD [(0,0),(1,1)]) (Q1 (w_runXS [] mo (by rw [hN];decide) fun K hK=>?_)));replace ⟨a136,h⟩:=Q0 h;replace ⟨a137,h⟩:=Q0 h;simp [at_E (c:=(XTerm.cells true)) a136,at_E (c:=(XTerm.cells true)) a137];(repeat refine sdQ ?_);refine hK _ ?_;clear hK K;refine tn (Q4 (st':=⟨Ya c_ q_ (Yu b2 v32 (Y08 s133 [(67,iV (q_.left_.length:Int)),(68,iV s133.2)])),Y7 b2 [(1,rI s133.1),(2,.mix 2 [(XTerm.cells true (gx q_.left_ s133.2))]),(3,.mix 2 [(XTerm.cells true (gx q_.right_ s133.2))])],4⟩) (Q2j 4) (Q1 (Qn [] mo (by rw [hN];decide) fun K hK=>?_)));replace ⟨a138,h⟩:=Q0 h;simp [at_I a138];(repeat with_reducible refine sdQ ?_);replace ⟨v139,hv139,h⟩:=bind_some h;refine QU (fz:=[]) (Q33 _ _ v139 hv139) (.cons (.preT (by simp [Cat.cells,XPairint64.cells,XQuery.cells,XTerm.cells])) (.cons .val .nil)) ?_;simp [at_I a138];(repeat refine sdQ ?_);refine hK _ (tn (Q4 (st':=⟨Ya c_ q_ (Yu b2 v32 (Y08 s133 (YV q_ s133 v139 [(96,iV 0)]))),Y7 b2 ((1,rI s133.1)::Y6 q_ s133 v139 []),5⟩) (Q2j 5) (Q7 ?_)));clear hK K;replace ⟨e185,he185,h185⟩:=bind_some h;refine Qu he185 (fun s185:List Int × Int=>⟨Ya c_ q_ (Yu b2 v32 (Y08 s185 (YV q_ s133 v139 [(96,iV s185.2)]))),Y7 b2 ((1,rI s185.1)::Y6 q_ s133 v139 []),5⟩) (Q2j 5) ?_;intro k185 s185 c185 h hk185;refine Q1 (Qn [] mo (by rw [hN];decide) fun K hK=>?_);simp;(repeat refine sdQ ?_);refine hK _ (tn (Q1 ?_));clear hK K
    refine Qa rfl (fun g=>?_) fun g=>?_
    ·have g186:s185.2<(v139.length:Int):=gQ;clear g;replace h:=if_l g186 h;refine Qc (tn (Q1 (Q7 (Q1 (Qn [] mo (by rw [hN];decide) fun K hK=>?_)))));replace ⟨a187,h⟩:=Q0 h;simp [at_I a187];(repeat refine sdQ ?_);refine hK _ ?_;clear hK K;refine tn (Q4 (st':=⟨Ya c_ q_ (Yu b2 v32 (Y08 s185 ((17,iV (ix v139 s185.2))::YV q_ s133 v139 [(96,iV s185.2)]))),Y7 b2 ((1,rI s185.1)::Y6 q_ s133 v139 []),5⟩) (Q2j 5) (w_runXR false [] [76] mo (by rw [hN];decide) fun K hK=>?_));simp;(repeat with_reducible refine sdQ ?_);replace ⟨v188,hv188,h⟩:=bind_some h;refine QU (fz:=[]) (Q2i _ _ _ v188 hv188) (.cons (.preT (by simp [Cat.cells,XPairint64.cells,XQuery.cells,XTerm.cells])) (.cons .val (.cons .val .nil))) ?_;simp;(repeat with_reducible refine sdQ ?_);replace ⟨v189,hv189,h⟩:=bind_some h;refine QU (fz:=[]) (Q2i _ _ _ v189 hv189) (.cons (.preT (by simp [Cat.cells,XPairint64.cells,XQuery.cells,XTerm.cells])) (.cons .val (.cons .val .nil))) ?_;simp;(repeat with_reducible refine sdQ ?_);replace ⟨v228,hv228,h⟩:=bind_some h;refine Q4w (fz:=[]) (Q2K (ts:=[6]) (e:={ v:=.val (.bool v228.2),set:=[(1,rI v228.1)],del:=[],new:=[],cnt:=0 }) Try.func75 rfl rfl rfl (by simp [Try.f75]) (by simp) (Qak (by simp)) (newI (by rfl)) fun F hN hP=>?_) ?_
     ·clear h;have h:=hv228;clear hv228;refine Q1 (Qn [] mo (by rw [hN];decide) fun K hK=>?_);simp;(repeat refine sdQ ?_);refine hK _ ?_;clear hK K;refine tn (Q4 (st':=⟨[(0,.own 1 0 s185.1.length),(1,iV ((QV (⟨(gx q_.left_ s133.2).variable_,v188⟩:XPairint64) v32).getD 0)),(2,iV ((QV (⟨(gx q_.right_ s133.2).variable_,v189⟩:XPairint64) v32).getD 0))],Y7 b2 ((1,rI s185.1)::Y6 q_ s133 v139 []),7⟩) (Q5a 7 hP) (Q1 (Q9c [] mo (by rw [hN];decide) fun K hK=>?_)));simp;(repeat with_reducible refine sdQ ?_);replace ⟨v207,hv207,h⟩:=bind_some h;refine Q4w (fz:=[]) (Q2K (ts:=[4]) (e:={ v:=.val (.int .i64 v207.2),set:=[(1,rI v207.1)],del:=[],new:=[],cnt:=0 }) Try.func78 rfl rfl rfl (by simp [Try.f78]) (by simp) (Qak (by simp)) (newI (by rfl)) fun F hN hP=>?_) ?_
      ·clear h;have h:=hv207;clear hv207;refine Q1 (Qn [] mo (by rw [hN];decide) fun K hK=>?_);simp;(repeat refine sdQ ?_);refine hK _ (tn (Q4 (st':=⟨[(0,.own 1 0 s185.1.length),(1,iV ((QV (⟨(gx q_.left_ s133.2).variable_,v188⟩:XPairint64) v32).getD 0))],Y7 b2 ((1,rI s185.1)::Y6 q_ s133 v139 []),7⟩) (Q5a 7 hP) (Q1 ?_)));clear hK K;replace ⟨e192,h,h192⟩:=bind_some h;refine Qk (fun b192:List Int × Int=>⟨[(1,iV b192.2)],Y7 b2 ((1,rI b192.1)::Y6 q_ s133 v139 []),7⟩) (fun b192=>b192=e192) ?_ ?_
       ·refine Q7 (Qu h (fun s200:List Int × Int=>⟨[(0,.own 1 0 s200.1.length),(1,iV s200.2)],Y7 b2 ((1,rI s200.1)::Y6 q_ s133 v139 []),7⟩) (Q5a 7 hP) ?_);clear h;intro k200 s200 c200 h hk200;refine Q1 (Q1 (Qn [] mo (by rw [hN];decide) fun K hK=>?_));replace ⟨a201,h⟩:=Q0 h;simp [at_I a201];(repeat refine sdQ ?_);refine hK _ ?_;clear hK K;refine tn (Qa rfl (fun g=>?_) fun g=>?_)
        ·have g202:¬ ((ix s200.1 s200.2)=s200.2):=gQ;clear g;replace h:=if_l g202 h;refine Qc (tn (Q7 (Q1 (Qn [] mo (by rw [hN];decide) fun K hK=>?_))));replace ⟨a203,h⟩:=Q0 h;replace ⟨a204,h⟩:=Q0 h;replace ⟨a205,h⟩:=Q0 h;simp [at_I a203,at_I a204,at_I a205];(repeat refine sdQ ?_);refine hK _ ?_;clear hK K;refine tn (Q4 (st':=⟨Y0a s200 [],Y7 b2 ((1,rI (s200.1.set s200.2.toNat (ix s200.1 (ix s200.1 s200.2))))::Y6 q_ s133 v139 []),7⟩) (Q5a 7 hP) (Qn [] mo (by rw [hN];decide) fun K hK=>?_));replace ⟨a206,h⟩:=Q0 h;simp [at_I a206];(repeat refine sdQ ?_);refine hK _ (bn ?_);clear hK K;cases h;exact rn (s':=(s200.1.set s200.2.toNat (ix s200.1 (ix s200.1 s200.2)),ix (s200.1.set s200.2.toNat (ix s200.1 (ix s200.1 s200.2))) s200.2)) hk200 (Q5a 7 hP)
        have g202:¬ (¬ ((ix s200.1 s200.2)=s200.2)):=gQ;clear g;replace h:=if_r g202 h;refine Qp (tx (lx (bh ?_)));cases h;exact jn (b:=(s200.1,s200.2)) hk200 (Q5a 7 hP)
       intro b192 hb192;have h:=h192;(try rw [← hb192] at h);clear h192;(try dsimp only at h);refine Q1 (Qn [] mo (by rw [hN];decide) fun K hK=>?_);simp;(repeat refine sdQ ?_);refine hK _ (tn (Q4 (st':=⟨[(4,iV b192.2)],Y7 b2 ((1,rI b192.1)::Y6 q_ s133 v139 []),7⟩) (Q5a 7 hP) (Ql ?_)));clear hK K;cases h;first|refine iw_r (st':=⟨[(4,iV b192.2)],Y7 b2 ((1,rI b192.1)::Y6 q_ s133 v139 []),7⟩) ?_ ?_|refine iw_n (st':=⟨[(4,iV b192.2)],Y7 b2 ((1,rI b192.1)::Y6 q_ s133 v139 []),7⟩) ?_ ?_
       ·exact Wk.rP _ [(0,0),(1,1),(2,2),(3,3),(4,4),(5,5),(6,6)] hP (by rfl) (by simp [hhOk,back,Cat.cells,XPairint64.cells,XQuery.cells,XTerm.cells,UA,U1,IA,I1,LA,L1,BA,B1,EA,E1,E2,eB,eI,eL,Q5 _ Qg _ (fun _=>rfl),Q5 _ Q6 _ (fun _=>rfl),Q5 _ Qe _ (fun _=>rfl),Q5 _ (XPairint64.cells true) _ (fun _=>rfl)])
       exact ⟨by simp [Q1e],by simp,by simp [Cat.cells,XPairint64.cells,XQuery.cells,XTerm.cells]⟩
      replace ⟨a208,h⟩:=Q0 h;simp;(repeat with_reducible refine sdQ ?_);replace ⟨v225,hv225,h⟩:=bind_some h;refine Q4w (fz:=[]) (Q2K (ts:=[4]) (e:={ v:=.val (.int .i64 v225.2),set:=[(1,rI v225.1)],del:=[],new:=[],cnt:=0 }) Try.func78 rfl rfl rfl (by simp [Try.f78]) (by simp) (Qak (by simp)) (newI (by rfl)) fun F hN hP=>?_) ?_
      ·clear h;have h:=hv225;clear hv225;refine Q1 (Qn [] mo (by rw [hN];decide) fun K hK=>?_);simp;(repeat refine sdQ ?_);refine hK _ (tn (Q4 (st':=⟨[(0,.own 1 0 v207.1.length),(1,iV ((QV (⟨(gx q_.right_ s133.2).variable_,v189⟩:XPairint64) v32).getD 0))],Y7 b2 ((1,rI v207.1)::Y6 q_ s133 v139 []),7⟩) (Wk.rP _ [(0,0),(1,1),(2,2),(3,3),(4,4),(5,5),(6,6)] hP (by rfl) (by simp [hhOk,back,Cat.cells,XPairint64.cells,XQuery.cells,XTerm.cells,UA,U1,IA,I1,LA,L1,BA,B1,EA,E1,E2,eB,eI,eL,Q5 _ Qg _ (fun _=>rfl),Q5 _ Q6 _ (fun _=>rfl),Q5 _ Qe _ (fun _=>rfl),Q5 _ (XPairint64.cells true) _ (fun _=>rfl),a208])) (Q1 ?_)));clear hK K;replace ⟨e210,h,h210⟩:=bind_some h;refine Qk (fun b210:List Int × Int=>⟨[(1,iV b210.2)],Y7 b2 ((1,rI b210.1)::Y6 q_ s133 v139 []),7⟩) (fun b210=>b210=e210) ?_ ?_
       ·refine Q7 (Qu h (fun s218:List Int × Int=>⟨[(0,.own 1 0 s218.1.length),(1,iV s218.2)],Y7 b2 ((1,rI s218.1)::Y6 q_ s133 v139 []),7⟩) (Wk.rP _ [(0,0),(1,1),(2,2),(3,3),(4,4),(5,5),(6,6)] hP (by rfl) (by simp [hhOk,back,Cat.cells,XPairint64.cells,XQuery.cells,XTerm.cells,UA,U1,IA,I1,LA,L1,BA,B1,EA,E1,E2,eB,eI,eL,Q5 _ Qg _ (fun _=>rfl),Q5 _ Q6 _ (fun _=>rfl),Q5 _ Qe _ (fun _=>rfl),Q5 _ (XPairint64.cells true) _ (fun _=>rfl),a208])) ?_);clear h;intro k218 s218 c218 h hk218;refine Q1 (Q1 (Qn [] mo (by rw [hN];decide) fun K hK=>?_));replace ⟨a219,h⟩:=Q0 h;simp [at_I a219];(repeat refine sdQ ?_);refine hK _ ?_;clear hK K;refine tn (Qa rfl (fun g=>?_) fun g=>?_)
        ·have g220:¬ ((ix s218.1 s218.2)=s218.2):=gQ;clear g;replace h:=if_l g220 h;refine Qc (tn (Q7 (Q1 (Qn [] mo (by rw [hN];decide) fun K hK=>?_))));replace ⟨a221,h⟩:=Q0 h;replace ⟨a222,h⟩:=Q0 h;replace ⟨a223,h⟩:=Q0 h;simp [at_I a221,at_I a222,at_I a223];(repeat refine sdQ ?_);refine hK _ ?_;clear hK K;refine tn (Q4 (st':=⟨Y0a s218 [],Y7 b2 ((1,rI (s218.1.set s218.2.toNat (ix s218.1 (ix s218.1 s218.2))))::Y6 q_ s133 v139 []),7⟩) (Wk.rP _ [(0,0),(1,1),(2,2),(3,3),(4,4),(5,5),(6,6)] hP (by rfl) (by simp [hhOk,back,Cat.cells,XPairint64.cells,XQuery.cells,XTerm.cells,UA,U1,IA,I1,LA,L1,BA,B1,EA,E1,E2,eB,eI,eL,Q5 _ Qg _ (fun _=>rfl),Q5 _ Q6 _ (fun _=>rfl),Q5 _ Qe _ (fun _=>rfl),Q5 _ (XPairint64.cells true) _ (fun _=>rfl),a208])) (Qn [] mo (by rw [hN];decide) fun K hK=>?_));replace ⟨a224,h⟩:=Q0 h;simp [at_I a224];(repeat refine sdQ ?_);refine hK _ (bn ?_);clear hK K;cases h;exact rn (s':=(s218.1.set s218.2.toNat (ix s218.1 (ix s218.1 s218.2)),ix (s218.1.set s218.2.toNat (ix s218.1 (ix s218.1 s218.2))) s218.2)) hk218 (Wk.rP _ [(0,0),(1,1),(2,2),(3,3),(4,4),(5,5),(6,6)] hP (by rfl) (by simp [hhOk,back,Cat.cells,XPairint64.cells,XQuery.cells,XTerm.cells,UA,U1,IA,I1,LA,L1,BA,B1,EA,E1,E2,eB,eI,eL,Q5 _ Qg _ (fun _=>rfl),Q5 _ Q6 _ (fun _=>rfl),Q5 _ Qe _ (fun _=>rfl),Q5 _ (XPairint64.cells true) _ (fun _=>rfl),a208]))
        have g220:¬ (¬ ((ix s218.1 s218.2)=s218.2)):=gQ;clear g;replace h:=if_r g220 h;refine Qp (tx (lx (bh ?_)));cases h;exact jn (b:=(s218.1,s218.2)) hk218 (Wk.rP _ [(0,0),(1,1),(2,2),(3,3),(4,4),(5,5),(6,6)] hP (by rfl) (by simp [hhOk,back,Cat.cells,XPairint64.cells,XQuery.cells,XTerm.cells,UA,U1,IA,I1,LA,L1,BA,B1,EA,E1,E2,eB,eI,eL,Q5 _ Qg _ (fun _=>rfl),Q5 _ Q6 _ (fun _=>rfl),Q5 _ Qe _ (fun _=>rfl),Q5 _ (XPairint64.cells true) _ (fun _=>rfl),a208]))
       intro b210 hb210;have h:=h210;(try rw [← hb210] at h);clear h210;(try dsimp only at h);refine Q1 (Qn [] mo (by rw [hN];decide) fun K hK=>?_);simp;(repeat refine sdQ ?_);refine hK _ (tn (Q4 (st':=⟨[(4,iV b210.2)],Y7 b2 ((1,rI b210.1)::Y6 q_ s133 v139 []),7⟩) (Wk.rP _ [(0,0),(1,1),(2,2),(3,3),(4,4),(5,5),(6,6)] hP (by rfl) (by simp [hhOk,back,Cat.cells,XPairint64.cells,XQuery.cells,XTerm.cells,UA,U1,IA,I1,LA,L1,BA,B1,EA,E1,E2,eB,eI,eL,Q5 _ Qg _ (fun _=>rfl),Q5 _ Q6 _ (fun _=>rfl),Q5 _ Qe _ (fun _=>rfl),Q5 _ (XPairint64.cells true) _ (fun _=>rfl),a208])) (Ql ?_)));clear hK K;cases h;first|refine iw_r (st':=⟨[(4,iV b210.2)],Y7 b2 ((1,rI b210.1)::Y6 q_ s133 v139 []),7⟩) ?_ ?_|refine iw_n (st':=⟨[(4,iV b210.2)],Y7 b2 ((1,rI b210.1)::Y6 q_ s133 v139 []),7⟩) ?_ ?_
       ·exact Wk.rP _ [(0,0),(1,1),(2,2),(3,3),(4,4),(5,5),(6,6)] hP (by rfl) (by simp [hhOk,back,Cat.cells,XPairint64.cells,XQuery.cells,XTerm.cells,UA,U1,IA,I1,LA,L1,BA,B1,EA,E1,E2,eB,eI,eL,Q5 _ Qg _ (fun _=>rfl),Q5 _ Q6 _ (fun _=>rfl),Q5 _ Qe _ (fun _=>rfl),Q5 _ (XPairint64.cells true) _ (fun _=>rfl),a208])
       exact ⟨by simp [Q1e],by simp,by simp [Cat.cells,XPairint64.cells,XQuery.cells,XTerm.cells]⟩
      replace ⟨a226,h⟩:=Q0 h;simp;(repeat refine sdQ ?_);refine hK _ ?_;clear hK K;refine tn (Q4 (st':=⟨[(0,.own 1 0 v225.1.length),(7,iV v207.2),(8,iV v225.2)],Y7 b2 ((1,rI v225.1)::Y6 q_ s133 v139 []),7⟩) (Wk.rP _ [(0,0),(1,1),(2,2),(3,3),(4,4),(5,5),(6,6)] hP (by rfl) (by simp [hhOk,back,Cat.cells,XPairint64.cells,XQuery.cells,XTerm.cells,UA,U1,IA,I1,LA,L1,BA,B1,EA,E1,E2,eB,eI,eL,Q5 _ Qg _ (fun _=>rfl),Q5 _ Q6 _ (fun _=>rfl),Q5 _ Qe _ (fun _=>rfl),Q5 _ (XPairint64.cells true) _ (fun _=>rfl),a208,a226])) (Q1 (Qn [] mo (by rw [hN];decide) fun K hK=>?_)));replace ⟨a227,h⟩:=Q0 h;simp [at_I a227];(repeat refine sdQ ?_);refine hK _ ?_;clear hK K;refine tn (Q4 (st':=⟨[(7,iV v207.2),(8,iV v225.2)],Y7 b2 ((1,rI (v225.1.set ((if v225.2 > v207.2 then v225.2 else v207.2).toNat) (if v225.2<v207.2 then v225.2 else v207.2)))::Y6 q_ s133 v139 []),7⟩) (Wk.rP _ [(0,0),(1,1),(2,2),(3,3),(4,4),(5,5),(6,6)] hP (by rfl) (by simp [hhOk,back,Cat.cells,XPairint64.cells,XQuery.cells,XTerm.cells,UA,U1,IA,I1,LA,L1,BA,B1,EA,E1,E2,eB,eI,eL,Q5 _ Qg _ (fun _=>rfl),Q5 _ Q6 _ (fun _=>rfl),Q5 _ Qe _ (fun _=>rfl),Q5 _ (XPairint64.cells true) _ (fun _=>rfl),a208,a226])) (Q1 (Qn [] mo (by rw [hN];decide) fun K hK=>?_)));simp;(repeat refine sdQ ?_);refine hK _ (tn (Q4 (st':=⟨[(6,.val (.bool (v207.2 != v225.2)))],Y7 b2 ((1,rI (v225.1.set ((if v225.2 > v207.2 then v225.2 else v207.2).toNat) (if v225.2<v207.2 then v225.2 else v207.2)))::Y6 q_ s133 v139 []),7⟩) (Wk.rP _ [(0,0),(1,1),(2,2),(3,3),(4,4),(5,5),(6,6)] hP (by rfl) (by simp [hhOk,back,Cat.cells,XPairint64.cells,XQuery.cells,XTerm.cells,UA,U1,IA,I1,LA,L1,BA,B1,EA,E1,E2,eB,eI,eL,Q5 _ Qg _ (fun _=>rfl),Q5 _ Q6 _ (fun _=>rfl),Q5 _ Qe _ (fun _=>rfl),Q5 _ (XPairint64.cells true) _ (fun _=>rfl),a208,a226])) (Ql ?_)));clear hK K;cases h
      first|refine iw_r (st':=⟨[(6,.val (.bool (v207.2 != v225.2)))],Y7 b2 ((1,rI (v225.1.set ((if v225.2 > v207.2 then v225.2 else v207.2).toNat) (if v225.2<v207.2 then v225.2 else v207.2)))::Y6 q_ s133 v139 []),7⟩) ?_ ?_|refine iw_n (st':=⟨[(6,.val (.bool (v207.2 != v225.2)))],Y7 b2 ((1,rI (v225.1.set ((if v225.2 > v207.2 then v225.2 else v207.2).toNat) (if v225.2<v207.2 then v225.2 else v207.2)))::Y6 q_ s133 v139 []),7⟩) ?_ ?_
      ·exact Wk.rP _ [(0,0),(1,1),(2,2),(3,3),(4,4),(5,5),(6,6)] hP (by rfl) (by simp [hhOk,back,Cat.cells,XPairint64.cells,XQuery.cells,XTerm.cells,UA,U1,IA,I1,LA,L1,BA,B1,EA,E1,E2,eB,eI,eL,Q5 _ Qg _ (fun _=>rfl),Q5 _ Q6 _ (fun _=>rfl),Q5 _ Qe _ (fun _=>rfl),Q5 _ (XPairint64.cells true) _ (fun _=>rfl),a208,a226])
      exact ⟨by simp [Q1e],by simp,by simp [Cat.cells,XPairint64.cells,XQuery.cells,XTerm.cells]⟩
     replace ⟨a229,h⟩:=Q0 h;simp;(repeat refine sdQ ?_);refine hK _ ?_;clear hK K;refine bn (tn (Q4 (st':=⟨Ya c_ q_ (Yu b2 v32 ((12,.own 1 0 v228.1.length)::(14,.adr 2 0 0)::(15,.adr 3 0 0)::YV q_ s133 v139 [(96,iV s185.2)])),Y7 b2 ((1,rI v228.1)::Y6 q_ s133 v139 []),5⟩) (Wk.r1 [(0,0),(1,1),(2,2),(3,3),(4,4)] (by simp [hP,hhOk,back,Cat.cells,XPairint64.cells,XQuery.cells,XTerm.cells,UA,U1,IA,I1,LA,L1,BA,B1,EA,E1,E2,eB,eI,eL,Q5 _ Qg _ (fun _=>rfl),Q5 _ Q6 _ (fun _=>rfl),Q5 _ Qe _ (fun _=>rfl),Q5 _ (XPairint64.cells true) _ (fun _=>rfl),a229])) (Qn [] mo (by rw [hN];decide) fun K hK=>?_)));replace ⟨a230,h⟩:=Q0 h;simp [Qm a230];(repeat refine sdQ ?_);refine hK _ ?_;clear hK K;cases h;exact rn (s':=(v228.1,s185.2+1)) hk185 (Wk.r1 [(0,0),(1,1),(2,2),(3,3),(4,4)] (by simp [hP,hhOk,back,Cat.cells,XPairint64.cells,XQuery.cells,XTerm.cells,UA,U1,IA,I1,LA,L1,BA,B1,EA,E1,E2,eB,eI,eL,Q5 _ Qg _ (fun _=>rfl),Q5 _ Q6 _ (fun _=>rfl),Q5 _ Qe _ (fun _=>rfl),Q5 _ (XPairint64.cells true) _ (fun _=>rfl),a229]))
    have g186:¬ (s185.2<(v139.length:Int)):=gQ;clear g;replace h:=if_r g186 h;refine Qp (tx (lx (bh (bn ?_))));cases h;have q:_=e185:=hk185;have h:=h185;rw [← q] at h;clear q;(try dsimp only at h);exact jn (b:=s185.1) (zC h) (QD [(0,0),(1,1)])
   intro b135 hb135;have h:=h135;(try rw [← hb135] at h);clear h135;(try dsimp only at h);refine Qn [] mo (by rw [hN];decide) fun K hK=>?_;replace ⟨a231,h⟩:=Q0 h;simp [Qm a231];(repeat refine sdQ ?_);refine hK _ ?_;clear hK K;cases h;exact rn (s':=(b135,s133.2+1)) hk133 (QD [(0,0),(1,1)])
  have g134:¬ (s133.2<(q_.left_.length:Int)):=gQ;clear g;replace h:=if_r g134 h;refine Qp (tx (lx (bh ?_)));cases h;exact jn (b:=s133.1) hk133 (QD [(0,0),(1,1)])
 intro b34 hb34;have h:=h34;try rw [← hb34] at h
 clear h34;try dsimp only at h
 refine Q1 (Qn [] mo (by rw [hN];decide) fun K hK=>?_);simp;repeat with_reducible refine sdQ ?_
 replace ⟨v232,hv232,h⟩:=bind_some h;refine QU (fz:=[]) (Q58 _ v232 hv232) (.cons (.preT (by simp [Cat.cells,XPairint64.cells,XQuery.cells,XTerm.cells])) .nil) ?_;simp;repeat refine sdQ ?_
 refine hK _ ?_;clear hK K;refine tn (Q4 (st':=⟨Yd c_ b2 [(12,.own 1 0 b34.length),(18,.adr 2 0 0)],Y7 b2 ((1,rI b34)::Y0c q_ v232 (Y9 v232 [(7,.mapE (.st 2) (Qi []))])),8⟩) (QD [(0,0),(1,1),(8,2),(3,3),(4,4),(5,5),(6,6),(7,7)]) (Q1 (Q1 (Qn [] mo (by rw [hN];decide) fun K hK=>?_))));simp;repeat refine sdQ ?_
 refine hK _ (tn (Q4 (st':=⟨Yd c_ b2 [(12,.own 1 0 b34.length),(18,.adr 2 0 0),(134,iV c_.n),(135,iV 0)],Y7 b2 ((1,rI b34)::Y0c q_ v232 (Y9 v232 [(7,.mapE (.st 2) (Qi []))])),8⟩) (Q2j 8) ?_));clear hK K;replace ⟨e233,h,h233⟩:=bind_some h;refine Qk (fun b233:List Int × (List (XPairint64 × Int))=>⟨Yd c_ b2 [(18,.adr 1 0 0)],Y7 b2 (Ys q_ v232 b233 []),8⟩) (fun b233=>b233=e233) ?_ ?_
 ·refine Q7 (Qu h (fun s305:List Int × List Int × (List (XPairint64 × Int)) × Int=>⟨Yd c_ b2 [(12,.own 1 0 s305.1.length),(18,.adr 2 0 0),(134,iV c_.n),(135,iV s305.2.2.2)],Y7 b2 ((1,rI s305.1)::Y0 q_ v232 s305 (YF s305 [])),9⟩) (Q2V ⟨Yd c_ b2 [(12,.own 1 0 b34.length),(18,.adr 2 0 0),(134,iV c_.n),(135,iV 0)],Y7 b2 ((1,rI b34)::(2,.mix 9 [(Y0o q_ (Y0l v232 [.own 8 0 0,nS,.mp 7]))])::Y9 v232 [(7,.mapE (.st 2) (Qi [])),(8,rI [])]),9⟩ (Wk.nils [(8,1)] (by simp) (by simp) (by simp [nlA]) (by simp [entN,nlL,nlA,Cat.cells,XPairint64.cells,XQuery.cells,XTerm.cells,UA,U1,IA,I1,LA,L1,BA,B1,EA,E1,E2,eB,eI,eL,Q5 _ Qg _ (fun _=>rfl),Q5 _ Q6 _ (fun _=>rfl),Q5 _ Qe _ (fun _=>rfl),Q5 _ (XPairint64.cells true) _ (fun _=>rfl)]) (by simp)) (QD [(0,0),(1,1),(2,2),(3,3),(4,4),(5,5),(6,6),(8,7),(7,8)])) ?_);clear h;intro k305 s305 c305 h hk305;refine Q1 (Qn [] mo (by rw [hN];decide) fun K hK=>?_);simp;repeat refine sdQ ?_
  refine hK _ ?_;clear hK K;refine tn (Q1 (Qa rfl (fun g=>?_) fun g=>?_))
  ·have g306:s305.2.2.2<c_.n:=gQ;clear g;replace h:=if_l g306 h;refine Qc (tn (Q1 (Q7 (Q1 (Qn [] mo (by rw [hN];decide) fun K hK=>?_)))));simp;(repeat refine sdQ ?_);refine hK _ ?_;clear hK K;refine tn (Q4 (st':=⟨Yd c_ b2 [(12,.own 1 0 s305.1.length),(18,.adr 2 0 0),(19,iV s305.2.2.2),(134,iV c_.n),(135,iV s305.2.2.2)],Y7 b2 ((1,rI s305.1)::Y0 q_ v232 s305 (YF s305 [])),9⟩) (Q2j 9) (Q1 (Qn [] mo (by rw [hN];decide) fun K hK=>?_)));simp;(repeat refine sdQ ?_);refine hK _ ?_;clear hK K;refine tn (Q4 (st':=⟨Yd c_ b2 (Y0g s305 [(134,iV c_.n),(135,iV s305.2.2.2)]),Y7 b2 ((1,rI s305.1)::Y0 q_ v232 s305 (YF s305 [(9,.mix 1 []),(10,.mix 2 [])])),11⟩) (Q2j 11) (Q1 (Q1 (Qn [] mo (by rw [hN];decide) fun K hK=>?_))));simp;(repeat refine sdQ ?_);refine hK _ (tn (Q4 (st':=⟨Yd c_ b2 (Y0g s305 (YG c_ s305 b2 [(142,iV 0)])),Y7 b2 ((1,rI s305.1)::Y0 q_ v232 s305 (YF s305 [(9,.mix 1 []),(10,.mix 2 [])])),11⟩) (Q2j 11) ?_));clear hK K;replace ⟨e307,h,h307⟩:=bind_some h
   refine Qk (fun b307:List Int × List Int × List XPairint64=>⟨Yd c_ b2 (YO b307 [(20,.own 9 0 b307.2.1.length),(21,.own 10 0 b307.2.2.length),(134,iV c_.n),(135,iV s305.2.2.2)]),Y7 b2 ((1,rI b307.1)::Y0 q_ v232 s305 (YF s305 [(9,rI b307.2.1),(10,.row 2 (Es (XPairint64.cells true) b307.2.2))])),11⟩) (fun b307=>b307=e307) ?_ ?_
   ·refine Q7 (Qu h (fun s334:List Int × List Int × List XPairint64 × Int=>⟨Yd c_ b2 ((12,.own 1 0 s334.1.length)::(18,.adr 2 0 0)::(19,iV s305.2.2.2)::(20,.own 9 0 s334.2.1.length)::(21,.own 10 0 s334.2.2.1.length)::YG c_ s305 b2 [(142,iV s334.2.2.2)]),Y7 b2 ((1,rI s334.1)::Y0 q_ v232 s305 (YF s305 [(9,rI s334.2.1),(10,.row 2 (Es (XPairint64.cells true) s334.2.2.1))])),11⟩) (Q2V ⟨Yd c_ b2 (Y0g s305 (YG c_ s305 b2 [(142,iV 0)])),Y7 b2 ((1,rI s305.1)::Y0 q_ v232 s305 (YF s305 [(9,rI []),(10,.row 2 (Es (XPairint64.cells true) []))])),11⟩ (Wk.nils [] (by simp) (by simp) (by simp [nlA]) (by simp [entN,nlL,nlA,Cat.cells,XPairint64.cells,XQuery.cells,XTerm.cells,UA,U1,IA,I1,LA,L1,BA,B1,EA,E1,E2,eB,eI,eL,Q5 _ Qg _ (fun _=>rfl),Q5 _ Q6 _ (fun _=>rfl),Q5 _ Qe _ (fun _=>rfl),Q5 _ (XPairint64.cells true) _ (fun _=>rfl)]) (by simp)) (Q2j 11)) ?_);clear h;intro k334 s334 c334 h hk334;refine Q1 (Qn [] mo (by rw [hN];decide) fun K hK=>?_);simp;(repeat refine sdQ ?_);refine hK _ ?_;clear hK K;refine tn (Q1 (Qa rfl (fun g=>?_) fun g=>?_))
    ·have g335:s334.2.2.2<(b2.length:Int):=gQ;clear g;replace h:=if_l g335 h;refine Qc (tn (Q1 ?_));replace ⟨e336,h,h336⟩:=bind_some h;refine Qk (fun b336:List Int × List Int × List XPairint64=>⟨Yd c_ b2 (YO b336 ((19,iV s305.2.2.2)::(20,.own 9 0 b336.2.1.length)::(21,.own 10 0 b336.2.2.length)::YG c_ s305 b2 [(142,iV s334.2.2.2)])),Y7 b2 ((1,rI b336.1)::Y0 q_ v232 s305 (YF s305 [(9,rI b336.2.1),(10,.row 2 (Es (XPairint64.cells true) b336.2.2))])),11⟩) (fun b336=>b336=e336) ?_ ?_
     ·refine Q7 (Q1 (Qn [] mo (by rw [hN];decide) fun K hK=>?_));replace ⟨a337,h⟩:=Q0 h;simp [at_E (c:=(XPairint64.cells true)) a337];(repeat refine sdQ ?_);refine hK _ ?_;clear hK K;refine tn (Q4 (st':=⟨Yd c_ b2 ((12,.own 1 0 s334.1.length)::(18,.adr 2 0 0)::(19,iV s305.2.2.2)::(20,.own 9 0 s334.2.1.length)::(21,.own 10 0 s334.2.2.1.length)::(22,iV s334.2.2.2)::(23,.adr 11 0 0)::YG c_ s305 b2 [(142,iV s334.2.2.2)]),Y7 b2 ((1,rI s334.1)::Y0 q_ v232 s305 (Yk s305 s334 b2 [])),12⟩) (QD [(0,0),(1,1),(2,2),(3,3),(4,4),(5,5),(6,6),(7,7),(8,8),(9,9),(10,10),(13,11)]) (Q1 (Qn [] mo (by rw [hN];decide) fun K hK=>?_)));replace ⟨a338,h⟩:=Q0 h;simp [at_I a338];(repeat refine sdQ ?_);refine hK _ ?_;clear hK K;refine tn (Qa rfl (fun g=>?_) fun g=>?_)
      ·have g339:(ix c_.to ((gx b2 s334.2.2.2).second_))=s305.2.2.2:=gQ;clear g;replace h:=if_l g339 h;refine Q1 (Q9c [] mo (by rw [hN];decide) fun K hK=>?_);simp;(repeat with_reducible refine sdQ ?_);replace ⟨v356,hv356,h⟩:=bind_some h;refine Q4w (fz:=[]) (Q2K (ts:=[4]) (e:={ v:=.val (.int .i64 v356.2),set:=[(1,rI v356.1)],del:=[],new:=[],cnt:=0 }) Try.func78 rfl rfl rfl (by simp [Try.f78]) (by simp) (Qak (by simp)) (newI (by rfl)) fun F hN hP=>?_) ?_
       ·clear h;have h:=hv356;clear hv356;refine Q1 (Qn [] mo (by rw [hN];decide) fun K hK=>?_);simp;(repeat refine sdQ ?_);refine hK _ (tn (Q4 (st':=⟨[(0,.own 1 0 s334.1.length),(1,iV s334.2.2.2)],Y7 b2 ((1,rI s334.1)::Y0 q_ v232 s305 (Yk s305 s334 b2 [])),12⟩) (Q5a 12 hP) (Q1 ?_)));clear hK K;replace ⟨e341,h,h341⟩:=bind_some h;refine Qk (fun b341:List Int × Int=>⟨[(1,iV b341.2)],Y7 b2 ((1,rI b341.1)::Y0 q_ v232 s305 (Yk s305 s334 b2 [])),12⟩) (fun b341=>b341=e341) ?_ ?_
        ·refine Q7 (Qu h (fun s349:List Int × Int=>⟨[(0,.own 1 0 s349.1.length),(1,iV s349.2)],Y7 b2 ((1,rI s349.1)::Y0 q_ v232 s305 (Yk s305 s334 b2 [])),12⟩) (Q5a 12 hP) ?_);clear h;intro k349 s349 c349 h hk349;refine Q1 (Q1 (Qn [] mo (by rw [hN];decide) fun K hK=>?_));replace ⟨a350,h⟩:=Q0 h;simp [at_I a350];(repeat refine sdQ ?_);refine hK _ ?_;clear hK K;refine tn (Qa rfl (fun g=>?_) fun g=>?_)
         ·have g351:¬ ((ix s349.1 s349.2)=s349.2):=gQ;clear g;replace h:=if_l g351 h;refine Qc (tn (Q7 (Q1 (Qn [] mo (by rw [hN];decide) fun K hK=>?_))));replace ⟨a352,h⟩:=Q0 h;replace ⟨a353,h⟩:=Q0 h;replace ⟨a354,h⟩:=Q0 h;simp [at_I a352,at_I a353,at_I a354];(repeat refine sdQ ?_);refine hK _ ?_;clear hK K;refine tn (Q4 (st':=⟨Y0a s349 [],Y7 b2 ((1,rI (s349.1.set s349.2.toNat (ix s349.1 (ix s349.1 s349.2))))::Y0 q_ v232 s305 (Yk s305 s334 b2 [])),12⟩) (Q5a 12 hP) (Qn [] mo (by rw [hN];decide) fun K hK=>?_));replace ⟨a355,h⟩:=Q0 h;simp [at_I a355];(repeat refine sdQ ?_);refine hK _ (bn ?_);clear hK K;cases h;exact rn (s':=(s349.1.set s349.2.toNat (ix s349.1 (ix s349.1 s349.2)),ix (s349.1.set s349.2.toNat (ix s349.1 (ix s349.1 s349.2))) s349.2)) hk349 (Q5a 12 hP)
         have g351:¬ (¬ ((ix s349.1 s349.2)=s349.2)):=gQ;clear g;replace h:=if_r g351 h;refine Qp (tx (lx (bh ?_)));cases h;exact jn (b:=(s349.1,s349.2)) hk349 (Q5a 12 hP)
        intro b341 hb341;have h:=h341;(try rw [← hb341] at h);clear h341;(try dsimp only at h);refine Q1 (Qn [] mo (by rw [hN];decide) fun K hK=>?_);simp;(repeat refine sdQ ?_);refine hK _ (tn (Q4 (st':=⟨[(4,iV b341.2)],Y7 b2 ((1,rI b341.1)::Y0 q_ v232 s305 (Yk s305 s334 b2 [])),12⟩) (Q5a 12 hP) (Ql ?_)));clear hK K;cases h;first|refine iw_r (st':=⟨[(4,iV b341.2)],Y7 b2 ((1,rI b341.1)::Y0 q_ v232 s305 (Yk s305 s334 b2 [])),12⟩) ?_ ?_|refine iw_n (st':=⟨[(4,iV b341.2)],Y7 b2 ((1,rI b341.1)::Y0 q_ v232 s305 (Yk s305 s334 b2 [])),12⟩) ?_ ?_
        ·exact Wk.rP _ [(0,0),(1,1),(2,2),(3,3),(4,4),(5,5),(6,6),(7,7),(8,8),(9,9),(10,10),(11,11)] hP (by rfl) (by simp [hhOk,back,Cat.cells,XPairint64.cells,XQuery.cells,XTerm.cells,UA,U1,IA,I1,LA,L1,BA,B1,EA,E1,E2,eB,eI,eL,Q5 _ Qg _ (fun _=>rfl),Q5 _ Q6 _ (fun _=>rfl),Q5 _ Qe _ (fun _=>rfl),Q5 _ (XPairint64.cells true) _ (fun _=>rfl)])
        exact ⟨by simp [Q1e],by simp,by simp [Cat.cells,XPairint64.cells,XQuery.cells,XTerm.cells]⟩
       replace ⟨a357,h⟩:=Q0 h;replace ⟨a358,h⟩:=Q0 h;(try simp only [qE,qG,zB] at a358);simp [a358];(repeat refine sdQ ?_);refine hK _ ?_;clear hK K;refine tn (Q4 (st':=⟨Yd c_ b2 ((12,.own 1 0 v356.1.length)::(18,.adr 2 0 0)::(19,iV s305.2.2.2)::(20,.own 9 0 ((s334.2.1++[v356.2]).length))::(21,.own 10 0 s334.2.2.1.length)::(23,.adr 11 0 0)::YG c_ s305 b2 [(142,iV s334.2.2.2)]),Y7 b2 ((1,rI v356.1)::Y0 q_ v232 s305 (YF s305 [(9,rI (s334.2.1++[v356.2])),(10,.row 2 (Es (XPairint64.cells true) s334.2.2.1)),(11,.mix 2 [(XPairint64.cells true (gx b2 s334.2.2.2))])])),12⟩) (Wk.r1 [(0,0),(1,1),(2,2),(3,3),(4,4),(5,5),(6,6),(7,7),(8,8),(13,9),(10,10),(11,11)] (by simp [hP,hhOk,back,Cat.cells,XPairint64.cells,XQuery.cells,XTerm.cells,UA,U1,IA,I1,LA,L1,BA,B1,EA,E1,E2,eB,eI,eL,Q5 _ Qg _ (fun _=>rfl),Q5 _ Q6 _ (fun _=>rfl),Q5 _ Qe _ (fun _=>rfl),Q5 _ (XPairint64.cells true) _ (fun _=>rfl),a357])) (Qn [] mo (by rw [hN];decide) fun K hK=>?_));replace ⟨a359,h⟩:=Q0 h;(try simp only [qE,qG,zB] at a359);simp [a359];(repeat refine sdQ ?_);refine hK _ (bn ?_);clear hK K;exact jn (b:=(v356.1,s334.2.1++[v356.2],s334.2.2.1++[(gx b2 s334.2.2.2)])) (zC h) (Wk.r1 [(0,0),(1,1),(2,2),(3,3),(4,4),(5,5),(6,6),(7,7),(8,8),(9,9),(13,10)] (by simp [hP,hhOk,back,Cat.cells,XPairint64.cells,XQuery.cells,XTerm.cells,UA,U1,IA,I1,LA,L1,BA,B1,EA,E1,E2,eB,eI,eL,Q5 _ Qg _ (fun _=>rfl),Q5 _ Q6 _ (fun _=>rfl),Q5 _ Qe _ (fun _=>rfl),Q5 _ (XPairint64.cells true) _ (fun _=>rfl),a357]))
      have g339:¬ ((ix c_.to ((gx b2 s334.2.2.2).second_))=s305.2.2.2):=gQ;clear g;replace h:=if_r g339 h;refine Qc (bn ?_);exact jn (b:=(s334.1,s334.2.1,s334.2.2.1)) (zC h) (Q2j 11)
     intro b336 hb336;have h:=h336;(try rw [← hb336] at h);clear h336;(try dsimp only at h);refine Qn [] mo (by rw [hN];decide) fun K hK=>?_;replace ⟨a360,h⟩:=Q0 h;simp [Qm a360];(repeat refine sdQ ?_);refine hK _ ?_;clear hK K;cases h;exact rn (s':=(b336.1,b336.2.1,b336.2.2,s334.2.2.2+1)) hk334 (Q2j 11)
    have g335:¬ (s334.2.2.2<(b2.length:Int)):=gQ;clear g;replace h:=if_r g335 h;refine Qp (tx (lx (bh ?_)));cases h;exact jn (b:=(s334.1,s334.2.1,s334.2.2.1)) hk334 (Q2j 11)
   intro b307 hb307;have h:=h307;(try rw [← hb307] at h);clear h307;(try dsimp only at h);refine Q1 (Qn [] mo (by rw [hN];decide) fun K hK=>?_);simp;(repeat with_reducible refine sdQ ?_);replace ⟨v361,hv361,h⟩:=bind_some h;refine QU (fz:=[]) (QaV _ v361 hv361) (.cons .w .nil) ?_;simp;(repeat refine sdQ ?_);refine hK _ ?_;clear hK K;refine tn (Q4 (st':=⟨Yd c_ b2 (YO b307 [(21,.own 9 0 b307.2.2.length),(24,.own 10 0 v361.length),(134,iV c_.n),(135,iV s305.2.2.2)]),Y7 b2 ((1,rI b307.1)::Y0 q_ v232 s305 (YF s305 [(9,.row 2 (Es (XPairint64.cells true) b307.2.2)),(10,rI v361)])),11⟩) (QD [(0,0),(1,1),(2,2),(3,3),(4,4),(5,5),(6,6),(7,7),(8,8),(10,9),(11,10)]) (Q1 (Q1 (Qn [] mo (by rw [hN];decide) fun K hK=>?_))));simp;(repeat refine sdQ ?_);refine hK _ (tn (Q4 (st':=⟨Yd c_ b2 (YO b307 [(24,.own 9 0 v361.length),(134,iV c_.n),(135,iV s305.2.2.2),(170,.own 10 0 b307.2.2.length),(171,iV (b307.2.2.length:Int)),(172,iV 0)]),Y7 b2 ((1,rI b307.1)::Y0 q_ v232 s305 (YF s305 [(9,rI v361),(10,.row 2 (Es (XPairint64.cells true) b307.2.2))])),11⟩) (QD [(0,0),(1,1),(2,2),(3,3),(4,4),(5,5),(6,6),(7,7),(8,8),(10,9),(9,10)]) ?_));clear hK K;replace ⟨e362,h,h362⟩:=bind_some h;refine Qk (fun b362:List (XPairint64 × Int)=>⟨Yd c_ b2 (YO b307 [(24,.own 9 0 v361.length),(134,iV c_.n),(135,iV s305.2.2.2)]),Y7 b2 ((1,rI b307.1)::Y0 q_ v232 s305 [(8,.mapE (.st 2) (Qi b362)),(9,rI v361)]),10⟩) (fun b362=>b362=e362) ?_ ?_
   ·refine Q7 (Qu h (fun s368:(List (XPairint64 × Int)) × Int=>⟨Yd c_ b2 (YO b307 [(24,.own 9 0 v361.length),(134,iV c_.n),(135,iV s305.2.2.2),(170,.own 10 0 b307.2.2.length),(171,iV (b307.2.2.length:Int)),(172,iV s368.2)]),Y7 b2 ((1,rI b307.1)::Y0 q_ v232 s305 [(8,.mapE (.st 2) (Qi s368.1)),(9,rI v361),(10,.row 2 (Es (XPairint64.cells true) b307.2.2))]),11⟩) (Q2j 11) ?_);clear h;intro k368 s368 c368 h hk368;refine Q1 (Qn [] mo (by rw [hN];decide) fun K hK=>?_);simp;(repeat refine sdQ ?_);refine hK _ ?_;clear hK K;refine tn (Q1 (Qa rfl (fun g=>?_) fun g=>?_))
    ·have g369:s368.2<(b307.2.2.length:Int):=gQ;clear g;replace h:=if_l g369 h;refine Qc (tn (Q1 (Q7 (Q1 (Qn [] mo (by rw [hN];decide) fun K hK=>?_)))));replace ⟨a370,h⟩:=Q0 h;simp [at_E (c:=(XPairint64.cells true)) a370];(repeat refine sdQ ?_);refine hK _ ?_;clear hK K;refine tn (Q4 (st':=⟨Yd c_ b2 (YO b307 [(24,.own 9 0 v361.length),(25,iV s368.2),(26,.adr 10 0 0),(134,iV c_.n),(135,iV s305.2.2.2),(170,.own 11 0 b307.2.2.length),(171,iV (b307.2.2.length:Int)),(172,iV s368.2)]),Y7 b2 ((1,rI b307.1)::Y0 q_ v232 s305 [(8,.mapE (.st 2) (Qi s368.1)),(9,rI v361),(10,.mix 2 [(XPairint64.cells true (gx b307.2.2 s368.2))]),(11,.row 2 (Es (XPairint64.cells true) b307.2.2))]),12⟩) (QD [(0,0),(1,1),(2,2),(3,3),(4,4),(5,5),(6,6),(7,7),(8,8),(9,9),(13,10),(10,11)]) (Qn [] mo (by rw [hN];decide) fun K hK=>?_));replace ⟨a371,h⟩:=Q0 h;replace ⟨a372,h⟩:=Q0 h;simp [at_I a371,a372];(repeat refine sdQ ?_);refine hK _ ?_;clear hK K;refine bn (tn (Q4 (st':=⟨Yd c_ b2 (YO b307 [(24,.own 9 0 v361.length),(134,iV c_.n),(135,iV s305.2.2.2),(170,.own 10 0 b307.2.2.length),(171,iV (b307.2.2.length:Int)),(172,iV s368.2)]),Y7 b2 ((1,rI b307.1)::Y0 q_ v232 s305 [(8,.mapE (.st 2) (Qi (tset (gx b307.2.2 s368.2) (ix v361 s368.2) s368.1))),(9,rI v361),(10,.row 2 (Es (XPairint64.cells true) b307.2.2))]),11⟩) (QD [(0,0),(1,1),(2,2),(3,3),(4,4),(5,5),(6,6),(7,7),(8,8),(9,9),(11,10)]) (Qn [] mo (by rw [hN];decide) fun K hK=>?_)));replace ⟨a373,h⟩:=Q0 h;simp [Qm a373];(repeat refine sdQ ?_);refine hK _ ?_;clear hK K;cases h;exact rn (s':=(tset (gx b307.2.2 s368.2) (ix v361 s368.2) s368.1,s368.2+1)) hk368 (Q2j 11)
    have g369:¬ (s368.2<(b307.2.2.length:Int)):=gQ;clear g;replace h:=if_r g369 h;refine Qp (tx (lx (bh ?_)));cases h;exact jn (b:=s368.1) hk368 (Q2j 10)
   intro b362 hb362;have h:=h362;(try rw [← hb362] at h);clear h362;(try dsimp only at h);refine Qn [] mo (by rw [hN];decide) fun K hK=>?_;simp;(repeat with_reducible refine sdQ ?_);replace ⟨v374,hv374,h⟩:=bind_some h;refine QU (fz:=[]) (Q3Z _ v374 hv374) (.cons .w .nil) ?_;replace ⟨a375,h⟩:=Q0 h;(try simp only [qE,qG,zB] at a375);simp [a375];(repeat refine sdQ ?_);refine hK _ ?_;clear hK K;refine bn (tn (Q4 (st':=⟨Yd c_ b2 (YO b307 [(134,iV c_.n),(135,iV s305.2.2.2)]),Y7 b2 ((1,rI b307.1)::(2,.mix 9 [(Y0o q_ (Y0l v232 [.own 7 0 ((s305.2.1++[v374]).length),nS,.mp 8]))])::Y9 v232 [(7,rI (s305.2.1++[v374])),(8,.mapE (.st 2) (Qi b362))]),9⟩) (QD [(0,0),(1,1),(2,2),(3,3),(4,4),(5,5),(6,6),(12,7),(8,8)]) (Qn [] mo (by rw [hN];decide) fun K hK=>?_)));replace ⟨a376,h⟩:=Q0 h;simp [Qm a376];(repeat refine sdQ ?_);refine hK _ ?_;clear hK K;cases h;exact rn (s':=(b307.1,s305.2.1++[v374],b362,s305.2.2.2+1)) hk305 (Q2j 9)
  have g306:¬ (s305.2.2.2<c_.n):=gQ;clear g;replace h:=if_r g306 h;refine Qp (tx (lx (bh ?_)));cases h;exact jn (b:=(s305.2.1,s305.2.2.1)) hk305 (QD [(0,0),(2,1),(3,2),(4,3),(5,4),(6,5),(7,6),(8,7)])
 intro b233 hb233;have h:=h233;try rw [← hb233] at h
 clear h233;try dsimp only at h
 refine Q1 (Q1 (Qn [] mo (by rw [hN];decide) fun K hK=>?_));simp;repeat with_reducible refine sdQ ?_
 replace ⟨v377,hv377,h⟩:=bind_some h;refine QU (fz:=[]) (Q97 _ v377 hv377) (.cons .w .nil) ?_;simp;repeat refine sdQ ?_
 refine hK _ ?_;clear hK K;refine tn (Q4 (st':=⟨Yd c_ b2 [(18,.adr 1 0 0),(207,.val (.bool (!v377)))],Y7 b2 (Ys q_ v232 b233 []),8⟩) (Q2j 8) (Qa rfl (fun g=>?_) fun g=>?_))
 ·have g378:¬ (v377=true):=gQ;clear g;replace h:=if_l g378 h;refine Q1 (Qn [] mo (by rw [hN];decide) fun K hK=>?_);simp;repeat refine sdQ ?_
  refine hK _ (tn (Q4 (st':=⟨[(4,.val (.pointer none)),(5,.val (.bool false))],[],0⟩) (QD []) (Ql (tr ?_))));clear hK K;cases h;try dsimp only
  first|refine iw_r (st':=⟨[(4,.val (.pointer none)),(5,.val (.bool false))],[],0⟩) ?_ ?_|refine iw_n (st':=⟨[(4,.val (.pointer none)),(5,.val (.bool false))],[],0⟩) ?_ ?_
  ·exact Wk.r1 [] (by simp [hP,hhOk,back,Cat.cells,XPairint64.cells,XQuery.cells,XTerm.cells,UA,U1,IA,I1,LA,L1,BA,B1,EA,E1,E2,eB,eI,eL,Q5 _ Qg _ (fun _=>rfl),Q5 _ Q6 _ (fun _=>rfl),Q5 _ Qe _ (fun _=>rfl),Q5 _ (XPairint64.cells true) _ (fun _=>rfl)])
  exact ⟨by simp [Q1e],by simp,by simp [Cat.cells,XPairint64.cells,XQuery.cells,XTerm.cells]⟩
 have g378:¬ (¬ (v377=true)):=gQ;clear g;replace h:=if_r g378 h;refine Qc (tn (Q1 (Q1 (Qn [] mo (by rw [hN];decide) fun K hK=>?_))));simp;repeat refine sdQ ?_
 refine hK _ (tn (Q4 (st':=⟨Yd c_ b2 [(18,.adr 1 0 0),(212,iV (c_.fr.length:Int)),(213,iV 0)],Y7 b2 (Ys q_ v232 b233 []),8⟩) (Q2j 8) ?_));clear hK K;replace ⟨e379,h,h379⟩:=bind_some h;refine Qk (fun b379:List (List Int)=>⟨[(18,.adr 0 0 0)],Yl q_ v232 b233 b379 [],8⟩) (fun b379=>b379=e379) ?_ ?_
 ·refine Q7 (Qu h (fun s406:List (List Int) × Int=>⟨Yd c_ b2 ((18,.adr 1 0 0)::YS c_ s406 []),Y4 b2 q_ v232 b233 s406 [],9⟩) (Q2V ⟨Yd c_ b2 [(18,.adr 1 0 0),(212,iV (c_.fr.length:Int)),(213,iV 0)],Y7 b2 [(1,.mix 9 [(Y0o q_ (Y0n v232 [.own 6 0 b233.1.length,.own 8 0 0,.mp 7]))]),(2,rI v232.fr),(3,rI v232.to),(4,rI v232.id),(5,.row 1 (Ls v232.cs)),(6,rI b233.1),(7,.mapE (.st 2) (Qi b233.2)),(8,.row 1 (Ls []))],9⟩ (Wk.nils [(8,1)] (by simp) (by simp) (by simp [nlA]) (by simp [entN,nlL,nlA,Cat.cells,XPairint64.cells,XQuery.cells,XTerm.cells,UA,U1,IA,I1,LA,L1,BA,B1,EA,E1,E2,eB,eI,eL,Q5 _ Qg _ (fun _=>rfl),Q5 _ Q6 _ (fun _=>rfl),Q5 _ Qe _ (fun _=>rfl),Q5 _ (XPairint64.cells true) _ (fun _=>rfl)]) (by simp)) (QD [(0,0),(1,1),(2,2),(3,3),(4,4),(5,5),(6,6),(8,7),(7,8)])) ?_);clear h;intro k406 s406 c406 h hk406;refine Q1 (Qn [] mo (by rw [hN];decide) fun K hK=>?_);simp;repeat refine sdQ ?_
  refine hK _ ?_;clear hK K;refine tn (Q1 (Qa rfl (fun g=>?_) fun g=>?_))
  ·have g407:s406.2<(c_.fr.length:Int):=gQ;clear g;replace h:=if_l g407 h;refine Qc (tn (Q1 (Q7 (Q1 (Qn [] mo (by rw [hN];decide) fun K hK=>?_)))));simp;(repeat refine sdQ ?_);refine hK _ ?_;clear hK K;refine tn (Q4 (st':=⟨Yd c_ b2 ((18,.adr 1 0 0)::(27,iV s406.2)::YS c_ s406 []),Y4 b2 q_ v232 b233 s406 [],9⟩) (Q2j 9) (Q1 (Qn [] mo (by rw [hN];decide) fun K hK=>?_)));replace ⟨a408,h⟩:=Q0 h;replace ⟨a409,h⟩:=Q0 h;replace ⟨a410,h⟩:=Q0 h;simp [at_I a408,at_I a409];(repeat refine sdQ ?_);refine hK _ ?_;clear hK K;refine tn (Q4 (st':=⟨Yd c_ b2 ((18,.adr 1 0 0)::(27,iV s406.2)::(28,.own 9 0 ((qW ((ix b233.1 (ix c_.fr s406.2)).toNat) 0).length))::YS c_ s406 []),Y4 b2 q_ v232 b233 s406 [(9,rI (qW ((ix b233.1 (ix c_.fr s406.2)).toNat) 0))],10⟩) (QD [(0,0),(1,1),(2,2),(3,3),(4,4),(5,5),(6,6),(7,7),(8,8),(10,9)]) (Q1 (Q1 (Qn [] mo (by rw [hN];decide) fun K hK=>?_))));simp;(repeat refine sdQ ?_);refine hK _ (tn (Q4 (st':=⟨Yd c_ b2 ((18,.adr 1 0 0)::(27,iV s406.2)::(28,.own 9 0 ((qW ((ix b233.1 (ix c_.fr s406.2)).toNat) 0).length))::YS c_ s406 [(231,.own 0 0 b2.length),(232,iV (b2.length:Int)),(233,iV 0)]),Y4 b2 q_ v232 b233 s406 [(9,rI (qW ((ix b233.1 (ix c_.fr s406.2)).toNat) 0))],10⟩) (Q2j 10) ?_));clear hK K;replace ⟨e411,h,h411⟩:=bind_some h
   refine Qk (fun b411:List Int=>⟨Yd c_ b2 ((18,.adr 1 0 0)::(28,.own 9 0 b411.length)::YS c_ s406 []),Y4 b2 q_ v232 b233 s406 [(9,rI b411)],10⟩) (fun b411=>b411=e411) ?_ ?_
   ·refine Q7 (Qu h (fun s421:List Int × Int=>⟨Yd c_ b2 ((18,.adr 1 0 0)::(27,iV s406.2)::(28,.own 9 0 s421.1.length)::YS c_ s406 [(231,.own 0 0 b2.length),(232,iV (b2.length:Int)),(233,iV s421.2)]),Y4 b2 q_ v232 b233 s406 [(9,rI s421.1)],10⟩) (Q2j 10) ?_);clear h;intro k421 s421 c421 h hk421;refine Q1 (Qn [] mo (by rw [hN];decide) fun K hK=>?_);simp;(repeat refine sdQ ?_);refine hK _ ?_;clear hK K;refine tn (Q1 (Qa rfl (fun g=>?_) fun g=>?_))
    ·have g422:s421.2<(b2.length:Int):=gQ;clear g;replace h:=if_l g422 h;refine Qc (tn (Q1 ?_));replace ⟨e423,h,h423⟩:=bind_some h;refine Qk (fun b423:List Int=>⟨Yd c_ b2 ((18,.adr 1 0 0)::(27,iV s406.2)::(28,.own 9 0 b423.length)::YS c_ s406 [(231,.own 0 0 b2.length),(232,iV (b2.length:Int)),(233,iV s421.2)]),Y4 b2 q_ v232 b233 s406 [(9,rI b423)],10⟩) (fun b423=>b423=e423) ?_ ?_
     ·refine Q7 (Q1 (Qn [] mo (by rw [hN];decide) fun K hK=>?_));replace ⟨a424,h⟩:=Q0 h;simp [at_E (c:=(XPairint64.cells true)) a424];(repeat refine sdQ ?_);refine hK _ ?_;clear hK K;refine tn (Q4 (st':=⟨Yd c_ b2 ((18,.adr 1 0 0)::(27,iV s406.2)::(28,.own 9 0 s421.1.length)::(30,.adr 10 0 0)::YS c_ s406 [(231,.own 0 0 b2.length),(232,iV (b2.length:Int)),(233,iV s421.2)]),Y4 b2 q_ v232 b233 s406 [(9,rI s421.1),(10,.mix 2 [(XPairint64.cells true (gx b2 s421.2))])],11⟩) (QD [(0,0),(1,1),(2,2),(3,3),(4,4),(5,5),(6,6),(7,7),(8,8),(9,9),(12,10)]) (Q1 (Qn [] mo (by rw [hN];decide) fun K hK=>?_)));replace ⟨a425,h⟩:=Q0 h;replace ⟨a426,h⟩:=Q0 h;simp [at_I a425,at_I a426];(repeat refine sdQ ?_);refine hK _ ?_;clear hK K;refine tn (Qa rfl (fun g=>?_) fun g=>?_)
      ·have g427:(ix c_.to ((gx b2 s421.2).second_))=(ix c_.fr s406.2):=gQ;clear g;replace h:=if_l g427 h;refine Qn [] mo (by rw [hN];decide) fun K hK=>?_;simp;(repeat with_reducible refine sdQ ?_);replace ⟨v428,hv428,h⟩:=bind_some h;refine QU (fz:=[]) (Q2i _ _ _ v428 hv428) (.cons (.preT (by simp [Cat.cells,XPairint64.cells,XQuery.cells,XTerm.cells])) (.cons .val (.cons .val .nil))) ?_;replace ⟨a429,h⟩:=Q0 h;simp [at_I a429];(repeat refine sdQ ?_);refine hK _ (bn ?_);clear hK K;exact jn (b:=s421.1.set (((QV (gx b2 s421.2) b233.2).getD 0).toNat) ((QV (⟨(gx b2 s421.2).first_,v428⟩:XPairint64) b233.2).getD 0)) (zC h) (Q2j 10)
      have g427:¬ ((ix c_.to ((gx b2 s421.2).second_))=(ix c_.fr s406.2)):=gQ;clear g;replace h:=if_r g427 h;refine Qc (bn ?_);exact jn (b:=s421.1) (zC h) (Q2j 10)
     intro b423 hb423;have h:=h423;(try rw [← hb423] at h);clear h423;(try dsimp only at h);refine Qn [] mo (by rw [hN];decide) fun K hK=>?_;replace ⟨a430,h⟩:=Q0 h;simp [Qm a430];(repeat refine sdQ ?_);refine hK _ ?_;clear hK K;cases h;exact rn (s':=(b423,s421.2+1)) hk421 (Q2j 10)
    have g422:¬ (s421.2<(b2.length:Int)):=gQ;clear g;replace h:=if_r g422 h;refine Qp (tx (lx (bh ?_)));cases h;exact jn (b:=s421.1) hk421 (Q2j 10)
   intro b411 hb411;have h:=h411;(try rw [← hb411] at h);clear h411;(try dsimp only at h);refine Qn [] mo (by rw [hN];decide) fun K hK=>?_;replace ⟨a431,h⟩:=Q0 h;(try simp only [qE,qG,zB] at a431);simp [a431];(repeat refine sdQ ?_);refine hK _ ?_;clear hK K;refine bn (tn (Q4 (st':=⟨Yd c_ b2 ((18,.adr 1 0 0)::YS c_ s406 []),Y7 b2 [(1,.mix 9 [(Y0o q_ (Y0n v232 [.own 6 0 b233.1.length,.own 7 0 ((s406.1++[b411]).length),.mp 8]))]),(2,rI v232.fr),(3,rI v232.to),(4,rI v232.id),(5,.row 1 (Ls v232.cs)),(6,rI b233.1),(7,.row 1 (Ls (s406.1++[b411]))),(8,.mapE (.st 2) (Qi b233.2))],9⟩) (QD [(0,0),(1,1),(2,2),(3,3),(4,4),(5,5),(6,6),(11,7),(8,8)]) (Qn [] mo (by rw [hN];decide) fun K hK=>?_)));replace ⟨a432,h⟩:=Q0 h;simp [Qm a432];(repeat refine sdQ ?_);refine hK _ ?_;clear hK K;cases h;exact rn (s':=(s406.1++[b411],s406.2+1)) hk406 (Q2j 9)
  have g407:¬ (s406.2<(c_.fr.length:Int)):=gQ;clear g;replace h:=if_r g407 h;refine Qp (tx (lx (bh ?_)));cases h;exact jn (b:=s406.1) hk406 (QD [(1,0),(2,1),(3,2),(4,3),(5,4),(6,5),(7,6),(8,7)])
 intro b379 hb379;have h:=h379;try rw [← hb379] at h
 clear h379;try dsimp only at h
 refine Q1 (Qn [] mo (by rw [hN];decide) fun K hK=>?_);simp;repeat refine sdQ ?_
 refine hK _ (tn (Q4 (st':=⟨[(4,.adr 0 0 0),(5,.val (.bool true))],Yl q_ v232 b233 b379 [],8⟩) (Q2j 8) (Ql ?_)));clear hK K;cases h;try dsimp only
 first|refine iw_r (st':=⟨[(4,.adr 0 0 0),(5,.val (.bool true))],Yl q_ v232 b233 b379 [],8⟩) ?_ ?_|refine iw_n (st':=⟨[(4,.adr 0 0 0),(5,.val (.bool true))],Yl q_ v232 b233 b379 [],8⟩) ?_ ?_
 ·exact Wk.r1 [(0,0),(1,1),(2,2),(3,3),(4,4),(5,5),(6,6),(7,7)] (by simp [hP,hhOk,back,Cat.cells,XPairint64.cells,XQuery.cells,XTerm.cells,UA,U1,IA,I1,LA,L1,BA,B1,EA,E1,E2,eB,eI,eL,Q5 _ Qg _ (fun _=>rfl),Q5 _ Q6 _ (fun _=>rfl),Q5 _ Qe _ (fun _=>rfl),Q5 _ (XPairint64.cells true) _ (fun _=>rfl)])
 exact ⟨by simp [Q1e],by simp,by simp [Cat.cells,XPairint64.cells,XQuery.cells,XTerm.cells]⟩
section
attribute [local simp] Qh QF Qs QT QE
noncomputable def cl (c:Cat) (q:XQuery) (R:Nat→Nat→Nat) (p:Nat × Nat):Int:=ix (cls (R (toN c p.2)) (At c q (toN c p.2)).length) (plc (At c q (toN c p.2)) p)
theorem e_clsN {r:Nat→Nat} {n:Nat} (hr:Rp r n) (hn:n≤1000):Q10 (cls r n)=some (mxP (cls r n) (cls r n).length):=by
 have hl:=Q2H r n;unfold Q10;refine QN (cls r n).length (fun k=>mxP (cls r n) k) (e:=mxP (cls r n) (cls r n).length) rfl (by omega) (fun k hk=>?_) (by simp) rfl;have v:=Q72 hr (e:=k) (by omega);simp only;rw [if_pos (by omega),Q2 (by omega),Q2 (by unfold B64;omega),Q2 (by unfold B64;omega),Q5C hk]
theorem Q4b {L:List (Nat × Nat)} {P:Nat × Nat→Bool} {k:Nat} (h:k<L.length):(L.take (k+1)).filter P=(L.take k).filter P++if P L[k]=true then [L[k]] else []:=by
 rw [zH h,List.filter_append];simp [List.filter_cons]
theorem take_at {L:List (Nat × Nat)} {P:Nat × Nat→Bool} {k:Nat} (h:k<L.length) (hp:P L[k]=true):(L.filter P)[((L.take k).filter P).length]? = some L[k]:=by
 have e1:L.filter P=(L.take (k+1)).filter P++(L.drop (k+1)).filter P:=by rw [← List.filter_append,List.take_append_drop]
 rw [e1,Q4b h,if_pos hp,List.append_assoc,List.getElem?_append_right (Nat.le_refl _),Nat.sub_self];rfl
theorem gE_some {c:Cat} {q:XQuery} {y e:Nat} {p:Nat × Nat} (h:(At c q y)[e]? = some p):gE c q y e=p∧e<(At c q y).length:=by
 refine ⟨by simp [gE,qB,h],?_⟩;rcases Nat.lt_or_ge e (At c q y).length with k|k
 ·exact k
 rw [List.getElem?_eq_none k] at h;cases h
theorem cl_gE {c:Cat} {q:XQuery} {R:Nat→Nat→Nat} {y e:Nat} (h:e<(At c q y).length):cl c q R (gE c q y e)=ix (cls (R y) (At c q y).length) e:=by
 obtain ⟨m1,m2,m3⟩:=Q5U h;unfold cl;rw [m2,m3]
def Q2X (c:Cat) (q:XQuery) (R:Nat→Nat→Nat):Prop:=mad (quoZ (clsF c q R) (clsF c q R).length)=0
def Kd1 (c:Cat) (q:XQuery) (R:Nat→Nat→Nat) (m:List (XPairint64 × Int)):Prop:=∀ p∈Al c q,QV (pX p) m=some (cl c q R p)
set_option maxHeartbeats 16000000 in
theorem Q9w {c:Cat} {q:XQuery} (hc:c.Is) (hq:QIs c q) {R:Nat→Nat→Nat} (hR:GI c q R) (hk:∀ a,a<c.fr.length→Clo c q R a) :
  (Q2X c q R→∃ m,Kd1 c q R m∧QO c q=some (Sum.inr (c.n,c.fr,c.to,c.id,c.cs,(quoF (QM c q.variables_) (clsF c q R)).sz,(quoF (QM c q.variables_) (clsF c q R)).ac,m)))∧(¬ Q2X c q R→QO c q=some (Sum.inl ())):=by
 have hn:=hc.nums;have hv:=hq.v.len;have nl:=hq.nl;have lr:=hq.lr;have lc:(clsF c q R).length=c.id.length:=by simp [clsF]
 have hN:=Al_len hc hq;have mL:((Al c q).map pX).length=(Al c q).length:=by simp
 have hfin:∀ y,y<c.id.length→∀ e e',e<(At c q y).length→e' < (At c q y).length→(JJ c q (plc (Al c q) (gE c q y e))=JJ c q (plc (Al c q) (gE c q y e'))↔R y e=R y e'):=by
  intro y hy e e' he he';obtain ⟨m1,m2,m3⟩:=Q5U he;obtain ⟨n1,n2,n3⟩:=Q5U he';rw [JJ_iff hc hq m1 n1];constructor
  ·intro g;have:=hR.fin hc hq hk g m1;rw [m2,m3,n3] at this;exact this
  exact hR.snd y hy e e' he he'
 unfold QO;refine acc_Q (Q:=fun o=>(Q2X c q R→∃ m,Kd1 c q R m∧o=some (Sum.inr (c.n,c.fr,c.to,c.id,c.cs,(quoF (QM c q.variables_) (clsF c q R)).sz,(quoF (QM c q.variables_) (clsF c q R)).ac,m)))∧(¬ Q2X c q R→o=some (Sum.inl ()))) q.variables_.length (fun i=>(allE c q.variables_ i).map pX) (e:=(Al c q).map pX) (by simp [allE]) (by omega) (fun i hi=>?_) (by simp only;rw [if_neg (by omega)];rfl) ?_
 ·obtain ⟨v1,v2⟩:=hq.v.at' i hi;have al:=Q3l hc q.variables_ i;have rl:=Q5F c (VN q.variables_ i);simp only;rw [if_pos (by omega),Q2 (by omega),v1,e_outQ hc];simp only [zF,zL];rw [Option.bind_assoc];refine QN (rowE c (VN q.variables_ i)).length (fun j=>(allE c q.variables_ i).map pX++((rowE c (VN q.variables_ i)).take j).map fun h=>pX (i,h)) (e:=(allE c q.variables_ (i+1)).map pX) (by simp) (by omega) (fun j hj=>?_) (by simp only;rw [if_neg (by omega)];simp [allE,Function.comp_def]) ?_
  ·have e1:ix ((rowE c (VN q.variables_ i)).map Int.ofNat) j=((rowE c (VN q.variables_ i))[j]:Int):=(by simp [ix,qB,hj]);simp only;rw [if_pos (by omega),Q2 (by omega),e1,Q2 (by simp;omega),Q2 (by unfold B64;omega),zH hj,List.map_append,← List.append_assoc];rfl
  simp only [zF];rw [Q2 (by unfold B64;omega)]
 rw [e_numbP (by omega)];simp only [zF];unfold Q30;rw [mL,e_numbers (by omega) (by omega)];simp only [zF,Int.toNat_natCast];have hfind:∀ p∈Al c q,QV (pX p) (plM (fun i:Nat=>gx ((Al c q).map pX) i) (Al c q).length)=some (plc (Al c q) p:Int):=fun p hp=>by
  have:=find_P (Q9Q c q) hp
  rwa [mL] at this
 refine Q1p (σ:=List Int × Int) (Q:=fun o=>(Q2X c q R→∃ m,Kd1 c q R m∧o=some (Sum.inr (c.n,c.fr,c.to,c.id,c.cs,(quoF (QM c q.variables_) (clsF c q R)).sz,(quoF (QM c q.variables_) (clsF c q R)).ac,m)))∧(¬ Q2X c q R→o=some (Sum.inl ()))) q.left_.length (fun i s=>s.2=(i:Int)∧UF s.1 (RR (JL c q i)) (Al c q).length) (fun j=>UF j (JJ c q) (Al c q).length) (by omega) ⟨rfl,UF_id⟩ ?_ ?_ ?_
 ·rintro i ⟨j,i'⟩ hi ⟨hi',u⟩
  simp only at hi' u;subst hi';left;obtain ⟨m1,m2,m3⟩:=mem_Al.1 (hq.l hi);obtain ⟨r1,r2,r3⟩:=mem_Al.1 (hq.r hi);obtain ⟨f1,f2,f3,f4⟩:=Q1o hc m2;have tl:(tX (lQ q i)).arrow_=((lQ q i).2:Int):=rfl;have tr:(tX (rQ q i)).arrow_=((rQ q i).2:Int):=rfl;have vl:(tX (lQ q i)).variable_=((lQ q i).1:Int):=rfl;have vr:(tX (rQ q i)).variable_=((rQ q i).1:Int):=rfl;have rl:=Q5F c (toN c (lQ q i).2);simp only [hq.xl hi,hq.xr hi,tl,tr,vl,vr];rw [if_pos (by omega),Q2 (by omega),Q2 (by omega),Q2 (by omega),f3,e_outQ hc];simp only [zF,zL];rw [Option.bind_assoc];refine Q1p (σ:=List Int × Int) (Q:=fun o=>∃ s':List Int × Int,o=some (Ctl.next s')∧s'.2=((i+1:Nat):Int)∧UF s'.1 (RR (JL c q (i+1))) (Al c q).length) (rowE c (toN c (lQ q i).2)).length (fun k s=>s.2=(k:Int)∧UF s.1 (RR (JL c q i++((rowE c (toN c (lQ q i).2)).take k).map (jP c q i))) (Al c q).length) (fun j=>UF j (RR (JL c q (i+1))) (Al c q).length) (by omega) ⟨rfl,by simpa using u⟩ ?_ ?_ ?_
  ·rintro k ⟨j,k'⟩ hkk ⟨hk',u⟩
   simp only at hk' u;subst hk';left;have e1:ix ((rowE c (toN c (lQ q i).2)).map Int.ofNat) k=((rowE c (toN c (lQ q i).2))[k]:Int):=(by simp [ix,qB,hkk]);obtain ⟨w1,w2⟩:=mem_rowE.1 (zI hkk);generalize hh:(rowE c (toN c (lQ q i).2))[k]=h at e1 w1 w2;obtain ⟨g1,g2⟩:=jP_at hc hq hi w1 w2;have c1:=(Q4h hc m2 w1 w2.symm).1;have c2:=(Q4h hc r2 w1 (by rw [← hq.ct i hi];exact w2.symm)).1;obtain ⟨j',d,ej,u'⟩:=join_go u (Q3W g1) (Q3W g2) (by omega);have l1:=u.len;have l2:=u'.len;have t1:=hfind _ g1;have t2:=hfind _ g2;have p1:(⟨((lQ q i).1:Int),(cpN c (lQ q i).2 h:Int)⟩:XPairint64)=pX (thn c (lQ q i) h):=rfl;have p2:(⟨((rQ q i).1:Int),(cpN c (rQ q i).2 h:Int)⟩:XPairint64)=pX (thn c (rQ q i) h):=rfl;simp only;rw [if_pos (by omega),Q2 (by omega),e1,(Q9v hc (by omega) (by omega)).2];simp only [zF];rw [(Q9v hc (by omega) (by omega)).2];simp only [zF];rw [c1,c2,p1,p2,t1,t2];simp only [Option.getD_some];unfold joinE at ej;rw [ej];simp only [zF];rw [Q2 (by omega),Q2 (by unfold B64;omega)];refine ⟨_,rfl,by push_cast;rfl,?_⟩;rw [zH hkk,List.map_append,← List.append_assoc];simp only [List.map_cons,List.map_nil];rw [hh,RR_jP];exact u'
  ·rintro ⟨j,k'⟩ ⟨hk',u⟩
   simp only at hk' u;subst hk';simp only;rw [if_neg (by omega)];exact ⟨_,rfl,by simpa [JL] using u⟩
  intro j u;simp only [zF];rw [Q2 (by unfold B64;omega)];exact ⟨_,rfl,by push_cast;rfl,u⟩
 ·rintro ⟨j,i⟩ ⟨hi,u⟩
  simp only at hi u;subst hi;simp only;rw [if_neg (by omega)];exact ⟨_,rfl,u⟩
 intro j u;unfold Q1K;rw [Q2 hc.1.size2.1];simp only [zF];have lcm:(clsF c q R).length=c.id.length:=lc;have qz:∀ y:Nat,y<c.id.length→mxP (cls (R y) (At c q y).length) (cls (R y) (At c q y).length).length=mxP (rx (clsF c q R) y) (rx (clsF c q R) y).length:=fun y hy=>by rw [Q2x hy]
 refine Q1p (σ:=List Int × List Int × (List (XPairint64 × Int)) × Int) (Q:=fun o=>(Q2X c q R→∃ m,Kd1 c q R m∧o=some (Sum.inr (c.n,c.fr,c.to,c.id,c.cs,(quoF (QM c q.variables_) (clsF c q R)).sz,(quoF (QM c q.variables_) (clsF c q R)).ac,m)))∧(¬ Q2X c q R→o=some (Sum.inl ()))) c.id.length
  (fun y s=>s.2.2.2=(y:Int)∧UF s.1 (JJ c q) (Al c q).length∧s.2.1=quoZ (clsF c q R) y∧s.2.2.1.length≤200 * y∧∀ p∈Al c q,toN c p.2<y→QV (pX p) s.2.2.1=some (cl c q R p))
  (fun e=>e.1=quoZ (clsF c q R) c.id.length∧Kd1 c q R e.2) (by omega) ⟨rfl,u,by simp [quoZ,Qa6],by simp,fun p _ h=>by omega⟩ ?_ ?_ ?_
 ·rintro y ⟨j,sz,m,y'⟩ hy ⟨hy',u,hz,hm,hf⟩
  simp only at hy' u hz hm hf;subst hy';subst hz;left;have aL:=Q5L hc hq y;simp only;rw [if_pos (by omega)];refine Q1p (σ:=List Int × List Int × List XPairint64 × Int) (Q:=fun o=>∃ s':List Int × List Int × (List (XPairint64 × Int)) × Int,o=some (Ctl.next s')∧s'.2.2.2=((y+1:Nat):Int)∧UF s'.1 (JJ c q) (Al c q).length∧s'.2.1=quoZ (clsF c q R) (y+1)∧s'.2.2.1.length≤200 * (y+1)∧∀ p∈Al c q,toN c p.2<y+1→QV (pX p) s'.2.2.1=some (cl c q R p)) (Al c q).length
   (fun k s=>s.2.2.2=(k:Int)∧UF s.1 (JJ c q) (Al c q).length∧s.2.1=(((Al c q).take k).filter fun p=>decide (toN c p.2=y)).map (fun p=>(JJ c q (plc (Al c q) p):Int))∧s.2.2.1=(((Al c q).take k).filter fun p=>decide (toN c p.2=y)).map pX)
   (fun e=>UF e.1 (JJ c q) (Al c q).length∧e.2.1=(At c q y).map (fun p=>(JJ c q (plc (Al c q) p):Int))∧e.2.2=(At c q y).map pX) (by omega) ⟨rfl,u,by simp,by simp⟩ ?_ ?_ ?_
  ·rintro k ⟨j,lb,mb,k'⟩ hkk ⟨hk',u,hlb,hmb⟩
   simp only at hk' u hlb hmb;subst hk';subst hlb;subst hmb;left;have hmem:=zI hkk;obtain ⟨m1,m2,m3⟩:=mem_Al.1 hmem;obtain ⟨f1,f2,f3,f4⟩:=Q1o hc m2;have l1:=u.len;have fl:(((Al c q).take k).filter fun p=>decide (toN c p.2=y)).length≤k:=by
    have h1:=List.length_filter_le (fun p:Nat × Nat=>decide (toN c p.2=y)) ((Al c q).take k);simp only [List.length_take] at h1;omega
   have s2:(pX (Al c q)[k]).second_=((Al c q)[k].2:Int):=rfl;have hpl:plc (Al c q) (Al c q)[k]=k:=Q8a (Q9Q c q) hkk;simp only [Q4Y hkk,s2,zL];rw [if_pos (by omega),Q2 (by omega),Q2 (by omega),f3]
   by_cases z:toN c (Al c q)[k].2=y
   ·obtain ⟨j1,e1,w1⟩:=Q8T k j fuel u hkk (by unfold fuel;omega);have l2:=w1.len;rw [if_pos (by omega),e1];simp only [zF];rw [Q2 (by omega),Q2 (by simp only [qE,zL,List.length_singleton];omega),Q2 (by simp only [qE,zL,List.length_singleton];omega)];simp only [zF];rw [Q2 (by unfold B64;omega)];refine ⟨_,rfl,by push_cast;rfl,w1,?_,?_⟩
    ·rw [Q4b hkk,if_pos (by simpa using z)];simp [hpl]
    rw [Q4b hkk,if_pos (by simpa using z)];simp
   rw [if_neg (by omega)];simp only [zF];rw [Q2 (by unfold B64;omega)];refine ⟨_,rfl,by push_cast;rfl,u,?_,?_⟩
   ·rw [Q4b hkk,if_neg (by simpa using z)];simp
   rw [Q4b hkk,if_neg (by simpa using z)];simp
  ·rintro ⟨j,lb,mb,k'⟩ ⟨hk',u,hlb,hmb⟩
   simp only at hk' u hlb hmb;subst hk';simp only [zL];rw [if_neg (by omega)];rw [List.take_length] at hlb hmb;exact ⟨_,rfl,u,hlb,hmb⟩
  rintro ⟨j,lb,mb⟩ ⟨u,hlb,hmb⟩
  simp only at u hlb hmb;subst hlb;subst hmb;have lab:∀ e:Nat,e<(At c q y).length→ix ((At c q y).map fun p=>(JJ c q (plc (Al c q) p):Int)) e=(JJ c q (plc (Al c q) (gE c q y e)):Int):=fun e he=>by simp [ix,qB,he,gE]
  have hnm:=e_normalG (L:=(At c q y).map fun p=>(JJ c q (plc (Al c q) p):Int)) (r:=R y) (n:=(At c q y).length) (by simp) (hR.rp y hy) (fun e e' he he'=>by
   rw [lab e he,lab e' he',← hfin y hy e e' he he'];omega) (by omega)
  have hcl:=Q2H (R y) (At c q y).length;simp only;rw [hnm];simp only [zF,zL];refine Q1p (σ:=(List (XPairint64 × Int)) × Int) (Q:=fun o=>∃ s':List Int × List Int × (List (XPairint64 × Int)) × Int,o=some (Ctl.next s')∧s'.2.2.2=((y+1:Nat):Int)∧UF s'.1 (JJ c q) (Al c q).length∧s'.2.1=quoZ (clsF c q R) (y+1)∧s'.2.2.1.length≤200 * (y+1)∧∀ p∈Al c q,toN c p.2<y+1→QV (pX p) s'.2.2.1=some (cl c q R p)) (At c q y).length
   (fun e s=>s.2=(e:Int)∧s.1.length≤200 * y+e∧(∀ p∈Al c q,toN c p.2<y→QV (pX p) s.1=some (cl c q R p))∧∀ e',e' < e→QV (pX (gE c q y e')) s.1=some (cl c q R (gE c q y e')))
   (fun m=>m.length≤200 * (y+1)∧∀ p∈Al c q,toN c p.2<y+1→QV (pX p) m=some (cl c q R p)) (by omega) ⟨rfl,by simpa using hm,hf,fun e he=>by omega⟩ ?_ ?_ ?_
  ·rintro e ⟨m,e'⟩ he ⟨he',hm,h1,h2⟩
   simp only at he' hm h1 h2;subst he';left;obtain ⟨g1,g2,g3⟩:=Q5U he;have hx:gx ((At c q y).map pX) e=pX (gE c q y e):=(by rw [Q4Y he];simp [gE,qB,he]);have hv:=cl_gE (R:=R) he;simp only [hx];rw [if_pos (by omega),Q2 (by omega),Q2 (by omega),Q2 (by omega),Q2 (by unfold B64;omega)];have tl:=Qa9 (pX (gE c q y e)) (ix (cls (R y) (At c q y).length) e) m;refine ⟨_,rfl,by push_cast;rfl,by simp only;omega,fun p hp hlt=>?_,fun e' he'=>?_⟩
   ·simp only;rw [Q45,if_neg (fun z=>by have:=pX_inj z;rw [← this,g2] at hlt;omega)];exact h1 p hp hlt
   simp only;rw [Q45]
   by_cases z:e'=e
   ·subst z;rw [if_pos rfl,hv]
   rw [if_neg (fun w=>z (by
    have:=pX_inj w;have k3:=(Q5U (c:=c) (q:=q) (y:=y) (e:=e') (by omega)).2.2;rw [← this,g3] at k3;exact k3.symm))]
   exact h2 e' (by omega)
  ·rintro ⟨m,e'⟩ ⟨he',hm,h1,h2⟩
   simp only at he' hm h1 h2;subst he';simp only;rw [if_neg (by omega)];refine ⟨_,rfl,by omega,fun p hp hlt=>?_⟩
   by_cases z:toN c p.2=y
   ·have g:=Q4D hp;rw [z] at g;have:=h2 _ g.1
    rwa [g.2] at this
   exact h1 p hp (by omega)
  rintro m ⟨hm,h1⟩
  rw [e_clsN (hR.rp y hy) (by omega)];simp only [zF];rw [Q2 (by simp [quoZ];omega),Q2 (by unfold B64;omega)];refine ⟨_,rfl,by push_cast;rfl,u,?_,hm,h1⟩;simp only;rw [qz y hy,quoZ,quoZ,Q1U]
 ·rintro ⟨j,sz,m,y'⟩ ⟨hy',u,hz,hm,hf⟩
  simp only at hy' u hz hm hf;subst hy';subst hz;simp only;rw [if_neg (by omega)];exact ⟨_,rfl,rfl,fun p hp=>hf p hp (Q6G hc (mem_Al.1 hp).2.1).2⟩
 rintro ⟨sz,m⟩ ⟨hz,hm⟩
 simp only at hz hm;subst hz;have zsz:(quoF (QM c q.variables_) (clsF c q R)).sz=quoZ (clsF c q R) c.id.length:=by simp only [quoF,lcm]
 have zb:∀ y:Nat,y<c.id.length→ix (quoZ (clsF c q R) c.id.length) y=mxP (cls (R y) (At c q y).length) (At c q y).length∧0≤mxP (cls (R y) (At c q y).length) (At c q y).length∧mxP (cls (R y) (At c q y).length) (At c q y).length≤160∧∀ e:Nat,e<(At c q y).length→0≤ix (cls (R y) (At c q y).length) e∧ix (cls (R y) (At c q y).length) e<mxP (cls (R y) (At c q y).length) (At c q y).length:=by
  intro y hy;have e1:ix (quoZ (clsF c q R) c.id.length) y=mxP (rx (clsF c q R) y) (rx (clsF c q R) y).length:=Q4k _ _ hy;have hl:=Q2H (R y) (At c q y).length;rw [Q2x hy,hl] at e1;have aL:=Q5L hc hq y;obtain ⟨b1,b2⟩:=mxP_bd (L:=cls (R y) (At c q y).length) (n:=((At c q y).length:Int)) (by omega) (fun e he=>Q72 (hR.rp y hy) (by omega)) (At c q y).length (by omega);exact ⟨e1,by omega,by omega,fun e he=>⟨(Q72 (hR.rp y hy) he).1,b2 e he⟩⟩
 have fit:(quoZ (clsF c q R) c.id.length).all (inR 17)=bo (Q2X c q R):=by
  unfold Q2X;rw [lcm];have e2:(quoZ (clsF c q R) c.id.length).all (inR 17)=(quoZ (clsF c q R) c.id.length).all fun x=>decide (x≤16):=by
   rw [Bool.eq_iff_iff,List.all_eq_true,List.all_eq_true];refine forall_congr' fun x=>forall_congr' fun hx=>?_;obtain ⟨i,hi,rfl⟩:=List.getElem_of_mem hx;have hi':i<c.id.length:=(by simpa [quoZ] using hi);have z:=zb i hi';rw [← Q1d _ _ hi] at *;simp only [inR,Bool.and_eq_true,decide_eq_true_eq];omega
  rw [e2];unfold mad;cases (quoZ (clsF c q R) c.id.length).all fun x=>decide (x≤16)<;>simp [bo]
 unfold Q3x Q2c;rw [Q2 (by unfold B64;omega)];simp only [zF];rw [fit]
 by_cases hfit:Q2X c q R
 ·refine ⟨fun _=>?_,fun h=>absurd hfit h⟩;rw [QX hfit,if_neg (by simp),zsz];have al:(QM c q.variables_).ac.length=c.fr.length:=by simp [QM]
  refine acc_Q (Q:=fun o=>∃ m,Kd1 c q R m∧o=some (Sum.inr (c.n,c.fr,c.to,c.id,c.cs,quoZ (clsF c q R) c.id.length,(quoF (QM c q.variables_) (clsF c q R)).ac,m))) c.fr.length (fun i=>tab i fun a=>quoA (QM c q.variables_) (clsF c q R) a (rx (QM c q.variables_).ac a).length) (e:=(quoF (QM c q.variables_) (clsF c q R)).ac) rfl (by omega) (fun a ha=>?_) (by simp only;rw [if_neg (by omega)];simp only [quoF,al]) ?_
  ·obtain ⟨f1,f2,f3,f4⟩:=Q1o hc ha;obtain ⟨z1,z2,z3,z4⟩:=zb _ f2;obtain ⟨g1,g2⟩:=Q8D (q:=q) ha;have sf:(QM c q.variables_).s=c:=rfl;have qa0:quoA (QM c q.variables_) (clsF c q R) a 0=qW (mxP (cls (R (frN c a)) (At c q (frN c a)).length) (At c q (frN c a)).length).toNat 0:=by
    simp only [quoA,sf,f1,List.range_zero,List.foldl_nil];rw [Q2x f2,Q2H]
   have zl:(quoZ (clsF c q R) c.id.length).length=c.id.length:=(by simp [quoZ]);simp only [f1];rw [if_pos (by omega),Q2 (by omega),Q2 (by omega),z1,Q2 (by omega)];refine QN (Al c q).length (fun k=>quoA (QM c q.variables_) (clsF c q R) a (((Al c q).take k).filter fun p=>decide (toN c p.2=frN c a)).length) (e:=quoA (QM c q.variables_) (clsF c q R) a (rx (QM c q.variables_).ac a).length) (by simp [qa0]) (by omega) (fun k hkk=>?_) (by
    simp only [zL];rw [if_neg (by omega),List.take_length,g1];rfl) ?_
   ·have hmem:=zI hkk;obtain ⟨m1,m2,m3⟩:=mem_Al.1 hmem;obtain ⟨h1,h2,h3,h4⟩:=Q1o hc m2;have s2:(pX (Al c q)[k]).second_=((Al c q)[k].2:Int):=rfl;have s1:(pX (Al c q)[k]).first_=((Al c q)[k].1:Int):=rfl;have lq:=Q7m (QM c q.variables_) (clsF c q R) a (((Al c q).take k).filter fun p=>decide (toN c p.2=frN c a)).length;rw [sf,f1,Q2x f2,Q2H] at lq;simp only [Q4Y hkk,s1,s2,zL];rw [if_pos (by omega),Q2 (by omega),Q2 (by omega),h3,Q2 (by omega),Q4b hkk]
    by_cases z:toN c (Al c q)[k].2=frN c a
    ·have tk:=take_at (P:=fun p=>decide (toN c p.2=frN c a)) hkk (by simpa using z);have gg:=gE_some (c:=c) (q:=q) (y:=frN c a) tk;generalize hnk:(((Al c q).take k).filter fun p=>decide (toN c p.2=frN c a)).length=nk at *;have zz:=z4 nk gg.2;have k1:=hm _ hmem;have cv:cl c q R (Al c q)[k]=ix (cls (R (frN c a)) (At c q (frN c a)).length) nk:=by
      have:=cl_gE (R:=R) gg.2
      rwa [gg.1] at this
     obtain ⟨tm,tt⟩:=Q3E hc hmem ha z;have k2:=hm _ tm;have cp:=(Q4h hc m2 ha z).1;have p1:(⟨((Al c q)[k].1:Int),(cpN c (Al c q)[k].2 a:Int)⟩:XPairint64)=pX (thn c (Al c q)[k] a):=rfl;have an:=g2 nk (by omega);have anv:=Q6r hc ha (q:=q) gg.2;have cv2:cl c q R (thn c (Al c q)[k] a)=ix (rx (clsF c q R) (toN c a)) (aN c q a nk):=by
      rw [Q2x f4,← cl_gE anv.1,anv.2,gg.1]
     rw [if_pos (by omega),(Q9v hc (by omega) (by omega)).2];simp only [zF];rw [cp,p1,k1,k2];simp only [Option.getD_some];rw [cv,Q2 (by omega)];simp only [zF];rw [Q2 (by unfold B64;omega),if_pos (by simpa using z)];simp only [qE,List.length_singleton,hnk];rw [Q9Z (f:=QM c q.variables_) f1 f3,Q2x f2,an,cv2]
    rw [if_neg (by omega)];simp only [zF];rw [Q2 (by unfold B64;omega),if_neg (by simpa using z)];simp
   rw [Q2 (by simp;omega),Q2 (by unfold B64;omega),Q1U]
  exact ⟨m,hm,rfl⟩
 refine ⟨fun h=>absurd h hfit,fun _=>?_⟩;rw [QH hfit,if_pos (by simp)]
end
attribute [local simp] unk unA unE unT unC flat eL eI Qf Q28 Q6 Qe Cat.cells XQuery.cells XTerm.cells
noncomputable def QY (c_:Cat) (q_:XQuery) (t_:XTerm):Option Bool :=
 (
  ass (B64 ((q_.variables_.length:Int) - 1)) <|
  (Q1t t_.variable_ 0 ((q_.variables_.length:Int) - 1)).bind fun v3 =>
  if v3=true then
   (Q1s c_).bind fun v5 =>
   ass (B64 (v5 - 1)) <|
   (Q1t t_.arrow_ 0 (v5 - 1)).bind fun v7 =>
   if v7=true then
    ass (0≤t_.arrow_∧t_.arrow_<(c_.fr.length:Int)) <|
    ass (0≤t_.variable_∧t_.variable_<(q_.variables_.length:Int)) <|
    some ((ix c_.fr t_.arrow_) == (ix q_.variables_ t_.variable_))
   else
    some false
  else
   some false:Option (Bool)).bind fun b1 =>
 some b1
theorem Q2T (c_:Cat) (q_:XQuery) (t_:XTerm) (r:Bool) (h:QY c_ q_ t_=some r):Contract Try.prog 118 [.rptr (c_.cells true),.rptr (q_.cells true),.agg (t_.cells true)] (.val (.bool r)):=by
 refine Qd (rvs:=[.tmp 6]) (rs:=[.val (.bool r)]) Try.func118 rfl rfl rfl rfl (by simp [Try.f118]) fun F hN hP=>?_;unfold QY at h;refine Q1 (runQ hN fun K hK=>?_);simp;repeat refine sdQ ?_
 refine hK _ (tn (Q4 (st':=⟨Ya c_ q_ [(5,.adr 0 0 0)],Y02 t_ [],1⟩) (QD [(0,0)]) (Q1 ?_)));clear hK K;replace ⟨e1,h,h1⟩:=bind_some h;refine Qk (fun b1:Bool=>⟨[(6,.val (.bool b1))],[],0⟩) (fun b1=>b1=e1) ?_ ?_
 ·refine runQ hN fun K hK=>?_;replace ⟨a2,h⟩:=Q0 h;simp [Qm a2];repeat with_reducible refine sdQ ?_
  replace ⟨v3,hv3,h⟩:=bind_some h;refine Q3 (Q3G _ _ _ v3 hv3) (.cons .val (.cons .val (.cons .val .nil))) ?_;simp;repeat with_reducible refine sdQ ?_
  refine QB (fun g=>?_) (fun g=>?_)
  ·have g4:v3=true:=gQ;clear g;replace h:=if_l g4 h;simp;(repeat with_reducible refine sdQ ?_);replace ⟨v5,hv5,h⟩:=bind_some h;refine Q3 (Q4t _ v5 hv5) (.cons (.preT (by simp [Cat.cells,XQuery.cells,XTerm.cells])) .nil) ?_;replace ⟨a6,h⟩:=Q0 h;simp [Qm a6];(repeat with_reducible refine sdQ ?_);replace ⟨v7,hv7,h⟩:=bind_some h;refine Q3 (Q3G _ _ _ v7 hv7) (.cons .val (.cons .val (.cons .val .nil))) ?_;simp;(repeat with_reducible refine sdQ ?_);refine QB (fun g=>?_) (fun g=>?_)
   ·have g8:v7=true:=gQ;clear g;replace h:=if_l g8 h;replace ⟨a9,h⟩:=Q0 h;replace ⟨a10,h⟩:=Q0 h;simp [at_I a9,at_I a10];(repeat refine sdQ ?_);refine hK _ ?_;exact jn (b:=(ix c_.fr t_.arrow_) == (ix q_.variables_ t_.variable_)) (zC h) (QD [])
   have g8:¬ (v7=true):=gQ;clear g;replace h:=if_r g8 h;simp;(repeat refine sdQ ?_);refine hK _ ?_;exact jn (b:=false) (zC h) (QD [])
  have g4:¬ (v3=true):=gQ;clear g;replace h:=if_r g4 h;simp;repeat refine sdQ ?_
  refine hK _ ?_;exact jn (b:=false) (zC h) (QD [])
 intro b1 hb1;have h:=h1;try rw [← hb1] at h
 clear h1;try dsimp only at h
 refine Ql ?_;have hr:=zC h;rw [← hr];refine ⟨_,(.tmp .nil),?_⟩;refine ⟨(.one rfl rfl .nil),[.val (.bool b1)],[],by simp [Cat.cells,XQuery.cells,XTerm.cells,UA,U1,IA,I1,LA,L1,BA,B1,EA,E1,E2,eB,eI,eL,Q5 _ Q6 _ (fun _=>rfl),Q5 _ Qe _ (fun _=>rfl)],by simp,(UpL.refl _)⟩
attribute [local simp] unk unA unE unT unC flat eL eI Qf Q28 Q6 Qe Cat.cells XQuery.cells XTerm.cells
noncomputable def QP (c_:Cat) (q_:XQuery) (left_:XTerm) (right_:XTerm):Option Bool :=
 (
  (QY c_ q_ left_).bind fun v2 =>
  if v2=true then
   (QY c_ q_ right_).bind fun v4 =>
   if v4=true then
    ass (0≤left_.arrow_∧left_.arrow_<(c_.to.length:Int)) <|
    ass (0≤right_.arrow_∧right_.arrow_<(c_.to.length:Int)) <|
    some ((ix c_.to left_.arrow_) == (ix c_.to right_.arrow_))
   else
    some false
  else
   some false:Option (Bool)).bind fun b1 =>
 some b1
theorem Q3j (c_:Cat) (q_:XQuery) (left_:XTerm) (right_:XTerm) (r:Bool) (h:QP c_ q_ left_ right_=some r):Contract Try.prog 107 [.rptr (c_.cells true),.rptr (q_.cells true),.agg (left_.cells true),.agg (right_.cells true)] (.val (.bool r)):=by
 refine Qd (rvs:=[.tmp 8]) (rs:=[.val (.bool r)]) Try.func107 rfl rfl rfl rfl (by simp [Try.f107]) fun F hN hP=>?_;unfold QP at h;refine Q1 (runQ hN fun K hK=>?_);simp;repeat refine sdQ ?_
 refine hK _ (tn (Q4 (st':=⟨Ya c_ q_ [(6,.adr 0 0 0),(7,.adr 1 0 0)],Y02 left_ [(1,.mix 2 [(XTerm.cells true right_)])],2⟩) (QD [(0,0),(1,1)]) (Q1 ?_)));clear hK K;replace ⟨e1,h,h1⟩:=bind_some h;refine Qk (fun b1:Bool=>⟨[(8,.val (.bool b1))],[],0⟩) (fun b1=>b1=e1) ?_ ?_
 ·refine runQ hN fun K hK=>?_;simp;repeat with_reducible refine sdQ ?_
  replace ⟨v2,hv2,h⟩:=bind_some h;refine Q3 (Q2T _ _ _ v2 hv2) (.cons (.preT (by simp [Cat.cells,XQuery.cells,XTerm.cells])) (.cons (.preT (by simp [Cat.cells,XQuery.cells,XTerm.cells])) (.cons (.aggL (.cons .val (.cons .val .nil))) .nil))) ?_;simp;repeat with_reducible refine sdQ ?_
  refine QB (fun g=>?_) (fun g=>?_)
  ·have g3:v2=true:=gQ;clear g;replace h:=if_l g3 h;simp;(repeat with_reducible refine sdQ ?_);replace ⟨v4,hv4,h⟩:=bind_some h;refine Q3 (Q2T _ _ _ v4 hv4) (.cons (.preT (by simp [Cat.cells,XQuery.cells,XTerm.cells])) (.cons (.preT (by simp [Cat.cells,XQuery.cells,XTerm.cells])) (.cons (.aggL (.cons .val (.cons .val .nil))) .nil))) ?_;simp;(repeat with_reducible refine sdQ ?_);refine QB (fun g=>?_) (fun g=>?_)
   ·have g5:v4=true:=gQ;clear g;replace h:=if_l g5 h;replace ⟨a6,h⟩:=Q0 h;replace ⟨a7,h⟩:=Q0 h;simp [at_I a6,at_I a7];(repeat refine sdQ ?_);refine hK _ ?_;exact jn (b:=(ix c_.to left_.arrow_) == (ix c_.to right_.arrow_)) (zC h) (QD [])
   have g5:¬ (v4=true):=gQ;clear g;replace h:=if_r g5 h;simp;(repeat refine sdQ ?_);refine hK _ ?_;exact jn (b:=false) (zC h) (QD [])
  have g3:¬ (v2=true):=gQ;clear g;replace h:=if_r g3 h;simp;repeat refine sdQ ?_
  refine hK _ ?_;exact jn (b:=false) (zC h) (QD [])
 intro b1 hb1;have h:=h1;try rw [← hb1] at h
 clear h1;try dsimp only at h
 refine Ql ?_;have hr:=zC h;rw [← hr];refine ⟨_,(.tmp .nil),?_⟩;refine ⟨(.one rfl rfl .nil),[.val (.bool b1)],[],by simp [Cat.cells,XQuery.cells,XTerm.cells,UA,U1,IA,I1,LA,L1,BA,B1,EA,E1,E2,eB,eI,eL,Q5 _ Q6 _ (fun _=>rfl),Q5 _ Qe _ (fun _=>rfl)],by simp,(UpL.refl _)⟩
attribute [local simp] unk unA unE unT unC flat eL eI Qf Q28 Q6 Qe Cat.cells XQuery.cells XTerm.cells
noncomputable def Q12 (c_:Cat) (q_:XQuery):Option Bool :=
 (
  if (q_.variables_.length:Int) > 4 then
   some true
  else
   (Q2c q_.variables_ c_.n).bind fun v3 =>
   if ¬ (v3=true) then
    some true
   else
    if (q_.left_.length:Int) > 6 then
     some true
    else
     some ((q_.right_.length:Int) != (q_.left_.length:Int)):Option (Bool)).bind fun b1 =>
 if b1=true then
  some false
 else
  (QA (σ:=Int) (ε:=Unit ⊕ Bool) (fun s14 =>
   if s14<(q_.left_.length:Int) then
    ass (0≤s14∧s14<(q_.left_.length:Int)) <|
    ass (0≤s14∧s14<(q_.right_.length:Int)) <|
    (QP c_ q_ (gx q_.left_ s14) (gx q_.right_ s14)).bind fun v18 =>
    if ¬ (v18=true) then
     some (Ctl.ret (Sum.inr false))
    else
     ass (B64 (s14+1)) <|
     some (Ctl.next (s14+1))
   else
    some (Ctl.ret (Sum.inl ()))) fuel 0).bind fun e7 =>
  match e7 with
  | .inl b7 =>
   (
    if (q_.output_.length:Int)≤4 then
     (Q2c q_.output_ (q_.variables_.length:Int)).bind fun v23 =>
     some v23
    else
     some false:Option (Bool)).bind fun b21 =>
   some b21
  | .inr p7 =>
   some p7
theorem Q4e (c_:Cat) (q_:XQuery) (r:Bool) (h:Q12 c_ q_=some r):Contract Try.prog 71 [.rptr (c_.cells true),.rptr (q_.cells true)] (.val (.bool r)):=by
 refine Qd (rvs:=[.tmp 4]) (rs:=[.val (.bool r)]) Try.func71 rfl rfl rfl rfl (by simp [Try.f71]) fun F hN hP=>?_;unfold Q12 at h;refine Q1 (runQ hN fun K hK=>?_);simp;repeat refine sdQ ?_
 refine hK _ (tn (Q4 (st':=⟨Ya c_ q_ [],[],0⟩) (QD []) (Q1 (Q1 ?_))));clear hK K;replace ⟨e1,h,h1⟩:=bind_some h;refine Qk (fun b1:Bool=>⟨Ya c_ q_ [(44,.val (.bool b1))],[],0⟩) (fun b1=>b1=e1) ?_ ?_
 ·refine runQ hN fun K hK=>?_;simp;repeat with_reducible refine sdQ ?_
  refine QB (fun g=>?_) (fun g=>?_)
  ·have g2:¬ ((q_.variables_.length:Int) > 4):=gQ;clear g;replace h:=if_r g2 h;simp;(repeat with_reducible refine sdQ ?_);replace ⟨v3,hv3,h⟩:=bind_some h;refine Q3 (Q59 _ _ v3 hv3) (.cons .lst (.cons .val .nil)) ?_;simp;(repeat with_reducible refine sdQ ?_);refine QB (fun g=>?_) (fun g=>?_)
   ·have g4:¬ (¬ (v3=true)):=gQ;clear g;replace h:=if_r g4 h;simp;(repeat with_reducible refine sdQ ?_);refine QB (fun g=>?_) (fun g=>?_)
    ·have g5:¬ ((q_.left_.length:Int) > 6):=gQ;clear g;replace h:=if_r g5 h;simp;(repeat refine sdQ ?_);refine hK _ ?_;exact jn (b:=(q_.right_.length:Int) != (q_.left_.length:Int)) (zC h) (QD [])
    have g5:(q_.left_.length:Int) > 6:=gQ;clear g;replace h:=if_l g5 h;simp;(repeat refine sdQ ?_);refine hK _ ?_;exact jn (b:=true) (zC h) (QD [])
   have g4:¬ (v3=true):=gQ;clear g;replace h:=if_l g4 h;simp;(repeat refine sdQ ?_);refine hK _ ?_;exact jn (b:=true) (zC h) (QD [])
  have g2:(q_.variables_.length:Int) > 4:=gQ;clear g;replace h:=if_l g2 h;simp;repeat refine sdQ ?_
  refine hK _ ?_;exact jn (b:=true) (zC h) (QD [])
 intro b1 hb1;have h:=h1;try rw [← hb1] at h
 clear h1;try dsimp only at h
 refine Qa rfl (fun g=>?_) fun g=>?_
 ·have g6:b1=true:=gQ;clear g;replace h:=if_l g6 h;refine Q1 (runQ hN fun K hK=>?_);simp;repeat refine sdQ ?_
  refine hK _ (tn (Q4 (st':=⟨Y01 [],[],0⟩) (QD []) (Ql (tr ?_))));clear hK K;have hr:=zC h;rw [← hr];refine ⟨_,(.tmp .nil),?_⟩;refine ⟨(.one rfl rfl .nil),[.val (.bool false)],[],by simp [Cat.cells,XQuery.cells,XTerm.cells,UA,U1,IA,I1,LA,L1,BA,B1,EA,E1,E2,eB,eI,eL,Q5 _ Q6 _ (fun _=>rfl),Q5 _ Qe _ (fun _=>rfl)],by simp,(UpL.refl _)⟩
 have g6:¬ (b1=true):=gQ;clear g;replace h:=if_r g6 h;refine Qc (tn (Q1 (Q1 (runQ hN fun K hK=>?_))));simp;repeat refine sdQ ?_
 refine hK _ (tn (Q4 (st':=⟨Ya c_ q_ [(49,iV (q_.left_.length:Int)),(50,iV 0)],[],0⟩) (QD []) ?_));clear hK K;replace ⟨e7,h,h7⟩:=bind_some h;refine Qk (fun b7:Unit=>⟨[(1,.rptr (XQuery.cells true q_))],[],0⟩) (fun b7=>Sum.inl b7=e7) ?_ ?_
 ·refine Q7 (Qu h (fun s14:Int=>⟨Ya c_ q_ [(49,iV (q_.left_.length:Int)),(50,iV s14)],[],0⟩) (QD []) ?_);clear h;intro k14 s14 c14 h hk14;refine Q1 (runQ hN fun K hK=>?_);simp;repeat refine sdQ ?_
  refine hK _ ?_;clear hK K;refine tn (Q1 (Qa rfl (fun g=>?_) fun g=>?_))
  ·have g15:s14<(q_.left_.length:Int):=gQ;clear g;replace h:=if_l g15 h;refine Qc (tn (Q1 (Q7 (Q1 (runQ hN fun K hK=>?_)))));simp;(repeat refine sdQ ?_);refine hK _ ?_;clear hK K;refine tn (Q4 (st':=⟨Ya c_ q_ [(5,iV s14),(49,iV (q_.left_.length:Int)),(50,iV s14)],[],0⟩) (QD []) (Q1 (runQ hN fun K hK=>?_)));replace ⟨a16,h⟩:=Q0 h;replace ⟨a17,h⟩:=Q0 h;simp [at_E (c:=(XTerm.cells true)) a16,at_E (c:=(XTerm.cells true)) a17];(repeat with_reducible refine sdQ ?_);replace ⟨v18,hv18,h⟩:=bind_some h;refine Q3 (Q3j _ _ _ _ v18 hv18) (.cons (.preT (by simp [Cat.cells,XQuery.cells,XTerm.cells])) (.cons (.preT (by simp [Cat.cells,XQuery.cells,XTerm.cells])) (.cons (.aggL (.cons .val (.cons .val .nil))) (.cons (.aggL (.cons .val (.cons .val .nil))) .nil)))) ?_;simp [at_E (c:=(XTerm.cells true)) a16,at_E (c:=(XTerm.cells true)) a17];(repeat refine sdQ ?_);refine hK _ ?_;clear hK K;refine tn (Q4 (st':=⟨Ya c_ q_ [(49,iV (q_.left_.length:Int)),(50,iV s14),(70,.val (.bool (!v18)))],[],0⟩) (QD []) (Qa rfl (fun g=>?_) fun g=>?_))
   ·have g19:¬ (v18=true):=gQ;clear g;replace h:=if_l g19 h;refine Q1 (runQ hN fun K hK=>?_);simp;(repeat refine sdQ ?_);refine hK _ (tn (Q4 (st':=⟨Y01 [],[],0⟩) (QD []) (Ql (br (tr (lr (br (tr ?_))))))));clear hK K;cases h;have q:_=e7:=hk14;have h:=h7;rw [← q] at h;clear q;(try dsimp only at h);have hr:=zC h;rw [← hr];refine ⟨_,(.tmp .nil),?_⟩;refine ⟨(.one rfl rfl .nil),[.val (.bool false)],[],by simp [Cat.cells,XQuery.cells,XTerm.cells,UA,U1,IA,I1,LA,L1,BA,B1,EA,E1,E2,eB,eI,eL,Q5 _ Q6 _ (fun _=>rfl),Q5 _ Qe _ (fun _=>rfl)],by simp,(UpL.refl _)⟩
   have g19:¬ (¬ (v18=true)):=gQ;clear g;replace h:=if_r g19 h;refine Qc (bn (tn (runQ hN fun K hK=>?_)));replace ⟨a20,h⟩:=Q0 h;simp [Qm a20];(repeat refine sdQ ?_);refine hK _ ?_;clear hK K;cases h;exact rn (s':=s14+1) hk14 (QD [])
  have g15:¬ (s14<(q_.left_.length:Int)):=gQ;clear g;replace h:=if_r g15 h;refine Qp (tx (lx (bh ?_)));cases h;exact jn (b:=()) hk14 (QD [])
 intro b7 hb7;have h:=h7;try rw [← hb7] at h
 clear h7;try dsimp only at h
 refine Q1 ?_;replace ⟨e21,h,h21⟩:=bind_some h;refine Qk (fun b21:Bool=>⟨[(4,.val (.bool b21))],[],0⟩) (fun b21=>b21=e21) ?_ ?_
 ·refine runQ hN fun K hK=>?_;simp;repeat with_reducible refine sdQ ?_
  refine QB (fun g=>?_) (fun g=>?_)
  ·have g22:(q_.output_.length:Int)≤4:=gQ;clear g;replace h:=if_l g22 h;simp;(repeat with_reducible refine sdQ ?_);replace ⟨v23,hv23,h⟩:=bind_some h;refine Q3 (Q59 _ _ v23 hv23) (.cons .lst (.cons .val .nil)) ?_;simp;(repeat refine sdQ ?_);refine hK _ ?_;exact jn (b:=v23) (zC h) (QD [])
  have g22:¬ ((q_.output_.length:Int)≤4):=gQ;clear g;replace h:=if_r g22 h;simp;repeat refine sdQ ?_
  refine hK _ ?_;exact jn (b:=false) (zC h) (QD [])
 intro b21 hb21;have h:=h21;try rw [← hb21] at h
 clear h21;try dsimp only at h
 refine Ql ?_;have hr:=zC h;rw [← hr];refine ⟨_,(.tmp .nil),?_⟩;refine ⟨(.one rfl rfl .nil),[.val (.bool b21)],[],by simp [Cat.cells,XQuery.cells,XTerm.cells,UA,U1,IA,I1,LA,L1,BA,B1,EA,E1,E2,eB,eI,eL,Q5 _ Q6 _ (fun _=>rfl),Q5 _ Qe _ (fun _=>rfl)],by simp,(UpL.refl _)⟩
attribute [local simp] unk unA unE unT unC flat eL eI Qf Q28 Q6 Cat.cells XQuery.cells
noncomputable def Q1Q (c_:Cat) (list_:List XQuery):Option Bool :=
 (Q15 c_).bind fun v1 =>
 if ¬ (v1=true) then
  some false
 else
  (QA (σ:=Int) (ε:=Unit ⊕ Bool) (fun s9 =>
   if s9<(list_.length:Int) then
    ass (0≤s9∧s9<(list_.length:Int)) <|
    (Q12 c_ (gx list_ s9)).bind fun v12 =>
    if ¬ (v12=true) then
     some (Ctl.ret (Sum.inr false))
    else
     ass (B64 (s9+1)) <|
     some (Ctl.next (s9+1))
   else
    some (Ctl.ret (Sum.inl ()))) fuel 0).bind fun e3 =>
  match e3 with
  | .inl b3 =>
   some true
  | .inr p3 =>
   some p3
@[simp] abbrev Y09 (a:List XQuery) (b:List (Nat × AV)):List (Nat × AV):=(10,.lst true 1 (Es Q6 a))::(11,iV (a.length:Int))::b
theorem Q6w (c_:Cat) (list_:List XQuery) (r:Bool) (h:Q1Q c_ list_=some r):Contract Try.prog 35 [.rptr (c_.cells true),.lst true 1 (Es Q6 list_)] (.val (.bool r)):=by
 refine Qd (rvs:=[.tmp 4]) (rs:=[.val (.bool r)]) Try.func35 rfl rfl rfl rfl (by simp [Try.f35]) fun F hN hP=>?_;unfold Q1Q at h;refine Q1 (runQ hN fun K hK=>?_);simp;repeat refine sdQ ?_
 refine hK _ ?_;clear hK K;refine tn (Q4 (st':=⟨Y07 c_ [(1,.lst true 1 (Es Q6 list_))],[],0⟩) (QD []) (Q1 (Q1 (runQ hN fun K hK=>?_))));simp;repeat with_reducible refine sdQ ?_
 replace ⟨v1,hv1,h⟩:=bind_some h;refine Q3 (Q3F _ v1 hv1) (.cons (.preT (by simp [Cat.cells,XQuery.cells])) .nil) ?_;simp;repeat refine sdQ ?_
 refine hK _ ?_;clear hK K;refine tn (Q4 (st':=⟨Y07 c_ [(1,.lst true 1 (Es Q6 list_)),(9,.val (.bool (!v1)))],[],0⟩) (QD []) (Qa rfl (fun g=>?_) fun g=>?_))
 ·have g2:¬ (v1=true):=gQ;clear g;replace h:=if_l g2 h;refine Q1 (runQ hN fun K hK=>?_);simp;repeat refine sdQ ?_
  refine hK _ (tn (Q4 (st':=⟨Y01 [],[],0⟩) (QD []) (Ql (tr ?_))));clear hK K;have hr:=zC h;rw [← hr];refine ⟨_,(.tmp .nil),?_⟩;refine ⟨(.one rfl rfl .nil),[.val (.bool false)],[],by simp [Cat.cells,XQuery.cells,UA,U1,IA,I1,LA,L1,BA,B1,EA,E1,E2,eB,eI,eL,Q5 _ Q6 _ (fun _=>rfl)],by simp,(UpL.refl _)⟩
 have g2:¬ (¬ (v1=true)):=gQ;clear g;replace h:=if_r g2 h;refine Qc (tn (Q1 (Q1 (runQ hN fun K hK=>?_))));simp;repeat refine sdQ ?_
 refine hK _ (tn (Q4 (st':=⟨Y07 c_ (Y09 list_ [(12,iV 0)]),[],0⟩) (QD []) ?_));clear hK K;replace ⟨e3,h,h3⟩:=bind_some h;refine Qk (fun b3:Unit=>⟨[],[],0⟩) (fun b3=>Sum.inl b3=e3) ?_ ?_
 ·refine Q7 (Qu h (fun s9:Int=>⟨Y07 c_ (Y09 list_ [(12,iV s9)]),[],0⟩) (QD []) ?_);clear h;intro k9 s9 c9 h hk9;refine Q1 (runQ hN fun K hK=>?_);simp;repeat refine sdQ ?_
  refine hK _ ?_;clear hK K;refine tn (Q1 (Qa rfl (fun g=>?_) fun g=>?_))
  ·have g10:s9<(list_.length:Int):=gQ;clear g;replace h:=if_l g10 h;refine Qc (tn (Q1 (Q7 (Q1 (runQ hN fun K hK=>?_)))));replace ⟨a11,h⟩:=Q0 h;simp [at_E (c:=Q6) a11];(repeat refine sdQ ?_);refine hK _ ?_;clear hK K;refine tn (Q4 (st':=⟨Y07 c_ ((6,.rptr (XQuery.cells true (gx list_ s9)))::Y09 list_ [(12,iV s9)]),[],0⟩) (QD []) (Q1 (runQ hN fun K hK=>?_)));simp;(repeat with_reducible refine sdQ ?_);replace ⟨v12,hv12,h⟩:=bind_some h;refine Q3 (Q4e _ _ v12 hv12) (.cons (.preT (by simp [Cat.cells,XQuery.cells])) (.cons (.preT (by simp [Cat.cells,XQuery.cells])) .nil)) ?_;simp;(repeat refine sdQ ?_);refine hK _ ?_;clear hK K;refine tn (Q4 (st':=⟨Y07 c_ (Y09 list_ [(12,iV s9),(19,.val (.bool (!v12)))]),[],0⟩) (QD []) (Qa rfl (fun g=>?_) fun g=>?_))
   ·have g13:¬ (v12=true):=gQ;clear g;replace h:=if_l g13 h;refine Q1 (runQ hN fun K hK=>?_);simp;(repeat refine sdQ ?_);refine hK _ (tn (Q4 (st':=⟨Y01 [],[],0⟩) (QD []) (Ql (br (tr (lr (br (tr ?_))))))));clear hK K;cases h;have q:_=e3:=hk9;have h:=h3;rw [← q] at h;clear q;(try dsimp only at h);have hr:=zC h;rw [← hr];refine ⟨_,(.tmp .nil),?_⟩;refine ⟨(.one rfl rfl .nil),[.val (.bool false)],[],by simp [Cat.cells,XQuery.cells,UA,U1,IA,I1,LA,L1,BA,B1,EA,E1,E2,eB,eI,eL,Q5 _ Q6 _ (fun _=>rfl)],by simp,(UpL.refl _)⟩
   have g13:¬ (¬ (v12=true)):=gQ;clear g;replace h:=if_r g13 h;refine Qc (bn (tn (runQ hN fun K hK=>?_)));replace ⟨a14,h⟩:=Q0 h;simp [Qm a14];(repeat refine sdQ ?_);refine hK _ ?_;clear hK K;cases h;exact rn (s':=s9+1) hk9 (QD [])
  have g10:¬ (s9<(list_.length:Int)):=gQ;clear g;replace h:=if_r g10 h;refine Qp (tx (lx (bh ?_)));cases h;exact jn (b:=()) hk9 (QD [])
 intro b3 hb3;have h:=h3;try rw [← hb3] at h
 clear h3;try dsimp only at h
 refine Q1 (runQ hN fun K hK=>?_);simp;repeat refine sdQ ?_
 refine hK _ (tn (Q4 (st':=⟨[(4,.val (.bool true))],[],0⟩) (QD []) (Ql ?_)));clear hK K;have hr:=zC h;rw [← hr];refine ⟨_,(.tmp .nil),?_⟩;refine ⟨(.one rfl rfl .nil),[.val (.bool true)],[],by simp [Cat.cells,XQuery.cells,UA,U1,IA,I1,LA,L1,BA,B1,EA,E1,E2,eB,eI,eL,Q5 _ Q6 _ (fun _=>rfl)],by simp,(UpL.refl _)⟩
attribute [local simp] unk unA unE unT unC flat eL eI Qf Q28 Qe Cat.cells XTerm.cells
noncomputable def Q2h (c_:Cat) (variables_:List Int) (t_:XTerm):Option Bool :=
 (
  ass (B64 ((variables_.length:Int) - 1)) <|
  (Q3g t_.variable_ 0 ((variables_.length:Int) - 1)).bind fun v3 =>
  if v3=true then
   (Q2t c_ t_.arrow_).bind fun v5 =>
   if v5=true then
    ass (0≤t_.arrow_∧t_.arrow_<(c_.fr.length:Int)) <|
    ass (0≤t_.variable_∧t_.variable_<(variables_.length:Int)) <|
    some ((ix c_.fr t_.arrow_) == (ix variables_ t_.variable_))
   else
    some false
  else
   some false:Option (Bool)).bind fun b1 =>
 some b1
theorem Q6q (c_:Cat) (variables_:List Int) (t_:XTerm) (r:Bool) (h:Q2h c_ variables_ t_=some r):Contract Try.prog 61 [.agg (c_.cells true),lI variables_,.agg (t_.cells true)] (.val (.bool r)):=by
 refine Qd (rvs:=[.tmp 6]) (rs:=[.val (.bool r)]) Try.func61 rfl rfl rfl rfl (by simp [Try.f61]) fun F hN hP=>?_;unfold Q2h at h;refine Q1 (runQ hN fun K hK=>?_);simp;repeat refine sdQ ?_
 refine hK _ (tn (Q4 (st':=⟨[(1,lI variables_),(3,.adr 0 0 0),(5,.adr 1 0 0)],YP c_ [(1,.mix 2 [(XTerm.cells true t_)])],2⟩) (QD [(0,0),(1,1)]) (Q1 ?_)));clear hK K;replace ⟨e1,h,h1⟩:=bind_some h;refine Qk (fun b1:Bool=>⟨[(6,.val (.bool b1))],[],0⟩) (fun b1=>b1=e1) ?_ ?_
 ·refine runQ hN fun K hK=>?_;replace ⟨a2,h⟩:=Q0 h;simp [Qm a2];repeat with_reducible refine sdQ ?_
  replace ⟨v3,hv3,h⟩:=bind_some h;refine Q3 (Q8n _ _ _ v3 hv3) (.cons .val (.cons .val (.cons .val .nil))) ?_;simp;repeat with_reducible refine sdQ ?_
  refine QB (fun g=>?_) (fun g=>?_)
  ·have g4:v3=true:=gQ;clear g;replace h:=if_l g4 h;simp;(repeat with_reducible refine sdQ ?_);replace ⟨v5,hv5,h⟩:=bind_some h;refine Q3 (Q8p _ _ v5 hv5) (.cons (.aggL (.cons .val (.cons .lst (.cons .lst (.cons .lst (.cons .lst .nil)))))) (.cons .val .nil)) ?_;simp;(repeat with_reducible refine sdQ ?_);refine QB (fun g=>?_) (fun g=>?_)
   ·have g6:v5=true:=gQ;clear g;replace h:=if_l g6 h;replace ⟨a7,h⟩:=Q0 h;replace ⟨a8,h⟩:=Q0 h;simp [at_I a7,at_I a8];(repeat refine sdQ ?_);refine hK _ ?_;exact jn (b:=(ix c_.fr t_.arrow_) == (ix variables_ t_.variable_)) (zC h) (QD [])
   have g6:¬ (v5=true):=gQ;clear g;replace h:=if_r g6 h;simp;(repeat refine sdQ ?_);refine hK _ ?_;exact jn (b:=false) (zC h) (QD [])
  have g4:¬ (v3=true):=gQ;clear g;replace h:=if_r g4 h;simp;repeat refine sdQ ?_
  refine hK _ ?_;exact jn (b:=false) (zC h) (QD [])
 intro b1 hb1;have h:=h1;try rw [← hb1] at h
 clear h1;try dsimp only at h
 refine Ql ?_;have hr:=zC h;rw [← hr];refine ⟨_,(.tmp .nil),?_⟩;refine ⟨(.one rfl rfl .nil),[.val (.bool b1)],[],by simp [Cat.cells,XTerm.cells,UA,U1,IA,I1,LA,L1,BA,B1,EA,E1,E2,eB,eI,eL,Q5 _ Qe _ (fun _=>rfl)],by simp,(UpL.refl _)⟩
attribute [local simp] unk unA unE unT unC flat eL eI Qf Q28 Q6 Qe Cat.cells XQuery.cells XTerm.cells
noncomputable def Q2d (c_:Cat) (q_:XQuery):Option Bool :=
 (
  (Q4N c_).bind fun v2 =>
  if ¬ (v2=true) then
   some true
  else
   if (q_.variables_.length:Int) > 4 then
    some true
   else
    (Q3h c_.n q_.variables_).bind fun v5 =>
    if ¬ (v5=true) then
     some true
    else
     if (q_.left_.length:Int) > 6 then
      some true
     else
      if ¬ ((q_.right_.length:Int)=(q_.left_.length:Int)) then
       some true
      else
       if (q_.output_.length:Int) > 4 then
        some true
       else
        (Q3h (q_.variables_.length:Int) q_.output_).bind fun v10 =>
        some (!v10):Option (Bool)).bind fun b1 =>
 if b1=true then
  some false
 else
  (QA (σ:=Int) (ε:=Unit ⊕ Bool) (fun s27 =>
   if s27<(q_.left_.length:Int) then
    (
     ass (0≤s27∧s27<(q_.left_.length:Int)) <|
     (Q2h c_ q_.variables_ (gx q_.left_ s27)).bind fun v31 =>
     if ¬ (v31=true) then
      some true
     else
      ass (0≤s27∧s27<(q_.right_.length:Int)) <|
      (Q2h c_ q_.variables_ (gx q_.right_ s27)).bind fun v34 =>
      if ¬ (v34=true) then
       some true
      else
       ass (0≤s27∧s27<(q_.left_.length:Int)) <|
       ass (0≤(gx q_.left_ s27).arrow_∧(gx q_.left_ s27).arrow_<(c_.to.length:Int)) <|
       ass (0≤s27∧s27<(q_.right_.length:Int)) <|
       ass (0≤(gx q_.right_ s27).arrow_∧(gx q_.right_ s27).arrow_<(c_.to.length:Int)) <|
       some ((ix c_.to ((gx q_.left_ s27).arrow_)) != (ix c_.to ((gx q_.right_ s27).arrow_))):Option (Bool)).bind fun b29 =>
    if b29=true then
     some (Ctl.ret (Sum.inr false))
    else
     ass (B64 (s27+1)) <|
     some (Ctl.next (s27+1))
   else
    some (Ctl.ret (Sum.inl ()))) fuel 0).bind fun e12 =>
  match e12 with
  | .inl b12 =>
   some true
  | .inr p12 =>
   some p12
theorem Q6m (c_:Cat) (q_:XQuery) (r:Bool) (h:Q2d c_ q_=some r):Contract Try.prog 30 (Y0q c_ q_ []) (.val (.bool r)):=by
 refine Qd (rvs:=[.tmp 4]) (rs:=[.val (.bool r)]) Try.func30 rfl rfl rfl rfl (by simp [Try.f30]) fun F hN hP=>?_;unfold Q2d at h;refine Q1 (runQ hN fun K hK=>?_);simp;repeat refine sdQ ?_
 refine hK _ (tn (Q4 (st':=⟨Yp [],Yn c_ q_ [],2⟩) (QD [(0,0),(1,1)]) (Q1 (Q1 ?_))));clear hK K;replace ⟨e1,h,h1⟩:=bind_some h;refine Qk (fun b1:Bool=>⟨Yp [(52,.val (.bool b1))],Yn c_ q_ [],2⟩) (fun b1=>b1=e1) ?_ ?_
 ·refine runQ hN fun K hK=>?_;simp;repeat with_reducible refine sdQ ?_
  replace ⟨v2,hv2,h⟩:=bind_some h;refine Q3 (w_s_l02Is _ v2 hv2) (.cons (.aggL (.cons .val (.cons .lst (.cons .lst (.cons .lst (.cons .lst .nil)))))) .nil) ?_;simp;repeat with_reducible refine sdQ ?_
  refine QB (fun g=>?_) (fun g=>?_)
  ·have g3:¬ (¬ (v2=true)):=gQ;clear g;replace h:=if_r g3 h;simp;(repeat with_reducible refine sdQ ?_);refine QB (fun g=>?_) (fun g=>?_)
   ·have g4:¬ ((q_.variables_.length:Int) > 4):=gQ;clear g;replace h:=if_r g4 h;simp;(repeat with_reducible refine sdQ ?_);replace ⟨v5,hv5,h⟩:=bind_some h;refine Q3 (Q6X _ _ v5 hv5) (.cons .val (.cons .lst .nil)) ?_;simp;(repeat with_reducible refine sdQ ?_);refine QB (fun g=>?_) (fun g=>?_)
    ·have g6:¬ (¬ (v5=true)):=gQ;clear g;replace h:=if_r g6 h;simp;(repeat with_reducible refine sdQ ?_);refine QB (fun g=>?_) (fun g=>?_)
     ·have g7:¬ ((q_.left_.length:Int) > 6):=gQ;clear g;replace h:=if_r g7 h;simp;(repeat with_reducible refine sdQ ?_);refine QB (fun g=>?_) (fun g=>?_)
      ·have g8:¬ (¬ ((q_.right_.length:Int)=(q_.left_.length:Int))):=gQ;clear g;replace h:=if_r g8 h;simp;(repeat with_reducible refine sdQ ?_);refine QB (fun g=>?_) (fun g=>?_)
       ·have g9:¬ ((q_.output_.length:Int) > 4):=gQ;clear g;replace h:=if_r g9 h;simp;(repeat with_reducible refine sdQ ?_);replace ⟨v10,hv10,h⟩:=bind_some h;refine Q3 (Q6X _ _ v10 hv10) (.cons .val (.cons .lst .nil)) ?_;simp;(repeat refine sdQ ?_);refine hK _ ?_;exact jn (b:=!v10) (zC h) (QD [(0,0),(1,1)])
       have g9:(q_.output_.length:Int) > 4:=gQ;clear g;replace h:=if_l g9 h;simp;(repeat refine sdQ ?_);refine hK _ ?_;exact jn (b:=true) (zC h) (QD [(0,0),(1,1)])
      have g8:¬ ((q_.right_.length:Int)=(q_.left_.length:Int)):=gQ;clear g;replace h:=if_l g8 h;simp;(repeat refine sdQ ?_);refine hK _ ?_;exact jn (b:=true) (zC h) (QD [(0,0),(1,1)])
     have g7:(q_.left_.length:Int) > 6:=gQ;clear g;replace h:=if_l g7 h;simp;(repeat refine sdQ ?_);refine hK _ ?_;exact jn (b:=true) (zC h) (QD [(0,0),(1,1)])
    have g6:¬ (v5=true):=gQ;clear g;replace h:=if_l g6 h;simp;(repeat refine sdQ ?_);refine hK _ ?_;exact jn (b:=true) (zC h) (QD [(0,0),(1,1)])
   have g4:(q_.variables_.length:Int) > 4:=gQ;clear g;replace h:=if_l g4 h;simp;(repeat refine sdQ ?_);refine hK _ ?_;exact jn (b:=true) (zC h) (QD [(0,0),(1,1)])
  have g3:¬ (v2=true):=gQ;clear g;replace h:=if_l g3 h;simp;repeat refine sdQ ?_
  refine hK _ ?_;exact jn (b:=true) (zC h) (QD [(0,0),(1,1)])
 intro b1 hb1;have h:=h1;try rw [← hb1] at h
 clear h1;try dsimp only at h
 refine Qa rfl (fun g=>?_) fun g=>?_
 ·have g11:b1=true:=gQ;clear g;replace h:=if_l g11 h;refine Q1 (runQ hN fun K hK=>?_);simp;repeat refine sdQ ?_
  refine hK _ (tn (Q4 (st':=⟨Y01 [],[],0⟩) (QD []) (Ql (tr ?_))));clear hK K;have hr:=zC h;rw [← hr];refine ⟨_,(.tmp .nil),?_⟩;refine ⟨(.one rfl rfl .nil),[.val (.bool false)],[],by simp [Cat.cells,XQuery.cells,XTerm.cells,UA,U1,IA,I1,LA,L1,BA,B1,EA,E1,E2,eB,eI,eL,Q5 _ Q6 _ (fun _=>rfl),Q5 _ Qe _ (fun _=>rfl)],by simp,(UpL.refl _)⟩
 have g11:¬ (b1=true):=gQ;clear g;replace h:=if_r g11 h;refine Qc (tn (Q1 (Q1 (runQ hN fun K hK=>?_))));simp;repeat refine sdQ ?_
 refine hK _ (tn (Q4 (st':=⟨Yp [(5,iV 0)],Yn c_ q_ [],2⟩) (QD [(0,0),(1,1)]) ?_));clear hK K;replace ⟨e12,h,h12⟩:=bind_some h;refine Qk (fun b12:Unit=>⟨[],[],0⟩) (fun b12=>Sum.inl b12=e12) ?_ ?_
 ·refine Q7 (Qu h (fun s27:Int=>⟨Yp [(5,iV s27)],Yn c_ q_ [],2⟩) (QD [(0,0),(1,1)]) ?_);clear h;intro k27 s27 c27 h hk27;refine Q1 (Q1 (runQ hN fun K hK=>?_));simp;repeat refine sdQ ?_
  refine hK _ ?_;clear hK K;refine tn (Qa rfl (fun g=>?_) fun g=>?_)
  ·have g28:s27<(q_.left_.length:Int):=gQ;clear g;replace h:=if_l g28 h;refine Qc (tn (Q1 (Q7 (Q1 ?_))));replace ⟨e29,h,h29⟩:=bind_some h;refine Qk (fun b29:Bool=>⟨Yp [(5,iV s27),(104,.val (.bool b29))],Yn c_ q_ [],2⟩) (fun b29=>b29=e29) ?_ ?_
   ·refine runQ hN fun K hK=>?_;replace ⟨a30,h⟩:=Q0 h;simp [at_E (c:=(XTerm.cells true)) a30];(repeat with_reducible refine sdQ ?_);replace ⟨v31,hv31,h⟩:=bind_some h;refine Q3 (Q6q _ _ _ v31 hv31) (.cons (.aggL (.cons .val (.cons .lst (.cons .lst (.cons .lst (.cons .lst .nil)))))) (.cons .lst (.cons (.aggL (.cons .val (.cons .val .nil))) .nil))) ?_;simp [at_E (c:=(XTerm.cells true)) a30];(repeat with_reducible refine sdQ ?_);refine QB (fun g=>?_) (fun g=>?_)
    ·have g32:¬ (¬ (v31=true)):=gQ;clear g;replace h:=if_r g32 h;replace ⟨a33,h⟩:=Q0 h;simp [at_E (c:=(XTerm.cells true)) a30,at_E (c:=(XTerm.cells true)) a33];(repeat with_reducible refine sdQ ?_);replace ⟨v34,hv34,h⟩:=bind_some h;refine Q3 (Q6q _ _ _ v34 hv34) (.cons (.aggL (.cons .val (.cons .lst (.cons .lst (.cons .lst (.cons .lst .nil)))))) (.cons .lst (.cons (.aggL (.cons .val (.cons .val .nil))) .nil))) ?_;simp [at_E (c:=(XTerm.cells true)) a30,at_E (c:=(XTerm.cells true)) a33];(repeat with_reducible refine sdQ ?_);refine QB (fun g=>?_) (fun g=>?_)
     ·have g35:¬ (¬ (v34=true)):=gQ;clear g;replace h:=if_r g35 h;replace ⟨a36,h⟩:=Q0 h;replace ⟨a37,h⟩:=Q0 h;replace ⟨a38,h⟩:=Q0 h;replace ⟨a39,h⟩:=Q0 h;simp [at_E (c:=(XTerm.cells true)) a30,at_E (c:=(XTerm.cells true)) a33,at_E (c:=(XTerm.cells true)) a36,at_I a37,at_E (c:=(XTerm.cells true)) a38,at_I a39];(repeat refine sdQ ?_);refine hK _ ?_;exact jn (b:=(ix c_.to ((gx q_.left_ s27).arrow_)) != (ix c_.to ((gx q_.right_ s27).arrow_))) (zC h) (QD [(0,0),(1,1)])
     have g35:¬ (v34=true):=gQ;clear g;replace h:=if_l g35 h;simp [at_E (c:=(XTerm.cells true)) a30,at_E (c:=(XTerm.cells true)) a33];(repeat refine sdQ ?_);refine hK _ ?_;exact jn (b:=true) (zC h) (QD [(0,0),(1,1)])
    have g32:¬ (v31=true):=gQ;clear g;replace h:=if_l g32 h;simp [at_E (c:=(XTerm.cells true)) a30];(repeat refine sdQ ?_);refine hK _ ?_;exact jn (b:=true) (zC h) (QD [(0,0),(1,1)])
   intro b29 hb29;have h:=h29;(try rw [← hb29] at h);clear h29;(try dsimp only at h);refine Qa rfl (fun g=>?_) fun g=>?_
   ·have g40:b29=true:=gQ;clear g;replace h:=if_l g40 h;refine Q1 (runQ hN fun K hK=>?_);simp;(repeat refine sdQ ?_);refine hK _ (tn (Q4 (st':=⟨Y01 [],[],0⟩) (QD []) (Ql (br (tr (lr (br (tr ?_))))))));clear hK K;cases h;have q:_=e12:=hk27;have h:=h12;rw [← q] at h;clear q;(try dsimp only at h);have hr:=zC h;rw [← hr];refine ⟨_,(.tmp .nil),?_⟩;refine ⟨(.one rfl rfl .nil),[.val (.bool false)],[],by simp [Cat.cells,XQuery.cells,XTerm.cells,UA,U1,IA,I1,LA,L1,BA,B1,EA,E1,E2,eB,eI,eL,Q5 _ Q6 _ (fun _=>rfl),Q5 _ Qe _ (fun _=>rfl)],by simp,(UpL.refl _)⟩
   have g40:¬ (b29=true):=gQ;clear g;replace h:=if_r g40 h;refine Qc (bn (tn (runQ hN fun K hK=>?_)));replace ⟨a41,h⟩:=Q0 h;simp [Qm a41];(repeat refine sdQ ?_);refine hK _ ?_;clear hK K;cases h;exact rn (s':=s27+1) hk27 (QD [(0,0),(1,1)])
  have g28:¬ (s27<(q_.left_.length:Int)):=gQ;clear g;replace h:=if_r g28 h;refine Qp (tx (lx (bh ?_)));cases h;exact jn (b:=()) hk27 (QD [])
 intro b12 hb12;have h:=h12;try rw [← hb12] at h
 clear h12;try dsimp only at h
 refine Q1 (runQ hN fun K hK=>?_);simp;repeat refine sdQ ?_
 refine hK _ (tn (Q4 (st':=⟨[(4,.val (.bool true))],[],0⟩) (QD []) (Ql ?_)));clear hK K;have hr:=zC h;rw [← hr];refine ⟨_,(.tmp .nil),?_⟩;refine ⟨(.one rfl rfl .nil),[.val (.bool true)],[],by simp [Cat.cells,XQuery.cells,XTerm.cells,UA,U1,IA,I1,LA,L1,BA,B1,EA,E1,E2,eB,eI,eL,Q5 _ Q6 _ (fun _=>rfl),Q5 _ Qe _ (fun _=>rfl)],by simp,(UpL.refl _)⟩
end Go.Vc.T
