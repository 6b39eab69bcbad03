/- A part of the proof: a verified generator of conditions, and what each function of the program does. -/
import Derived.Test.YtjfnifbgmcjjkaaGreatS9
set_option maxRecDepth 100000
set_option maxHeartbeats 4000000
set_option linter.unusedSimpArgs false
set_option linter.unusedVariables false

namespace Go.Vc.T
open Go Go.Vc Go.Proofs
attribute [local simp] unk unA unE unT unC flat eL eI Qr Q1g Q9 Prf.cells XTripleint64.cells
noncomputable def Q29 (p_:Prf) (q_:Prf) (x_:Int) (z_:Int) (list_:List XTripleint64):Option (List Int) :=
 (Qu list_).bind fun v1 =>
 (Q3C (list_.length:Int)).bind fun v2 =>
 (Qy (σ:=List Int × Int) (ε:=List Int) (fun s216 =>
  if s216.2<(p_.t.fr.length:Int) then
   (
    ass (0≤s216.2∧s216.2<(p_.t.fr.length:Int)) <|
    ass (0≤s216.2∧s216.2<(p_.t.to.length:Int)) <|
    ass (0≤x_∧x_<(p_.sz.length:Int)) <|
    ass (0≤ix p_.t.fr s216.2∧ix p_.t.fr s216.2<((rx p_.sz x_).length:Int)) <|
    (Qy (σ:=List Int × Int) (ε:=List Int) (fun s325 =>
     if s325.2<(ix (rx p_.sz x_) (ix p_.t.fr s216.2)) then
      (
       ass (0≤ix p_.t.to s216.2∧ix p_.t.to s216.2<(q_.sz.length:Int)) <|
       ass (0≤z_∧z_<((rx q_.sz (ix p_.t.to s216.2)).length:Int)) <|
       (Qy (σ:=List Int × Int) (ε:=List Int) (fun s378 =>
        if s378.2<(ix (rx q_.sz (ix p_.t.to s216.2)) z_) then
         ass (0≤s216.2∧s216.2<(p_.bh.length:Int)) <|
         ass (0≤x_∧x_<((gx p_.bh s216.2).length:Int)) <|
         ass (0≤s325.2∧s325.2<((rx (gx p_.bh s216.2) x_).length:Int)) <|
         ass (0≤s216.2∧s216.2<(q_.bf.length:Int)) <|
         ass (0≤z_∧z_<((gx q_.bf s216.2).length:Int)) <|
         ass (0≤s378.2∧s378.2<((rx (gx q_.bf s216.2) z_).length:Int)) <|
         (
          (
           (Qy (σ:=List Int × Int) (ε:=List Int × Int) (fun s396 =>
            ass (0≤s396.2∧s396.2<(s396.1.length:Int)) <|
            if ¬ ((ix s396.1 s396.2)=s396.2) then
             ass (0≤s396.2∧s396.2<(s396.1.length:Int)) <|
             ass (0≤ix s396.1 s396.2∧ix s396.1 s396.2<(s396.1.length:Int)) <|
             ass (0≤s396.2∧s396.2<(s396.1.length:Int)) <|
             ass (0≤s396.2∧s396.2<((s396.1.set s396.2.toNat (ix s396.1 (ix s396.1 s396.2))).length:Int)) <|
             some (Ctl.next (s396.1.set s396.2.toNat (ix s396.1 (ix s396.1 s396.2)),ix (s396.1.set s396.2.toNat (ix s396.1 (ix s396.1 s396.2))) s396.2))
            else
             some (Ctl.ret (s396.1,s396.2))) fuel (s378.1,(Q1X (⟨ix p_.t.to s216.2,ix (rx (gx p_.bh s216.2) x_) s325.2,s378.2⟩:XTripleint64) v1).getD 0)).bind fun b388 =>
           some (b388.1,b388.2):Option (List Int × Int)).bind fun v403 =>
          ass (v403.1.length=s378.1.length) <|
          (
           (Qy (σ:=List Int × Int) (ε:=List Int × Int) (fun s414 =>
            ass (0≤s414.2∧s414.2<(s414.1.length:Int)) <|
            if ¬ ((ix s414.1 s414.2)=s414.2) then
             ass (0≤s414.2∧s414.2<(s414.1.length:Int)) <|
             ass (0≤ix s414.1 s414.2∧ix s414.1 s414.2<(s414.1.length:Int)) <|
             ass (0≤s414.2∧s414.2<(s414.1.length:Int)) <|
             ass (0≤s414.2∧s414.2<((s414.1.set s414.2.toNat (ix s414.1 (ix s414.1 s414.2))).length:Int)) <|
             some (Ctl.next (s414.1.set s414.2.toNat (ix s414.1 (ix s414.1 s414.2)),ix (s414.1.set s414.2.toNat (ix s414.1 (ix s414.1 s414.2))) s414.2))
            else
             some (Ctl.ret (s414.1,s414.2))) fuel (v403.1,(Q1X (⟨ix p_.t.fr s216.2,s325.2,ix (rx (gx q_.bf s216.2) z_) s378.2⟩:XTripleint64) v1).getD 0)).bind fun b406 =>
           some (b406.1,b406.2):Option (List Int × Int)).bind fun v421 =>
          ass (v421.1.length=v403.1.length) <|
          ass (0≤(if v421.2 > v403.2 then v421.2 else v403.2)∧(if v421.2 > v403.2 then v421.2 else v403.2)<(v421.1.length:Int)) <|
          some (v421.1.set ((if v421.2 > v403.2 then v421.2 else v403.2).toNat) (if v421.2<v403.2 then v421.2 else v403.2),v403.2 != v421.2):Option (List Int × Bool)).bind fun v424 =>
         ass (v424.1.length=s378.1.length) <|
         ass (B64 (s378.2+1)) <|
         some (Ctl.next (v424.1,s378.2+1))
        else
         some (Ctl.ret s378.1)) fuel (s325.1,0)).bind fun p378 =>
       some p378:Option (List Int)).bind fun b327 =>
      ass (B64 (s325.2+1)) <|
      some (Ctl.next (b327,s325.2+1))
     else
      some (Ctl.ret s325.1)) fuel (s216.1,0)).bind fun p325 =>
    some p325:Option (List Int)).bind fun b218 =>
   ass (B64 (s216.2+1)) <|
   some (Ctl.next (b218,s216.2+1))
  else
   some (Ctl.ret s216.1)) fuel (v2,0)).bind fun b3 =>
 (
  ass (0≤(b3.length:Int)∧(b3.length:Int)≤1073741824) <|
  (Qy (σ:=List Int × List Int × Int) (ε:=List Int × List Int) (fun s453 =>
   if s453.2.2<(b3.length:Int) then
    (
     (Qy (σ:=List Int × Int) (ε:=List Int × Int) (fun s464 =>
      ass (0≤s464.2∧s464.2<(s464.1.length:Int)) <|
      if ¬ ((ix s464.1 s464.2)=s464.2) then
       ass (0≤s464.2∧s464.2<(s464.1.length:Int)) <|
       ass (0≤ix s464.1 s464.2∧ix s464.1 s464.2<(s464.1.length:Int)) <|
       ass (0≤s464.2∧s464.2<(s464.1.length:Int)) <|
       ass (0≤s464.2∧s464.2<((s464.1.set s464.2.toNat (ix s464.1 (ix s464.1 s464.2))).length:Int)) <|
       some (Ctl.next (s464.1.set s464.2.toNat (ix s464.1 (ix s464.1 s464.2)),ix (s464.1.set s464.2.toNat (ix s464.1 (ix s464.1 s464.2))) s464.2))
      else
       some (Ctl.ret (s464.1,s464.2))) fuel (s453.1,s453.2.2)).bind fun b456 =>
     some (b456.1,b456.2):Option (List Int × Int)).bind fun v471 =>
    ass (v471.1.length=s453.1.length) <|
    ass (0≤s453.2.2∧s453.2.2<(s453.2.1.length:Int)) <|
    ass (B64 (s453.2.2+1)) <|
    some (Ctl.next (v471.1,s453.2.1.set s453.2.2.toNat v471.2,s453.2.2+1))
   else
    some (Ctl.ret (s453.1,s453.2.1))) fuel (b3,List.replicate ((b3.length:Int).toNat) 0,0)).bind fun b431 =>
  (Q3X b431.2).bind fun v475 =>
  some (b431.1,v475):Option (List Int × List Int)).bind fun v476 =>
 ass (v476.1.length=b3.length) <|
 some v476.2
theorem Q1s {F : Fx} {st st' : St} (m : List (Nat × Nat)) (h : (m.map Prod.fst).Nodup ∧ (m.map Prod.snd).Nodup ∧ (∀ id, id < F.pins → look id m = some id) ∧ (∀ p ∈ m, p.2 < st'.n) ∧ (∀ p ∈ st'.h, p.1 < st'.n) ∧ (∀ p ∈ st'.s, p.2 = rl m (st.get p.1) ∨ p.2 = .bot) ∧ ∀ p ∈ st'.h, hhOk m st.h p.1 p.2 := by simp [hP, hhOk, back, idQ, Prf.cells, XTripleint64.cells, UA, U1, IA, I1, LA, L1, BA, B1, EA, E1, E2, eB, eI, eL, Q8 _ Q9 _ (fun _=>rfl), Q8 _ (XTripleint64.cells true) _ (fun _=>rfl), Cat.cells, Fn.cells]) : Wk F st st' := Wk.r1 m h
theorem Q1P {F : Fx} {st st' : St} (m : Nat) (h : ((idQ m).map Prod.fst).Nodup ∧ ((idQ m).map Prod.snd).Nodup ∧ (∀ id, id < F.pins → look id (idQ m) = some id) ∧ (∀ p ∈ (idQ m), p.2 < st'.n) ∧ (∀ p ∈ st'.h, p.1 < st'.n) ∧ (∀ p ∈ st'.s, p.2 = rl (idQ m) (st.get p.1) ∨ p.2 = .bot) ∧ ∀ p ∈ st'.h, hhOk (idQ m) st.h p.1 p.2 := by simp [hP, hhOk, back, idQ, Prf.cells, XTripleint64.cells, UA, U1, IA, I1, LA, L1, BA, B1, EA, E1, E2, eB, eI, eL, Q8 _ Q9 _ (fun _=>rfl), Q8 _ (XTripleint64.cells true) _ (fun _=>rfl), Cat.cells, Fn.cells]) : Wk F st st' := Wk.r1 (idQ m) h
@[simp] abbrev Y1w (a:Prf) (b:List (AV)):List (AV):=iV a.t.n::lI a.t.fr::lI a.t.to::lI a.t.id::.lst true 1 (Ls a.t.cs)::.lst true 1 (Ls a.sz)::.lst true 1 (Es eL a.bf)::.lst true 1 (Es eL a.bh)::b
@[simp] abbrev Yq (a b:Prf) (c d:Int) (e:List (XTripleint64 × Int)) (f:List Int × Int) (g:List (Nat × AV)):List (Nat × AV):=(0,.rptr (Prf.cells true a))::(1,.rptr (Prf.cells true b))::(2,iV c)::(3,iV d)::(11,.cmap (.st 3) (Qx e))::(12,.own 0 0 f.1.length)::(13,.rptr (Y1w a []))::g
@[simp] abbrev YT (a:Prf) (b:List (Nat × AV)):List (Nat × AV):=(13,.rptr (Y1w a []))::b
@[simp] abbrev Y04 (a:Prf) (b:List Int × Int) (c:Int) (d:List (Nat × AV)):List (Nat × AV):=(31,iV (a.t.fr.length:Int))::(32,iV b.2)::(58,iV (ix (rx a.sz c) (ix a.t.fr b.2)))::d
@[simp] abbrev Y0e (a:List Int × Int) (b:Prf) (c:List (Nat × AV)):List (Nat × AV):=(14,iV a.2)::(15,iV (ix b.t.fr a.2))::(16,iV (ix b.t.to a.2))::c
@[simp] abbrev Y0S (a:List (XTripleint64 × Int)) (b:List Int) (c:List (Nat × AV)):List (Nat × AV):=(11,.cmap (.st 3) (Qx a))::(12,.own 0 0 b.length)::c
@[simp] abbrev Y14 (a:List Int × Int) (b:List (Nat × AV)):List (Nat × AV):=(0,.own 0 0 ((a.1.set a.2.toNat (ix a.1 (ix a.1 a.2))).length))::(1,iV a.2)::b
theorem Q7y (p_:Prf) (q_:Prf) (x_:Int) (z_:Int) (list_:List XTripleint64) (r:List Int) (h:Q29 p_ q_ x_ z_ list_=some r):Contract Tryz.prog 66 [.rptr (p_.cells true),.rptr (q_.cells true),iV x_,iV z_,.lst true 3 (Es (XTripleint64.cells true) list_)] (lI r):=by
 refine Qc (rvs:=[.tmp 10]) (rs:=[lI r]) Tryz.func66 rfl rfl rfl rfl (by simp [Tryz.f66]) fun F hN hP=>?_;unfold Q29 at h;refine Q3 (runQ hN fun K hK=>?_);simp;repeat refine sdQ ?_
 refine hK _ ?_;clear hK K;refine tn (Q7 (st':=⟨Yy p_ q_ x_ z_ [(4,.lst true 3 (Es (XTripleint64.cells true) list_))],[],0⟩) (Q1s []) (Q3 (QG [] mo (by rw [hN];decide) fun K hK=>?_)));simp;repeat with_reducible refine sdQ ?_
 replace ⟨v1,hv1,h⟩:=bind_some h;refine Q53 (fz:=[]) false (Q1C _ v1 hv1) (PurK.ofL (.cons .lst .nil)) ?_;simp;repeat refine sdQ ?_
 refine hK _ ?_;clear hK K;refine tn (Q7 (st':=⟨Yy p_ q_ x_ z_ [(4,.lst true 3 (Es (XTripleint64.cells true) list_)),(11,.cmap (.st 3) (Qx v1))],[],0⟩) (Q1s []) (Q3 (runQ hN fun K hK=>?_)));simp;repeat with_reducible refine sdQ ?_
 replace ⟨v2,hv2,h⟩:=bind_some h;refine Q6 (Q8o _ v2 hv2) (.cons .val .nil) ?_;simp;repeat refine sdQ ?_
 refine hK _ ?_;clear hK K;refine tn (Q7 (st':=⟨Yy p_ q_ x_ z_ (Y0S v1 v2 []),[(0,rI v2)],1⟩) (Q1s [(0,0)]) (Q3 (runQ hN fun K hK=>?_)));simp;repeat refine sdQ ?_
 refine hK _ ?_;clear hK K;refine tn (Q7 (st':=⟨Yy p_ q_ x_ z_ (Y0S v1 v2 (YT p_ [])),[(0,rI v2)],1⟩) (Q1s [(0,0)]) (Q3 (Q3 (runQ hN fun K hK=>?_))));simp;repeat refine sdQ ?_
 refine hK _ (tn (Q7 (st':=⟨Yy p_ q_ x_ z_ (Y0S v1 v2 (YT p_ [(31,iV (p_.t.fr.length:Int)),(32,iV 0)])),[(0,rI v2)],1⟩) (Q1s [(0,0)]) ?_));clear hK K;replace ⟨e3,h,h3⟩:=bind_some h;refine Qg (fun b3:List Int=>⟨[(12,.own 0 0 b3.length)],[(0,rI b3)],1⟩) (fun b3=>b3=e3) ?_ ?_
 ·refine Qa (Qn h (fun s216:List Int × Int=>⟨Yq p_ q_ x_ z_ v1 s216 [(31,iV (p_.t.fr.length:Int)),(32,iV s216.2)],[(0,rI s216.1)],1⟩) (Q1s [(0,0)]) ?_);clear h;intro k216 s216 c216 h hk216;refine Q3 (runQ hN fun K hK=>?_);simp;repeat refine sdQ ?_
  refine hK _ ?_;clear hK K;refine tn (Q3 (Qd rfl (fun g=>?_) fun g=>?_))
  ·have g217:s216.2<(p_.t.fr.length:Int):=gQ;clear g;replace h:=if_l g217 h;refine Qe (tn (Q3 ?_));replace ⟨e218,h,h218⟩:=bind_some h;refine Qg (fun b218:List Int=>⟨Yy p_ q_ x_ z_ (Y0S v1 b218 (YT p_ [(31,iV (p_.t.fr.length:Int)),(32,iV s216.2)])),[(0,rI b218)],1⟩) (fun b218=>b218=e218) ?_ ?_
   ·refine Qa (Q3 (runQ hN fun K hK=>?_));simp;(repeat refine sdQ ?_);refine hK _ ?_;clear hK K;refine tn (Q7 (st':=⟨Yq p_ q_ x_ z_ v1 s216 [(14,iV s216.2),(31,iV (p_.t.fr.length:Int)),(32,iV s216.2)],[(0,rI s216.1)],1⟩) (Q1s [(0,0)]) (Q3 (runQ hN fun K hK=>?_)));replace ⟨a219,h⟩:=Q0 h;replace ⟨a220,h⟩:=Q0 h;simp [at_I a219,at_I a220];(repeat refine sdQ ?_);refine hK _ ?_;clear hK K;refine tn (Q7 (st':=⟨Yq p_ q_ x_ z_ v1 s216 (Y0e s216 p_ [(31,iV (p_.t.fr.length:Int)),(32,iV s216.2)]),[(0,rI s216.1)],1⟩) (Q1s [(0,0)]) (Q3 (runQ hN fun K hK=>?_)));replace ⟨a221,h⟩:=Q0 h;replace ⟨a222,h⟩:=Q0 h;simp [at_L a221,at_I a222];(repeat refine sdQ ?_);refine hK _ (tn (Q7 (st':=⟨Yq p_ q_ x_ z_ v1 s216 (Y0e s216 p_ (Y04 p_ s216 x_ [(59,iV 0)])),[(0,rI s216.1)],1⟩) (Q1s [(0,0)]) (Qa ?_)));clear hK K;replace ⟨e325,he325,h325⟩:=bind_some h;refine Qn he325 (fun s325:List Int × Int=>⟨Yq p_ q_ x_ z_ v1 s325 (Y0e s216 p_ (Y04 p_ s216 x_ [(59,iV s325.2)])),[(0,rI s325.1)],1⟩) (Q1s [(0,0)]) ?_;intro k325 s325 c325 h hk325;refine Q3 (runQ hN fun K hK=>?_);simp;(repeat refine sdQ ?_);refine hK _ ?_;clear hK K;refine tn (Q3 (Qd rfl (fun g=>?_) fun g=>?_))
    ·have g326:s325.2<(ix (rx p_.sz x_) (ix p_.t.fr s216.2)):=gQ;clear g;replace h:=if_l g326 h;refine Qe (tn (Q3 ?_));replace ⟨e327,h,h327⟩:=bind_some h;refine Qg (fun b327:List Int=>⟨Yy p_ q_ x_ z_ (Y0S v1 b327 (YT p_ (Y0e s216 p_ (Y04 p_ s216 x_ [(59,iV s325.2)])))),[(0,rI b327)],1⟩) (fun b327=>b327=e327) ?_ ?_
     ·refine Qa (Q3 (runQ hN fun K hK=>?_));simp;(repeat refine sdQ ?_);refine hK _ ?_;clear hK K;refine tn (Q7 (st':=⟨Yq p_ q_ x_ z_ v1 s325 (Y0e s216 p_ ((17,iV s325.2)::Y04 p_ s216 x_ [(59,iV s325.2)])),[(0,rI s325.1)],1⟩) (Q1s [(0,0)]) (Q3 (runQ hN fun K hK=>?_)));replace ⟨a328,h⟩:=Q0 h;replace ⟨a329,h⟩:=Q0 h;simp [at_L a328,at_I a329];(repeat refine sdQ ?_);refine hK _ (tn (Q7 (st':=⟨Yq p_ q_ x_ z_ v1 s325 (Y0e s216 p_ ((17,iV s325.2)::Y04 p_ s216 x_ [(59,iV s325.2),(71,iV (ix (rx q_.sz (ix p_.t.to s216.2)) z_)),(72,iV 0)])),[(0,rI s325.1)],1⟩) (Q1s [(0,0)]) (Qa ?_)));clear hK K;replace ⟨e378,he378,h378⟩:=bind_some h;refine Qn he378 (fun s378:List Int × Int=>⟨Yq p_ q_ x_ z_ v1 s378 (Y0e s216 p_ ((17,iV s325.2)::Y04 p_ s216 x_ [(59,iV s325.2),(71,iV (ix (rx q_.sz (ix p_.t.to s216.2)) z_)),(72,iV s378.2)])),[(0,rI s378.1)],1⟩) (Q1s [(0,0)]) ?_;intro k378 s378 c378 h hk378;refine Q3 (runQ hN fun K hK=>?_);simp;(repeat refine sdQ ?_);refine hK _ ?_;clear hK K;refine tn (Q3 (Qd rfl (fun g=>?_) fun g=>?_))
      ·have g379:s378.2<(ix (rx q_.sz (ix p_.t.to s216.2)) z_):=gQ;clear g;replace h:=if_l g379 h;refine Qe (tn (Q3 (Qa (Q3 (runQ hN fun K hK=>?_)))));simp;(repeat refine sdQ ?_);refine hK _ ?_;clear hK K;refine tn (Q7 (st':=⟨Yq p_ q_ x_ z_ v1 s378 (Y0e s216 p_ ((17,iV s325.2)::(18,iV s378.2)::Y04 p_ s216 x_ [(59,iV s325.2),(71,iV (ix (rx q_.sz (ix p_.t.to s216.2)) z_)),(72,iV s378.2)])),[(0,rI s378.1)],1⟩) (Q1s [(0,0)]) (Q6B [] mo (by rw [hN];decide) fun K hK=>?_));replace ⟨a380,h⟩:=Q0 h;replace ⟨a381,h⟩:=Q0 h;replace ⟨a382,h⟩:=Q0 h;replace ⟨a383,h⟩:=Q0 h;replace ⟨a384,h⟩:=Q0 h;replace ⟨a385,h⟩:=Q0 h;simp [at_E (c:=eL) a380,at_L a381,at_I a382,at_E (c:=eL) a383,at_L a384,at_I a385];(repeat with_reducible refine sdQ ?_);replace ⟨v424,hv424,h⟩:=bind_some h;refine Q4B (fz:=[]) (Q3l (ts:=[6]) (e:={ v:=.val (.bool v424.2),set:=[(0,rI v424.1)],del:=[],new:=[],cnt:=0 }) Tryz.func95 rfl rfl rfl (by simp [Tryz.f95]) (by simp) (Q8F (by simp)) (newI (by rfl)) fun F hN hP=>?_) ?_
       ·clear h;have h:=hv424;clear hv424;refine Q3 (QG [] mo (by rw [hN];decide) fun K hK=>?_);simp;(repeat refine sdQ ?_);refine hK _ ?_;clear hK K;refine tn (Q7 (st':=⟨[(0,.own 0 0 s378.1.length),(1,iV ((Q1X (⟨ix p_.t.to s216.2,ix (rx (gx p_.bh s216.2) x_) s325.2,s378.2⟩:XTripleint64) v1).getD 0)),(2,iV ((Q1X (⟨ix p_.t.fr s216.2,s325.2,ix (rx (gx q_.bf s216.2) z_) s378.2⟩:XTripleint64) v1).getD 0))],[(0,rI s378.1)],1⟩) (Wk.rP _ [(0,0)] hP (by rfl) (by simp [hhOk,back,Prf.cells,XTripleint64.cells,UA,U1,IA,I1,LA,L1,BA,B1,EA,E1,E2,eB,eI,eL,Q8 _ Q9 _ (fun _=>rfl),Q8 _ (XTripleint64.cells true) _ (fun _=>rfl)])) (Q3 (Q6B [] mo (by rw [hN];decide) fun K hK=>?_)));simp;(repeat with_reducible refine sdQ ?_);replace ⟨v403,hv403,h⟩:=bind_some h;refine Q4B (fz:=[]) (Q3l (ts:=[4]) (e:={ v:=.val (.int .i64 v403.2),set:=[(0,rI v403.1)],del:=[],new:=[],cnt:=0 }) Tryz.func107 rfl rfl rfl (by simp [Tryz.f107]) (by simp) (Q8F (by simp)) (newI (by rfl)) fun F hN hP=>?_) ?_
        ·clear h;have h:=hv403;clear hv403;refine Q3 (QG [] mo (by rw [hN];decide) fun K hK=>?_);simp;(repeat refine sdQ ?_);refine hK _ (tn (Q7 (st':=⟨[(0,.own 0 0 s378.1.length),(1,iV ((Q1X (⟨ix p_.t.to s216.2,ix (rx (gx p_.bh s216.2) x_) s325.2,s378.2⟩:XTripleint64) v1).getD 0))],[(0,rI s378.1)],1⟩) (Wk.rP _ [(0,0)] hP (by rfl) (by simp [hhOk,back,Prf.cells,XTripleint64.cells,UA,U1,IA,I1,LA,L1,BA,B1,EA,E1,E2,eB,eI,eL,Q8 _ Q9 _ (fun _=>rfl),Q8 _ (XTripleint64.cells true) _ (fun _=>rfl)])) (Q3 ?_)));clear hK K;replace ⟨e388,h,h388⟩:=bind_some h;refine Qg (fun b388:List Int × Int=>⟨[(1,iV b388.2)],[(0,rI b388.1)],1⟩) (fun b388=>b388=e388) ?_ ?_
         ·refine Qa (Qn h (fun s396:List Int × Int=>⟨[(0,.own 0 0 s396.1.length),(1,iV s396.2)],[(0,rI s396.1)],1⟩) (Wk.rP _ [(0,0)] hP (by rfl) (by simp [hhOk,back,Prf.cells,XTripleint64.cells,UA,U1,IA,I1,LA,L1,BA,B1,EA,E1,E2,eB,eI,eL,Q8 _ Q9 _ (fun _=>rfl),Q8 _ (XTripleint64.cells true) _ (fun _=>rfl)])) ?_);clear h;intro k396 s396 c396 h hk396;refine Q3 (Q3 (QG [] mo (by rw [hN];decide) fun K hK=>?_));replace ⟨a397,h⟩:=Q0 h;simp [at_I a397];(repeat refine sdQ ?_);refine hK _ ?_;clear hK K;refine tn (Qd rfl (fun g=>?_) fun g=>?_)
          ·have g398:¬ ((ix s396.1 s396.2)=s396.2):=gQ;clear g;replace h:=if_l g398 h;refine Qe (tn (Qa (Q3 (QG [] mo (by rw [hN];decide) fun K hK=>?_))));replace ⟨a399,h⟩:=Q0 h;replace ⟨a400,h⟩:=Q0 h;replace ⟨a401,h⟩:=Q0 h;simp [at_I a399,at_I a400,at_I a401];(repeat refine sdQ ?_);refine hK _ ?_;clear hK K;refine tn (Q7 (st':=⟨Y14 s396 [],[(0,rI (s396.1.set s396.2.toNat (ix s396.1 (ix s396.1 s396.2))))],1⟩) (Wk.rP _ [(0,0)] hP (by rfl) (by simp [hhOk,back,Prf.cells,XTripleint64.cells,UA,U1,IA,I1,LA,L1,BA,B1,EA,E1,E2,eB,eI,eL,Q8 _ Q9 _ (fun _=>rfl),Q8 _ (XTripleint64.cells true) _ (fun _=>rfl)])) (QG [] mo (by rw [hN];decide) fun K hK=>?_));replace ⟨a402,h⟩:=Q0 h;simp [at_I a402];(repeat refine sdQ ?_);refine hK _ (bn ?_);clear hK K;cases h;exact rn (s':=(s396.1.set s396.2.toNat (ix s396.1 (ix s396.1 s396.2)),ix (s396.1.set s396.2.toNat (ix s396.1 (ix s396.1 s396.2))) s396.2)) hk396 (Wk.rP _ [(0,0)] hP (by rfl) (by simp [hhOk,back,Prf.cells,XTripleint64.cells,UA,U1,IA,I1,LA,L1,BA,B1,EA,E1,E2,eB,eI,eL,Q8 _ Q9 _ (fun _=>rfl),Q8 _ (XTripleint64.cells true) _ (fun _=>rfl)]))
          have g398:¬ (¬ ((ix s396.1 s396.2)=s396.2)):=gQ;clear g;replace h:=if_r g398 h;refine Qm (tx (lx (bh ?_)));cases h;exact jn (b:=(s396.1,s396.2)) hk396 (Wk.rP _ [(0,0)] hP (by rfl) (by simp [hhOk,back,Prf.cells,XTripleint64.cells,UA,U1,IA,I1,LA,L1,BA,B1,EA,E1,E2,eB,eI,eL,Q8 _ Q9 _ (fun _=>rfl),Q8 _ (XTripleint64.cells true) _ (fun _=>rfl)]))
         intro b388 hb388;have h:=h388;(try rw [← hb388] at h);clear h388;(try dsimp only at h);refine Q3 (QG [] mo (by rw [hN];decide) fun K hK=>?_);simp;(repeat refine sdQ ?_);refine hK _ (tn (Q7 (st':=⟨[(4,iV b388.2)],[(0,rI b388.1)],1⟩) (Wk.rP _ [(0,0)] hP (by rfl) (by simp [hhOk,back,Prf.cells,XTripleint64.cells,UA,U1,IA,I1,LA,L1,BA,B1,EA,E1,E2,eB,eI,eL,Q8 _ Q9 _ (fun _=>rfl),Q8 _ (XTripleint64.cells true) _ (fun _=>rfl)])) (Qo ?_)));clear hK K;cases h;first|refine iw_r (st':=⟨[(4,iV b388.2)],[(0,rI b388.1)],1⟩) ?_ ?_|refine iw_n (st':=⟨[(4,iV b388.2)],[(0,rI b388.1)],1⟩) ?_ ?_
         ·exact Wk.rP _ [(0,0)] hP (by rfl) (by simp [hhOk,back,Prf.cells,XTripleint64.cells,UA,U1,IA,I1,LA,L1,BA,B1,EA,E1,E2,eB,eI,eL,Q8 _ Q9 _ (fun _=>rfl),Q8 _ (XTripleint64.cells true) _ (fun _=>rfl)])
         exact ⟨by simp [Q1K],by simp,by simp [Prf.cells,XTripleint64.cells]⟩
        replace ⟨a404,h⟩:=Q0 h;simp;(repeat with_reducible refine sdQ ?_);replace ⟨v421,hv421,h⟩:=bind_some h;refine Q4B (fz:=[]) (Q3l (ts:=[4]) (e:={ v:=.val (.int .i64 v421.2),set:=[(0,rI v421.1)],del:=[],new:=[],cnt:=0 }) Tryz.func107 rfl rfl rfl (by simp [Tryz.f107]) (by simp) (Q8F (by simp)) (newI (by rfl)) fun F hN hP=>?_) ?_
        ·clear h;have h:=hv421;clear hv421;refine Q3 (QG [] mo (by rw [hN];decide) fun K hK=>?_);simp;(repeat refine sdQ ?_);refine hK _ (tn (Q7 (st':=⟨[(0,.own 0 0 v403.1.length),(1,iV ((Q1X (⟨ix p_.t.fr s216.2,s325.2,ix (rx (gx q_.bf s216.2) z_) s378.2⟩:XTripleint64) v1).getD 0))],[(0,rI v403.1)],1⟩) (Wk.rP _ [(0,0)] hP (by rfl) (by simp [hhOk,back,Prf.cells,XTripleint64.cells,UA,U1,IA,I1,LA,L1,BA,B1,EA,E1,E2,eB,eI,eL,Q8 _ Q9 _ (fun _=>rfl),Q8 _ (XTripleint64.cells true) _ (fun _=>rfl),a404])) (Q3 ?_)));clear hK K;replace ⟨e406,h,h406⟩:=bind_some h;refine Qg (fun b406:List Int × Int=>⟨[(1,iV b406.2)],[(0,rI b406.1)],1⟩) (fun b406=>b406=e406) ?_ ?_
         ·refine Qa (Qn h (fun s414:List Int × Int=>⟨[(0,.own 0 0 s414.1.length),(1,iV s414.2)],[(0,rI s414.1)],1⟩) (Wk.rP _ [(0,0)] hP (by rfl) (by simp [hhOk,back,Prf.cells,XTripleint64.cells,UA,U1,IA,I1,LA,L1,BA,B1,EA,E1,E2,eB,eI,eL,Q8 _ Q9 _ (fun _=>rfl),Q8 _ (XTripleint64.cells true) _ (fun _=>rfl),a404])) ?_);clear h;intro k414 s414 c414 h hk414;refine Q3 (Q3 (QG [] mo (by rw [hN];decide) fun K hK=>?_));replace ⟨a415,h⟩:=Q0 h;simp [at_I a415];(repeat refine sdQ ?_);refine hK _ ?_;clear hK K;refine tn (Qd rfl (fun g=>?_) fun g=>?_)
          ·have g416:¬ ((ix s414.1 s414.2)=s414.2):=gQ;clear g;replace h:=if_l g416 h;refine Qe (tn (Qa (Q3 (QG [] mo (by rw [hN];decide) fun K hK=>?_))));replace ⟨a417,h⟩:=Q0 h;replace ⟨a418,h⟩:=Q0 h;replace ⟨a419,h⟩:=Q0 h;simp [at_I a417,at_I a418,at_I a419];(repeat refine sdQ ?_);refine hK _ ?_;clear hK K;refine tn (Q7 (st':=⟨Y14 s414 [],[(0,rI (s414.1.set s414.2.toNat (ix s414.1 (ix s414.1 s414.2))))],1⟩) (Wk.rP _ [(0,0)] hP (by rfl) (by simp [hhOk,back,Prf.cells,XTripleint64.cells,UA,U1,IA,I1,LA,L1,BA,B1,EA,E1,E2,eB,eI,eL,Q8 _ Q9 _ (fun _=>rfl),Q8 _ (XTripleint64.cells true) _ (fun _=>rfl),a404])) (QG [] mo (by rw [hN];decide) fun K hK=>?_));replace ⟨a420,h⟩:=Q0 h;simp [at_I a420];(repeat refine sdQ ?_);refine hK _ (bn ?_);clear hK K;cases h;exact rn (s':=(s414.1.set s414.2.toNat (ix s414.1 (ix s414.1 s414.2)),ix (s414.1.set s414.2.toNat (ix s414.1 (ix s414.1 s414.2))) s414.2)) hk414 (Wk.rP _ [(0,0)] hP (by rfl) (by simp [hhOk,back,Prf.cells,XTripleint64.cells,UA,U1,IA,I1,LA,L1,BA,B1,EA,E1,E2,eB,eI,eL,Q8 _ Q9 _ (fun _=>rfl),Q8 _ (XTripleint64.cells true) _ (fun _=>rfl),a404]))
          have g416:¬ (¬ ((ix s414.1 s414.2)=s414.2)):=gQ;clear g;replace h:=if_r g416 h;refine Qm (tx (lx (bh ?_)));cases h;exact jn (b:=(s414.1,s414.2)) hk414 (Wk.rP _ [(0,0)] hP (by rfl) (by simp [hhOk,back,Prf.cells,XTripleint64.cells,UA,U1,IA,I1,LA,L1,BA,B1,EA,E1,E2,eB,eI,eL,Q8 _ Q9 _ (fun _=>rfl),Q8 _ (XTripleint64.cells true) _ (fun _=>rfl),a404]))
         intro b406 hb406;have h:=h406;(try rw [← hb406] at h);clear h406;(try dsimp only at h);refine Q3 (QG [] mo (by rw [hN];decide) fun K hK=>?_);simp;(repeat refine sdQ ?_);refine hK _ (tn (Q7 (st':=⟨[(4,iV b406.2)],[(0,rI b406.1)],1⟩) (Wk.rP _ [(0,0)] hP (by rfl) (by simp [hhOk,back,Prf.cells,XTripleint64.cells,UA,U1,IA,I1,LA,L1,BA,B1,EA,E1,E2,eB,eI,eL,Q8 _ Q9 _ (fun _=>rfl),Q8 _ (XTripleint64.cells true) _ (fun _=>rfl),a404])) (Qo ?_)));clear hK K;cases h;first|refine iw_r (st':=⟨[(4,iV b406.2)],[(0,rI b406.1)],1⟩) ?_ ?_|refine iw_n (st':=⟨[(4,iV b406.2)],[(0,rI b406.1)],1⟩) ?_ ?_
         ·exact Wk.rP _ [(0,0)] hP (by rfl) (by simp [hhOk,back,Prf.cells,XTripleint64.cells,UA,U1,IA,I1,LA,L1,BA,B1,EA,E1,E2,eB,eI,eL,Q8 _ Q9 _ (fun _=>rfl),Q8 _ (XTripleint64.cells true) _ (fun _=>rfl),a404])
         exact ⟨by simp [Q1K],by simp,by simp [Prf.cells,XTripleint64.cells]⟩
        replace ⟨a422,h⟩:=Q0 h;simp;(repeat refine sdQ ?_);refine hK _ ?_;clear hK K;refine tn (Q7 (st':=⟨[(0,.own 0 0 v421.1.length),(7,iV v403.2),(8,iV v421.2)],[(0,rI v421.1)],1⟩) (Wk.rP _ [(0,0)] hP (by rfl) (by simp [hhOk,back,Prf.cells,XTripleint64.cells,UA,U1,IA,I1,LA,L1,BA,B1,EA,E1,E2,eB,eI,eL,Q8 _ Q9 _ (fun _=>rfl),Q8 _ (XTripleint64.cells true) _ (fun _=>rfl),a404,a422])) (Q3 (QG [] mo (by rw [hN];decide) fun K hK=>?_)));replace ⟨a423,h⟩:=Q0 h;simp [at_I a423];(repeat refine sdQ ?_);refine hK _ ?_;clear hK K;refine tn (Q7 (st':=⟨[(7,iV v403.2),(8,iV v421.2)],[(0,rI (v421.1.set ((if v421.2 > v403.2 then v421.2 else v403.2).toNat) (if v421.2<v403.2 then v421.2 else v403.2)))],1⟩) (Wk.rP _ [(0,0)] hP (by rfl) (by simp [hhOk,back,Prf.cells,XTripleint64.cells,UA,U1,IA,I1,LA,L1,BA,B1,EA,E1,E2,eB,eI,eL,Q8 _ Q9 _ (fun _=>rfl),Q8 _ (XTripleint64.cells true) _ (fun _=>rfl),a404,a422])) (Q3 (QG [] mo (by rw [hN];decide) fun K hK=>?_)));simp;(repeat refine sdQ ?_);refine hK _ (tn (Q7 (st':=⟨[(6,.val (.bool (v403.2 != v421.2)))],[(0,rI (v421.1.set ((if v421.2 > v403.2 then v421.2 else v403.2).toNat) (if v421.2<v403.2 then v421.2 else v403.2)))],1⟩) (Wk.rP _ [(0,0)] hP (by rfl) (by simp [hhOk,back,Prf.cells,XTripleint64.cells,UA,U1,IA,I1,LA,L1,BA,B1,EA,E1,E2,eB,eI,eL,Q8 _ Q9 _ (fun _=>rfl),Q8 _ (XTripleint64.cells true) _ (fun _=>rfl),a404,a422])) (Qo ?_)));clear hK K;cases h;first|refine iw_r (st':=⟨[(6,.val (.bool (v403.2 != v421.2)))],[(0,rI (v421.1.set ((if v421.2 > v403.2 then v421.2 else v403.2).toNat) (if v421.2<v403.2 then v421.2 else v403.2)))],1⟩) ?_ ?_|refine iw_n (st':=⟨[(6,.val (.bool (v403.2 != v421.2)))],[(0,rI (v421.1.set ((if v421.2 > v403.2 then v421.2 else v403.2).toNat) (if v421.2<v403.2 then v421.2 else v403.2)))],1⟩) ?_ ?_
        ·exact Wk.rP _ [(0,0)] hP (by rfl) (by simp [hhOk,back,Prf.cells,XTripleint64.cells,UA,U1,IA,I1,LA,L1,BA,B1,EA,E1,E2,eB,eI,eL,Q8 _ Q9 _ (fun _=>rfl),Q8 _ (XTripleint64.cells true) _ (fun _=>rfl),a404,a422])
        exact ⟨by simp [Q1K],by simp,by simp [Prf.cells,XTripleint64.cells]⟩
       replace ⟨a425,h⟩:=Q0 h;simp;(repeat refine sdQ ?_);refine hK _ ?_;clear hK K;refine bn (tn (Q7 (st':=⟨Yy p_ q_ x_ z_ ((11,.cmap (.st 3) (Qx v1))::(12,.own 0 0 v424.1.length)::YT p_ (Y0e s216 p_ ((17,iV s325.2)::Y04 p_ s216 x_ [(59,iV s325.2),(71,iV (ix (rx q_.sz (ix p_.t.to s216.2)) z_)),(72,iV s378.2)]))),[(0,rI v424.1)],1⟩) (Wk.r1 [(0,0)] (by simp [hP,hhOk,back,Prf.cells,XTripleint64.cells,UA,U1,IA,I1,LA,L1,BA,B1,EA,E1,E2,eB,eI,eL,Q8 _ Q9 _ (fun _=>rfl),Q8 _ (XTripleint64.cells true) _ (fun _=>rfl),a425])) (runQ hN fun K hK=>?_)));replace ⟨a426,h⟩:=Q0 h;simp [Qh a426];(repeat refine sdQ ?_);refine hK _ ?_;clear hK K;cases h;exact rn (s':=(v424.1,s378.2+1)) hk378 (Wk.r1 [(0,0)] (by simp [hP,hhOk,back,Prf.cells,XTripleint64.cells,UA,U1,IA,I1,LA,L1,BA,B1,EA,E1,E2,eB,eI,eL,Q8 _ Q9 _ (fun _=>rfl),Q8 _ (XTripleint64.cells true) _ (fun _=>rfl),a425]))
      have g379:¬ (s378.2<(ix (rx q_.sz (ix p_.t.to s216.2)) z_)):=gQ;clear g;replace h:=if_r g379 h;refine Qm (tx (lx (bh (bn ?_))));cases h;have q:_=e378:=hk378;have h:=h378;rw [← q] at h;clear q;(try dsimp only at h);exact jn (b:=s378.1) (Option.some.inj h) (Q1s [(0,0)])
     intro b327 hb327;have h:=h327;(try rw [← hb327] at h);clear h327;(try dsimp only at h);refine runQ hN fun K hK=>?_;replace ⟨a427,h⟩:=Q0 h;simp [Qh a427];(repeat refine sdQ ?_);refine hK _ ?_;clear hK K;cases h;exact rn (s':=(b327,s325.2+1)) hk325 (Q1s [(0,0)])
    have g326:¬ (s325.2<(ix (rx p_.sz x_) (ix p_.t.fr s216.2))):=gQ;clear g;replace h:=if_r g326 h;refine Qm (tx (lx (bh (bn ?_))));cases h;have q:_=e325:=hk325;have h:=h325;rw [← q] at h;clear q;(try dsimp only at h);exact jn (b:=s325.1) (Option.some.inj h) (Q1s [(0,0)])
   intro b218 hb218;have h:=h218;(try rw [← hb218] at h);clear h218;(try dsimp only at h);refine runQ hN fun K hK=>?_;replace ⟨a428,h⟩:=Q0 h;simp [Qh a428];(repeat refine sdQ ?_);refine hK _ ?_;clear hK K;cases h;exact rn (s':=(b218,s216.2+1)) hk216 (Q1s [(0,0)])
  have g217:¬ (s216.2<(p_.t.fr.length:Int)):=gQ;clear g;replace h:=if_r g217 h;refine Qm (tx (lx (bh ?_)));cases h;exact jn (b:=s216.1) hk216 (Q1s [(0,0)])
 intro b3 hb3;have h:=h3;try rw [← hb3] at h
 clear h3;try dsimp only at h
 refine Q3 (Q6B [] mo (by rw [hN];decide) fun K hK=>?_);simp;repeat with_reducible refine sdQ ?_
 replace ⟨v476,hv476,h⟩:=bind_some h;refine Q4B (fz:=[]) (Q3l (ts:=[2]) (e:={ v:=.own 1 0 v476.2.length,set:=[(0,rI v476.1)],del:=[],new:=[(1,rI v476.2)],cnt:=1 }) Tryz.func96 rfl rfl rfl (by simp [Tryz.f96]) (by simp) (Q8F (by simp)) (newI (by rfl)) fun F hN hP=>?_) ?_
 ·clear h;have h:=hv476;clear hv476;refine Q3 (QG [] mo (by rw [hN];decide) fun K hK=>?_);simp;repeat refine sdQ ?_
  refine hK _ ?_;clear hK K;refine tn (Q7 (st':=⟨[(0,.own 0 0 b3.length)],[(0,rI b3)],1⟩) (Wk.rP _ [(0,0)] hP (by rfl) (by simp [hhOk,back,Prf.cells,XTripleint64.cells,UA,U1,IA,I1,LA,L1,BA,B1,EA,E1,E2,eB,eI,eL,Q8 _ Q9 _ (fun _=>rfl),Q8 _ (XTripleint64.cells true) _ (fun _=>rfl)])) (Q3 (QG [] mo (by rw [hN];decide) fun K hK=>?_)));replace ⟨a430,h⟩:=Q0 h;simp;repeat refine sdQ ?_
  refine hK _ ?_;clear hK K;refine tn (Q7 (st':=⟨[(0,.own 0 0 b3.length),(3,.own 1 0 ((List.replicate ((b3.length:Int).toNat) 0).length))],[(0,rI b3),(1,rI (List.replicate ((b3.length:Int).toNat) 0))],2⟩) (Wk.rP _ [(0,0),(1,1)] hP (by rfl) (by simp [hhOk,back,Prf.cells,XTripleint64.cells,UA,U1,IA,I1,LA,L1,BA,B1,EA,E1,E2,eB,eI,eL,Q8 _ Q9 _ (fun _=>rfl),Q8 _ (XTripleint64.cells true) _ (fun _=>rfl)])) (Q3 (Q3 (QG [] mo (by rw [hN];decide) fun K hK=>?_))));simp;repeat refine sdQ ?_
  refine hK _ (tn (Q7 (st':=⟨[(0,.own 0 0 b3.length),(3,.own 1 0 ((List.replicate ((b3.length:Int).toNat) 0).length)),(9,iV (b3.length:Int)),(10,iV 0)],[(0,rI b3),(1,rI (List.replicate ((b3.length:Int).toNat) 0))],2⟩) (Wk.rP _ [(0,0),(1,1)] hP (by rfl) (by simp [hhOk,back,Prf.cells,XTripleint64.cells,UA,U1,IA,I1,LA,L1,BA,B1,EA,E1,E2,eB,eI,eL,Q8 _ Q9 _ (fun _=>rfl),Q8 _ (XTripleint64.cells true) _ (fun _=>rfl)])) ?_));clear hK K;replace ⟨e431,h,h431⟩:=bind_some h;refine Qg (fun b431:List Int × List Int=>⟨[(3,.own 1 0 b431.2.length)],[(0,rI b431.1),(1,rI b431.2)],2⟩) (fun b431=>b431=e431) ?_ ?_
  ·refine Qa (Qn h (fun s453:List Int × List Int × Int=>⟨[(0,.own 0 0 s453.1.length),(3,.own 1 0 s453.2.1.length),(9,iV (b3.length:Int)),(10,iV s453.2.2)],[(0,rI s453.1),(1,rI s453.2.1)],2⟩) (Wk.rP _ [(0,0),(1,1)] hP (by rfl) (by simp [hhOk,back,Prf.cells,XTripleint64.cells,UA,U1,IA,I1,LA,L1,BA,B1,EA,E1,E2,eB,eI,eL,Q8 _ Q9 _ (fun _=>rfl),Q8 _ (XTripleint64.cells true) _ (fun _=>rfl)])) ?_);clear h;intro k453 s453 c453 h hk453;refine Q3 (QG [] mo (by rw [hN];decide) fun K hK=>?_);simp;(repeat refine sdQ ?_);refine hK _ ?_;clear hK K;refine tn (Q3 (Qd rfl (fun g=>?_) fun g=>?_))
   ·have g454:s453.2.2<(b3.length:Int):=gQ;clear g;replace h:=if_l g454 h;refine Qe (tn (Q3 (Qa (Q3 (QG [] mo (by rw [hN];decide) fun K hK=>?_)))));simp;(repeat refine sdQ ?_);refine hK _ ?_;clear hK K;refine tn (Q7 (st':=⟨[(0,.own 0 0 s453.1.length),(3,.own 1 0 s453.2.1.length),(4,iV s453.2.2),(9,iV (b3.length:Int)),(10,iV s453.2.2)],[(0,rI s453.1),(1,rI s453.2.1)],2⟩) (Wk.rP _ [(0,0),(1,1)] hP (by rfl) (by simp [hhOk,back,Prf.cells,XTripleint64.cells,UA,U1,IA,I1,LA,L1,BA,B1,EA,E1,E2,eB,eI,eL,Q8 _ Q9 _ (fun _=>rfl),Q8 _ (XTripleint64.cells true) _ (fun _=>rfl)])) (Q6B [] mo (by rw [hN];decide) fun K hK=>?_));simp;(repeat with_reducible refine sdQ ?_);replace ⟨v471,hv471,h⟩:=bind_some h;refine Q4B (fz:=[]) (Q3l (ts:=[4]) (e:={ v:=.val (.int .i64 v471.2),set:=[(0,rI v471.1)],del:=[],new:=[],cnt:=0 }) Tryz.func107 rfl rfl rfl (by simp [Tryz.f107]) (by simp) (Q8F (by simp)) (newI (by rfl)) fun F hN hP=>?_) ?_
    ·clear h;have h:=hv471;clear hv471;refine Q3 (QG [] mo (by rw [hN];decide) fun K hK=>?_);simp;(repeat refine sdQ ?_);refine hK _ (tn (Q7 (st':=⟨[(0,.own 0 0 s453.1.length),(1,iV s453.2.2)],[(0,rI s453.1),(1,rI s453.2.1)],2⟩) (Wk.rP _ [(0,0),(1,1)] hP (by rfl) (by simp [hhOk,back,Prf.cells,XTripleint64.cells,UA,U1,IA,I1,LA,L1,BA,B1,EA,E1,E2,eB,eI,eL,Q8 _ Q9 _ (fun _=>rfl),Q8 _ (XTripleint64.cells true) _ (fun _=>rfl)])) (Q3 ?_)));clear hK K;replace ⟨e456,h,h456⟩:=bind_some h;refine Qg (fun b456:List Int × Int=>⟨[(1,iV b456.2)],[(0,rI b456.1),(1,rI s453.2.1)],2⟩) (fun b456=>b456=e456) ?_ ?_
     ·refine Qa (Qn h (fun s464:List Int × Int=>⟨[(0,.own 0 0 s464.1.length),(1,iV s464.2)],[(0,rI s464.1),(1,rI s453.2.1)],2⟩) (Wk.rP _ [(0,0),(1,1)] hP (by rfl) (by simp [hhOk,back,Prf.cells,XTripleint64.cells,UA,U1,IA,I1,LA,L1,BA,B1,EA,E1,E2,eB,eI,eL,Q8 _ Q9 _ (fun _=>rfl),Q8 _ (XTripleint64.cells true) _ (fun _=>rfl)])) ?_);clear h;intro k464 s464 c464 h hk464;refine Q3 (Q3 (QG [] mo (by rw [hN];decide) fun K hK=>?_));replace ⟨a465,h⟩:=Q0 h;simp [at_I a465];(repeat refine sdQ ?_);refine hK _ ?_;clear hK K;refine tn (Qd rfl (fun g=>?_) fun g=>?_)
      ·have g466:¬ ((ix s464.1 s464.2)=s464.2):=gQ;clear g;replace h:=if_l g466 h;refine Qe (tn (Qa (Q3 (QG [] mo (by rw [hN];decide) fun K hK=>?_))));replace ⟨a467,h⟩:=Q0 h;replace ⟨a468,h⟩:=Q0 h;replace ⟨a469,h⟩:=Q0 h;simp [at_I a467,at_I a468,at_I a469];(repeat refine sdQ ?_);refine hK _ ?_;clear hK K;refine tn (Q7 (st':=⟨Y14 s464 [],[(0,rI (s464.1.set s464.2.toNat (ix s464.1 (ix s464.1 s464.2)))),(1,rI s453.2.1)],2⟩) (Wk.rP _ [(0,0),(1,1)] hP (by rfl) (by simp [hhOk,back,Prf.cells,XTripleint64.cells,UA,U1,IA,I1,LA,L1,BA,B1,EA,E1,E2,eB,eI,eL,Q8 _ Q9 _ (fun _=>rfl),Q8 _ (XTripleint64.cells true) _ (fun _=>rfl)])) (QG [] mo (by rw [hN];decide) fun K hK=>?_));replace ⟨a470,h⟩:=Q0 h;simp [at_I a470];(repeat refine sdQ ?_);refine hK _ (bn ?_);clear hK K;cases h;exact rn (s':=(s464.1.set s464.2.toNat (ix s464.1 (ix s464.1 s464.2)),ix (s464.1.set s464.2.toNat (ix s464.1 (ix s464.1 s464.2))) s464.2)) hk464 (Wk.rP _ [(0,0),(1,1)] hP (by rfl) (by simp [hhOk,back,Prf.cells,XTripleint64.cells,UA,U1,IA,I1,LA,L1,BA,B1,EA,E1,E2,eB,eI,eL,Q8 _ Q9 _ (fun _=>rfl),Q8 _ (XTripleint64.cells true) _ (fun _=>rfl)]))
      have g466:¬ (¬ ((ix s464.1 s464.2)=s464.2)):=gQ;clear g;replace h:=if_r g466 h;refine Qm (tx (lx (bh ?_)));cases h;exact jn (b:=(s464.1,s464.2)) hk464 (Wk.rP _ [(0,0),(1,1)] hP (by rfl) (by simp [hhOk,back,Prf.cells,XTripleint64.cells,UA,U1,IA,I1,LA,L1,BA,B1,EA,E1,E2,eB,eI,eL,Q8 _ Q9 _ (fun _=>rfl),Q8 _ (XTripleint64.cells true) _ (fun _=>rfl)]))
     intro b456 hb456;have h:=h456;(try rw [← hb456] at h);clear h456;(try dsimp only at h);refine Q3 (QG [] mo (by rw [hN];decide) fun K hK=>?_);simp;(repeat refine sdQ ?_);refine hK _ (tn (Q7 (st':=⟨[(4,iV b456.2)],[(0,rI b456.1),(1,rI s453.2.1)],2⟩) (Wk.rP _ [(0,0),(1,1)] hP (by rfl) (by simp [hhOk,back,Prf.cells,XTripleint64.cells,UA,U1,IA,I1,LA,L1,BA,B1,EA,E1,E2,eB,eI,eL,Q8 _ Q9 _ (fun _=>rfl),Q8 _ (XTripleint64.cells true) _ (fun _=>rfl)])) (Qo ?_)));clear hK K;cases h;first|refine iw_r (st':=⟨[(4,iV b456.2)],[(0,rI b456.1),(1,rI s453.2.1)],2⟩) ?_ ?_|refine iw_n (st':=⟨[(4,iV b456.2)],[(0,rI b456.1),(1,rI s453.2.1)],2⟩) ?_ ?_
     ·exact Wk.rP _ [(0,0),(1,1)] hP (by rfl) (by simp [hhOk,back,Prf.cells,XTripleint64.cells,UA,U1,IA,I1,LA,L1,BA,B1,EA,E1,E2,eB,eI,eL,Q8 _ Q9 _ (fun _=>rfl),Q8 _ (XTripleint64.cells true) _ (fun _=>rfl)])
     exact ⟨by simp [Q1K],by simp,by simp [Prf.cells,XTripleint64.cells]⟩
    replace ⟨a472,h⟩:=Q0 h;replace ⟨a473,h⟩:=Q0 h;simp [at_I a473];(repeat refine sdQ ?_);refine hK _ ?_;clear hK K;refine bn (tn (Q7 (st':=⟨[(0,.own 0 0 v471.1.length),(3,.own 1 0 ((s453.2.1.set s453.2.2.toNat v471.2).length)),(9,iV (b3.length:Int)),(10,iV s453.2.2)],[(0,rI v471.1),(1,rI (s453.2.1.set s453.2.2.toNat v471.2))],2⟩) (Wk.rP _ [(0,0),(1,1)] hP (by rfl) (by simp [hhOk,back,Prf.cells,XTripleint64.cells,UA,U1,IA,I1,LA,L1,BA,B1,EA,E1,E2,eB,eI,eL,Q8 _ Q9 _ (fun _=>rfl),Q8 _ (XTripleint64.cells true) _ (fun _=>rfl),a472])) (QG [] mo (by rw [hN];decide) fun K hK=>?_)));replace ⟨a474,h⟩:=Q0 h;simp [Qh a474];(repeat refine sdQ ?_);refine hK _ ?_;clear hK K;cases h;exact rn (s':=(v471.1,s453.2.1.set s453.2.2.toNat v471.2,s453.2.2+1)) hk453 (Wk.rP _ [(0,0),(1,1)] hP (by rfl) (by simp [hhOk,back,Prf.cells,XTripleint64.cells,UA,U1,IA,I1,LA,L1,BA,B1,EA,E1,E2,eB,eI,eL,Q8 _ Q9 _ (fun _=>rfl),Q8 _ (XTripleint64.cells true) _ (fun _=>rfl),a472]))
   have g454:¬ (s453.2.2<(b3.length:Int)):=gQ;clear g;replace h:=if_r g454 h;refine Qm (tx (lx (bh ?_)));cases h;exact jn (b:=(s453.1,s453.2.1)) hk453 (Wk.rP _ [(0,0),(1,1)] hP (by rfl) (by simp [hhOk,back,Prf.cells,XTripleint64.cells,UA,U1,IA,I1,LA,L1,BA,B1,EA,E1,E2,eB,eI,eL,Q8 _ Q9 _ (fun _=>rfl),Q8 _ (XTripleint64.cells true) _ (fun _=>rfl)]))
  intro b431 hb431;have h:=h431;try rw [← hb431] at h
  clear h431;try dsimp only at h
  refine Q3 (QG [] mo (by rw [hN];decide) fun K hK=>?_);simp;repeat with_reducible refine sdQ ?_
  replace ⟨v475,hv475,h⟩:=bind_some h;refine Q1G (fz:=[]) (QaD _ v475 hv475) (.cons .w .nil) ?_;simp;repeat refine sdQ ?_
  refine hK _ (tn (Q7 (st':=⟨[(2,.own 1 0 v475.length)],[(0,rI b431.1),(1,rI v475)],2⟩) (Wk.rP _ [(0,0),(2,1)] hP (by rfl) (by simp [hhOk,back,Prf.cells,XTripleint64.cells,UA,U1,IA,I1,LA,L1,BA,B1,EA,E1,E2,eB,eI,eL,Q8 _ Q9 _ (fun _=>rfl),Q8 _ (XTripleint64.cells true) _ (fun _=>rfl)])) (Qo ?_)));clear hK K;cases h;first|refine iw_r (st':=⟨[(2,.own 1 0 v475.length)],[(0,rI b431.1),(1,rI v475)],2⟩) ?_ ?_|refine iw_n (st':=⟨[(2,.own 1 0 v475.length)],[(0,rI b431.1),(1,rI v475)],2⟩) ?_ ?_
  ·exact Wk.rP _ [(0,0),(1,1)] hP (by rfl) (by simp [hhOk,back,Prf.cells,XTripleint64.cells,UA,U1,IA,I1,LA,L1,BA,B1,EA,E1,E2,eB,eI,eL,Q8 _ Q9 _ (fun _=>rfl),Q8 _ (XTripleint64.cells true) _ (fun _=>rfl)])
  exact ⟨by simp [Q1K],by simp,by simp [Prf.cells,XTripleint64.cells]⟩
 replace ⟨a477,h⟩:=Q0 h;simp;repeat refine sdQ ?_
 refine hK _ (tn (Q7 (st':=⟨[(10,.own 0 0 v476.2.length)],[(0,rI v476.2)],1⟩) (Wk.r1 [(1,0)] (by simp [hP,hhOk,back,Prf.cells,XTripleint64.cells,UA,U1,IA,I1,LA,L1,BA,B1,EA,E1,E2,eB,eI,eL,Q8 _ Q9 _ (fun _=>rfl),Q8 _ (XTripleint64.cells true) _ (fun _=>rfl),a477])) (Qo ?_)));clear hK K;have hr:=Option.some.inj h;rw [← hr];refine ⟨_,(.tmp .nil),?_⟩;refine ⟨(.one rfl rfl .nil),[lI v476.2],[0],by simp [Prf.cells,XTripleint64.cells,UA,U1,IA,I1,LA,L1,BA,B1,EA,E1,E2,eB,eI,eL,Q8 _ Q9 _ (fun _=>rfl),Q8 _ (XTripleint64.cells true) _ (fun _=>rfl)],by simp,(UpL.refl _)⟩
section
attribute [local simp] Ql Q11 QE Q1j QW
noncomputable def joinE (j:List Int) (a b:Int):Option (List Int × Bool) :=
 ((Qy (σ:=List Int × Int) (ε:=List Int × Int) (fun s64 =>
        ass (0≤s64.2∧s64.2<(s64.1.length:Int)) <|
        if ¬ ((ix s64.1 s64.2)=s64.2) then
         ass (0≤s64.2∧s64.2<(s64.1.length:Int)) <|
         ass (0≤ix s64.1 s64.2∧ix s64.1 s64.2<(s64.1.length:Int)) <|
         ass (0≤s64.2∧s64.2<(s64.1.length:Int)) <|
         ass (0≤s64.2∧s64.2<((s64.1.set s64.2.toNat (ix s64.1 (ix s64.1 s64.2))).length:Int)) <|
         some (Ctl.next (s64.1.set s64.2.toNat (ix s64.1 (ix s64.1 s64.2)),ix (s64.1.set s64.2.toNat (ix s64.1 (ix s64.1 s64.2))) s64.2))
        else
         some (Ctl.ret (s64.1,s64.2))) fuel (j,a)).bind fun b388 =>
           some (b388.1,b388.2):Option (List Int × Int)).bind fun v403 =>
 ass (v403.1.length=j.length) <|
 ((Qy (σ:=List Int × Int) (ε:=List Int × Int) (fun s64 =>
        ass (0≤s64.2∧s64.2<(s64.1.length:Int)) <|
        if ¬ ((ix s64.1 s64.2)=s64.2) then
         ass (0≤s64.2∧s64.2<(s64.1.length:Int)) <|
         ass (0≤ix s64.1 s64.2∧ix s64.1 s64.2<(s64.1.length:Int)) <|
         ass (0≤s64.2∧s64.2<(s64.1.length:Int)) <|
         ass (0≤s64.2∧s64.2<((s64.1.set s64.2.toNat (ix s64.1 (ix s64.1 s64.2))).length:Int)) <|
         some (Ctl.next (s64.1.set s64.2.toNat (ix s64.1 (ix s64.1 s64.2)),ix (s64.1.set s64.2.toNat (ix s64.1 (ix s64.1 s64.2))) s64.2))
        else
         some (Ctl.ret (s64.1,s64.2))) fuel (v403.1,b)).bind fun b406 =>
           some (b406.1,b406.2):Option (List Int × Int)).bind fun v421 =>
 ass (v421.1.length=v403.1.length) <|
 ass (0≤(if v421.2 > v403.2 then v421.2 else v403.2)∧(if v421.2 > v403.2 then v421.2 else v403.2)<(v421.1.length:Int)) <|
 some (v421.1.set ((if v421.2 > v403.2 then v421.2 else v403.2).toNat) (if v421.2<v403.2 then v421.2 else v403.2),v403.2 != v421.2)
theorem join_go {j:List Int} {r:Nat→Nat} {n a b:Nat} (h:UF j r n) (ha:a<n) (hb:b<n) (hn:n≤1000000):∃ j' d,joinE j a b=some (j',d)∧UF j' (jnr r a b) n:=by
 obtain ⟨j1,e1,w1⟩:=Q8W a j fuel h ha (by unfold fuel;omega);obtain ⟨j2,e2,w2⟩:=Q8W b j1 fuel w1 hb (by unfold fuel;omega);have l0:=h.len;have l1:=w1.len;have l2:=w2.len;have ra:=h.le a ha;have rb:=h.le b hb;have u:=w2.jn ha hb;refine ⟨_,(r a:Int) != (r b:Int),?_,u⟩;unfold joinE;rw [e1];simp only [Option.bind_some];rw [Q4 (by omega),e2];simp only [Option.bind_some];have m1:(if (r b:Int) > (r a:Int) then (r b:Int) else (r a:Int))=((max (r a) (r b):Nat):Int):=by split<;>omega
 have m2:(if (r b:Int)<(r a:Int) then (r b:Int) else (r a:Int))=((min (r a) (r b):Nat):Int):=by split<;>omega
 rw [Q4 (by omega),m1,m2,Q4 (by omega)];rfl
theorem RR_add {P:List (List Int)} {p:List Int} {a b:Nat} (e:p=[(a:Int),(b:Int)]):RR (P++[p])=jnr (RR P) a b:=by
 rw [RR_snoc,e];rfl
theorem e_clsAt {p q:Prf} (h:PQ p q) {x z:Nat} (hx:(x:Int)<p.s.n) (hz:(z:Int)<q.t.n) (hN:tN p q x z≤256):Q29 p q x z (tri trX (szx p x) (szz q z) p.t.id.length)=some (cmC p q x z):=by
 have n:=h.a.z.ht.nums;have hl:(tri trX (szx p x) (szz q z) p.t.id.length).length=tN p q x z:=Q3K _ _ _ _;unfold Q29 Q3C;rw [e_numbX (by omega),hl,Q7J (by omega) (by omega)];simp only [Option.bind_some,Int.toNat_natCast];refine Q1x (σ:=List Int × Int) (Q:=fun o=>o=some (cmC p q x z)) p.t.fr.length (fun b s=>s.2=(b:Int)∧UF s.1 (RR (tPS p q x z b)) (tN p q x z)) (fun j=>UF j (RR (tPS p q x z p.t.fr.length)) (tN p q x z)) (by omega) ⟨rfl,UF_id⟩ ?_ ?_ ?_
 ·rintro b ⟨j,i⟩ hb ⟨hi,u⟩
  simp only at hi u;subst hi;left;obtain ⟨f1,f2,f3,f4⟩:=Q3A h.a.z.ht hb;obtain ⟨a1,a2,a3,a4⟩:=h.sx hx f2;obtain ⟨b1,b2,b3,b4⟩:=h.sz hz f4;simp only;rw [if_pos (by omega),Q4 (by omega),Q4 (by omega),f1,f3,Q4 (by omega),Q4 (by omega),a1,Option.bind_assoc];refine Q1x (σ:=List Int × Int) (Q:=fun o=>∃ s':List Int × Int,o=some (Ctl.next s')∧s'.2=((b+1:Nat):Int)∧UF s'.1 (RR (tPS p q x z (b+1))) (tN p q x z)) (szx p x (frN p.t b)) (fun e s=>s.2=(e:Int)∧UF s.1 (RR (tPS p q x z b++dbl (tPr p q x z b) (szz q z (toN p.t b)) e)) (tN p q x z)) (fun j=>UF j (RR (tPS p q x z (b+1))) (tN p q x z)) (by omega) ⟨rfl,by simpa [dbl] using u⟩ ?_ ?_ ?_
  ·rintro e ⟨j,i⟩ he ⟨hi,u⟩
   simp only at hi u;subst hi;left;obtain ⟨⟨p1,p2,p3⟩,p4,p5⟩:=h.pb hx hb he;simp only;rw [if_pos (by omega),Q4 (by omega),Q4 (by omega),b1,Option.bind_assoc];refine Q1x (σ:=List Int × Int) (Q:=fun o=>∃ s':List Int × Int,o=some (Ctl.next s')∧s'.2=((e+1:Nat):Int)∧UF s'.1 (RR (tPS p q x z b++dbl (tPr p q x z b) (szz q z (toN p.t b)) (e+1))) (tN p q x z)) (szz q z (toN p.t b)) (fun d s=>s.2=(d:Int)∧UF s.1 (RR (tPS p q x z b++dbl (tPr p q x z b) (szz q z (toN p.t b)) e++tab d (tPr p q x z b e))) (tN p q x z)) (fun j=>UF j (RR (tPS p q x z b++dbl (tPr p q x z b) (szz q z (toN p.t b)) (e+1))) (tN p q x z)) (by omega) ⟨rfl,by simpa [Q4J] using u⟩ ?_ ?_ ?_
   ·rintro d ⟨j,i⟩ hd ⟨hi,u⟩
    simp only at hi u;subst hi;left;obtain ⟨⟨q1,q2,q3⟩,q4,q5⟩:=h.qb hz hb hd;obtain ⟨j',w,ej,u'⟩:=join_go u (Q4f (p:=p) (q:=q) (x:=x) (z:=z) f4 p5 hd) (Q4f (p:=p) (q:=q) (x:=x) (z:=z) f2 he q5) (by omega);have t1:=Q7N (p:=p) (q:=q) (x:=x) (z:=z) f4 p5 hd;have t2:=Q7N (p:=p) (q:=q) (x:=x) (z:=z) f2 he q5;have l1:=u.len;have l2:=u'.len;simp only;rw [if_pos (by omega),Q4 (by omega),Q4 (by omega),Q4 (by omega),Q4 (by omega),Q4 (by omega),Q4 (by omega),p4,q4,show (⟨(toN p.t b:Int),(pEx p x b e:Int),(d:Int)⟩:XTripleint64)=trX (toN p.t b) (pEx p x b e) d from rfl,show (⟨(frN p.t b:Int),(e:Int),(qEz q z b d:Int)⟩:XTripleint64)=trX (frN p.t b) e (qEz q z b d) from rfl,t1,t2];simp only [Option.getD_some];unfold joinE at ej;rw [ej];simp only [Option.bind_some];rw [Q4 (by omega),Q4 (by unfold B64;omega)];refine ⟨_,rfl,by push_cast;rfl,?_⟩;rw [Q1u,← List.append_assoc,RR_add (p:=tPr p q x z b e d) (a:=tpos p q x z (toN p.t b) (pEx p x b e) d) (b:=tpos p q x z (frN p.t b) e (qEz q z b d)) rfl];exact u'
   ·rintro ⟨j,i⟩ ⟨hi,u⟩
    simp only at hi u;subst hi;simp only;rw [if_neg (by omega)];exact ⟨_,rfl,by simpa [dbl] using u⟩
   intro j u;simp only [Option.bind_some];rw [Q4 (by unfold B64;omega)];exact ⟨_,rfl,by push_cast;rfl,u⟩
  ·rintro ⟨j,i⟩ ⟨hi,u⟩
   simp only at hi u;subst hi;simp only;rw [if_neg (by omega)];exact ⟨_,rfl,u⟩
  intro j u;simp only [Option.bind_some];rw [Q4 (by unfold B64;omega)];exact ⟨_,rfl,by push_cast;rfl,u⟩
 ·rintro ⟨j,i⟩ ⟨hi,u⟩
  simp only at hi u;subst hi;simp only;rw [if_neg (by omega)];exact ⟨_,rfl,u⟩
 intro j u;have l:=u.len;try simp only
 rw [Q4 (by omega),l];generalize hr:RR (tPS p q x z p.t.fr.length)=r at u;rw [Option.bind_assoc];refine Q1x (σ:=List Int × List Int × Int) (Q:=fun o=>o=some (cmC p q x z)) (tN p q x z) (fun i s=>s.2=(tab i (fun x=>(r x:Int))++List.replicate (tN p q x z - i) 0,(i:Int))∧UF s.1 r (tN p q x z)) (fun e=>e.2=tab (tN p q x z) (fun x=>(r x:Int))∧UF e.1 r (tN p q x z)) (by omega) ⟨by simp [Q4J],u⟩ ?_ ?_ ?_
 ·rintro i ⟨j,o,k⟩ hi ⟨hk,u⟩
  simp only [Prod.mk.injEq] at hk u;obtain ⟨rfl,rfl⟩:=hk;left;obtain ⟨j1,e1,w1⟩:=Q8W i j fuel u hi (by unfold fuel;omega);have l1:=u.len;have l2:=w1.len;simp only;rw [if_pos (by omega),e1];simp only [Option.bind_some];rw [Q4 (by omega),Q4 (by simp;omega),Q4 (by unfold B64;omega)];refine ⟨_,rfl,?_,w1⟩;refine Prod.ext ?_ (by push_cast;rfl);simp only [Int.toNat_natCast];rw [show tN p q x z - i=(tN p q x z - (i+1))+1 by omega,Q6l _ _ _ _ (by simp),Q1u]
 ·rintro ⟨j,o,k⟩ ⟨hk,u⟩
  simp only [Prod.mk.injEq] at hk u;obtain ⟨rfl,rfl⟩:=hk;simp only;rw [if_neg (by omega)];exact ⟨_,rfl,by simp,u⟩
 rintro ⟨j,o⟩ ⟨ho,u⟩
 try simp only at ho u
 have l1:=u.len;rw [ho];simp only;rw [e_normal (fun x hx=>⟨u.le x hx,u.rr hx⟩) (by omega)];simp only [Option.bind_some];rw [Q4 (by omega),← hr];rfl
end
attribute [local simp] unk unA unE unT unC flat eL eI Qr Q16 Q3k Cat.cells Fn.cells
noncomputable def QF (x_:Int) (y_:Int) (c0_:Cat) (c1_:Fn) (c2_:Fn):Option (List Int) :=
 ass (0≤x_∧x_<(c1_.ob.length:Int)) <|
 ass (0≤y_∧y_<(c2_.ob.length:Int)) <|
 (Q10 c0_ (ix c1_.ob x_) (ix c2_.ob y_)).bind fun v3 =>
 some v3
@[simp] abbrev Y1o (a:Cat) (b:List (AV)):List (AV):=.rptr (Cat.cells true a)::b
@[simp] abbrev Y1t (a:Fn) (b:List (AV)):List (AV):=.rptr (Fn.cells true a)::b
theorem Q14 (x_:Int) (y_:Int) (c0_:Cat) (c1_:Fn) (c2_:Fn) (r:List Int) (h:QF x_ y_ c0_ c1_ c2_=some r):Contract Tryz.prog 89 [iV x_,iV y_,.rptr (Y1o c0_ []),.rptr (Y1t c1_ []),.rptr (Y1t c2_ [])] (lI r):=by
 refine Qc (rvs:=[.tmp 7]) (rs:=[lI r]) Tryz.func89 rfl rfl rfl rfl (by simp [Tryz.f89]) fun F hN hP=>?_;unfold QF at h;refine Q3 (runQ hN fun K hK=>?_);simp;repeat refine sdQ ?_
 refine hK _ ?_;clear hK K;refine tn (Q7 (st':=⟨[(0,iV x_),(1,iV y_),(2,.rptr (Y1o c0_ [])),(3,.rptr (Y1t c1_ [])),(4,.rptr (Y1t c2_ []))],[],0⟩) (Q1s []) (Q3 (runQ hN fun K hK=>?_)));replace ⟨a1,h⟩:=Q0 h;replace ⟨a2,h⟩:=Q0 h;simp [at_I a1,at_I a2];repeat with_reducible refine sdQ ?_
 replace ⟨v3,hv3,h⟩:=bind_some h;refine Q6 (Q2o _ _ _ v3 hv3) (.cons (.preT (by simp [Cat.cells,Fn.cells])) (.cons .val (.cons .val .nil))) ?_;simp [at_I a1,at_I a2];repeat refine sdQ ?_
 refine hK _ (tn (Q7 (st':=⟨[(7,.own 0 0 v3.length)],[(0,rI v3)],1⟩) (Q1s [(0,0)]) (Qo ?_)));clear hK K;have hr:=Option.some.inj h;rw [← hr];refine ⟨_,(.tmp .nil),?_⟩;refine ⟨(.one rfl rfl .nil),[lI v3],[0],by simp [Cat.cells,Fn.cells,UA,U1,IA,I1,LA,L1,BA,B1,EA,E1,E2,eB,eI,eL],by simp,(UpL.refl _)⟩
attribute [local simp] unk unA unE unT unC flat eL eI Qr Q16 Q3k Cat.cells Fn.cells
noncomputable def Q15 (x_:Int) (y_:Int) (c0_:Cat × Fn × Fn):Option Int :=
 (QF x_ y_ c0_.1 c0_.2.1 c0_.2.2).bind fun v1 =>
 some (v1.length:Int)
@[simp] abbrev Y1r (a:Cat × Fn × Fn) (b:List (AV)):List (AV):=.rptr (Fn.cells true a.2.1)::b
@[simp] abbrev Y1s (a:Cat × Fn × Fn) (b:List (AV)):List (AV):=.rptr (Fn.cells true a.2.2)::b
@[simp] abbrev Y1v (a:Cat × Fn × Fn) (b:List (AV)):List (AV):=.rptr (Cat.cells true a.1)::b
theorem Q3h (x_:Int) (y_:Int) (c0_:Cat × Fn × Fn) (r:Int) (h:Q15 x_ y_ c0_=some r):Contract Tryz.prog 90 [iV x_,iV y_,.rptr [.fn 89 [.rptr (Y1v c0_ []),.rptr (Y1r c0_ []),.rptr (Y1s c0_ [])]]] (iV r):=by
 refine Qc (rvs:=[.tmp 5]) (rs:=[iV r]) Tryz.func90 rfl rfl rfl rfl (by simp [Tryz.f90]) fun F hN hP=>?_;unfold Q15 at h;refine Q3 (runQ hN fun K hK=>?_);simp;repeat refine sdQ ?_
 refine hK _ ?_;clear hK K;refine tn (Q7 (st':=⟨[(0,iV x_),(1,iV y_),(2,.rptr [.fn 89 [.rptr (Y1v c0_ []),.rptr (Y1r c0_ []),.rptr (Y1s c0_ [])]])],[],0⟩) (Q1s []) (Q3 (runQ hN fun K hK=>?_)));simp;repeat with_reducible refine sdQ ?_
 replace ⟨v1,hv1,h⟩:=bind_some h;refine Q6 (Q14 _ _ _ _ _ v1 hv1) (.cons .val (.cons .val (.cons .rptr (.cons .rptr (.cons .rptr .nil))))) ?_;simp;repeat refine sdQ ?_
 refine hK _ (tn (Q7 (st':=⟨[(5,iV (v1.length:Int))],[],0⟩) (Q1s []) (Qo ?_)));clear hK K;have hr:=Option.some.inj h;rw [← hr];refine ⟨_,(.tmp .nil),?_⟩;refine ⟨(.one rfl rfl .nil),[iV (v1.length:Int)],[],by simp [Cat.cells,Fn.cells,UA,U1,IA,I1,LA,L1,BA,B1,EA,E1,E2,eB,eI,eL],by simp,(UpL.refl _)⟩
attribute [local simp] unk unA unE unT unC flat eL eI Qr Q16 Q3k Cat.cells Fn.cells
noncomputable def QK (a_:Int) (y_:Int) (c0_:Cat × Fn × Fn) (c1_:Fn) (c2_:Cat):Option (List Int) :=
 ass (0≤a_∧a_<(c1_.s.fr.length:Int)) <|
 (QF (ix c1_.s.fr a_) y_ c0_.1 c0_.2.1 c0_.2.2).bind fun v2 =>
 ass (0≤a_∧a_<(c1_.s.to.length:Int)) <|
 (QF (ix c1_.s.to a_) y_ c0_.1 c0_.2.1 c0_.2.2).bind fun v4 =>
 (Qy (σ:=List Int × Int) (ε:=List Int) (fun s13 =>
  if s13.2<(v4.length:Int) then
   ass (0≤s13.2∧s13.2<(v4.length:Int)) <|
   ass (0≤a_∧a_<(c1_.ar.length:Int)) <|
   (QU c2_ (ix c1_.ar a_) (ix v4 s13.2)).bind fun v17 =>
   (Q1I v2 v17).bind fun v18 =>
   ass ((s13.1++[v18]).length≤1073741824) <|
   ass (B64 (s13.2+1)) <|
   some (Ctl.next (s13.1++[v18],s13.2+1))
  else
   some (Ctl.ret s13.1)) fuel ([],0)).bind fun b5 =>
 some b5
@[simp] abbrev YK (a b:Int) (c:Cat × Fn × Fn) (d:Fn) (e:Cat) (f:List (Nat × AV)):List (Nat × AV):=(0,iV a)::(1,iV b)::(2,.rptr [.fn 89 [.rptr (Y1v c []),.rptr (Y1r c []),.rptr (Y1s c [])]])::(3,.rptr (Y1t d []))::(4,.rptr (Y1o e []))::f
@[simp] abbrev YU (a:Int) (b:Fn) (c:Cat) (d:List (Nat × AV)):List (Nat × AV):=(0,iV a)::(3,.rptr (Y1t b []))::(4,.rptr (Y1o c []))::d
@[simp] abbrev Y0c (a b:List Int) (c:List (Nat × AV)):List (Nat × AV):=(9,.own 1 0 a.length)::(34,.own 2 0 b.length)::(35,iV (b.length:Int))::c
theorem Q2x (a_:Int) (y_:Int) (c0_:Cat × Fn × Fn) (c1_:Fn) (c2_:Cat) (r:List Int) (h:QK a_ y_ c0_ c1_ c2_=some r):Contract Tryz.prog 91 [iV a_,iV y_,.rptr [.fn 89 [.rptr (Y1v c0_ []),.rptr (Y1r c0_ []),.rptr (Y1s c0_ [])]],.rptr (Y1t c1_ []),.rptr (Y1o c2_ [])] (lI r):=by
 refine Qc (rvs:=[.tmp 7]) (rs:=[lI r]) Tryz.func91 rfl rfl rfl rfl (by simp [Tryz.f91]) fun F hN hP=>?_;unfold QK at h;refine Q3 (runQ hN fun K hK=>?_);simp;repeat refine sdQ ?_
 refine hK _ ?_;clear hK K;refine tn (Q7 (st':=⟨YK a_ y_ c0_ c1_ c2_ [],[],0⟩) (Q1s []) (Q3 (runQ hN fun K hK=>?_)));simp;repeat refine sdQ ?_
 refine hK _ ?_;clear hK K;refine tn (Q7 (st':=⟨YK a_ y_ c0_ c1_ c2_ [(8,.own 0 0 0)],[(0,.mix 1 [])],1⟩) (Q1s [(0,0)]) (Q3 (runQ hN fun K hK=>?_)));replace ⟨a1,h⟩:=Q0 h;simp [at_I a1];repeat with_reducible refine sdQ ?_
 replace ⟨v2,hv2,h⟩:=bind_some h;refine Q6 (Q14 _ _ _ _ _ v2 hv2) (.cons .val (.cons .val (.cons .rptr (.cons .rptr (.cons .rptr .nil))))) ?_;simp [at_I a1];repeat refine sdQ ?_
 refine hK _ ?_;clear hK K;refine tn (Q7 (st':=⟨YK a_ y_ c0_ c1_ c2_ [(8,.own 0 0 0),(9,.own 1 0 v2.length)],[(0,.mix 1 []),(1,rI v2)],2⟩) (Q1s [(0,0),(1,1)]) (Q3 (Q3 (runQ hN fun K hK=>?_))));replace ⟨a3,h⟩:=Q0 h;simp [at_I a3];repeat with_reducible refine sdQ ?_
 replace ⟨v4,hv4,h⟩:=bind_some h;refine Q6 (Q14 _ _ _ _ _ v4 hv4) (.cons .val (.cons .val (.cons .rptr (.cons .rptr (.cons .rptr .nil))))) ?_;simp [at_I a3];repeat refine sdQ ?_
 refine hK _ (tn (Q7 (st':=⟨YU a_ c1_ c2_ ((8,.own 0 0 0)::Y0c v2 v4 [(36,iV 0)]),[(0,.mix 1 []),(1,rI v2),(2,rI v4)],3⟩) (Q1P 3) ?_));clear hK K;replace ⟨e5,h,h5⟩:=bind_some h;refine Qg (fun b5:List Int=>⟨[(8,.own 0 0 b5.length)],[(0,rI b5)],1⟩) (fun b5=>b5=e5) ?_ ?_
 ·refine Qa (Qn h (fun s13:List Int × Int=>⟨YU a_ c1_ c2_ ((8,.own 0 0 s13.1.length)::Y0c v2 v4 [(36,iV s13.2)]),[(0,rI s13.1),(1,rI v2),(2,rI v4)],3⟩) (Q1J ⟨YU a_ c1_ c2_ ((8,.own 0 0 0)::Y0c v2 v4 [(36,iV 0)]),[(0,rI []),(1,rI v2),(2,rI v4)],3⟩ (Wk.nils [] (by simp) (by simp) (by simp [nlA]) (by simp [entN,nlL,nlA,Cat.cells,Fn.cells,UA,U1,IA,I1,LA,L1,BA,B1,EA,E1,E2,eB,eI,eL]) (by simp)) (Q1P 3)) ?_);clear h;intro k13 s13 c13 h hk13;refine Q3 (runQ hN fun K hK=>?_);simp;repeat refine sdQ ?_
  refine hK _ ?_;clear hK K;refine tn (Q3 (Qd rfl (fun g=>?_) fun g=>?_))
  ·have g14:s13.2<(v4.length:Int):=gQ;clear g;replace h:=if_l g14 h;refine Qe (tn (Q3 (Qa (Q3 (runQ hN fun K hK=>?_)))));replace ⟨a15,h⟩:=Q0 h;simp [at_I a15];(repeat refine sdQ ?_);refine hK _ ?_;clear hK K;refine tn (Q7 (st':=⟨YU a_ c1_ c2_ [(8,.own 0 0 s13.1.length),(9,.own 1 0 v2.length),(11,iV (ix v4 s13.2)),(34,.own 2 0 v4.length),(35,iV (v4.length:Int)),(36,iV s13.2)],[(0,rI s13.1),(1,rI v2),(2,rI v4)],3⟩) (Q1P 3) (runQ hN fun K hK=>?_));replace ⟨a16,h⟩:=Q0 h;simp [at_I a16];(repeat with_reducible refine sdQ ?_);replace ⟨v17,hv17,h⟩:=bind_some h;refine Q6 (Q2c _ _ _ v17 hv17) (.cons (.preT (by simp [Cat.cells,Fn.cells])) (.cons .val (.cons .val .nil))) ?_;simp [at_I a16];(repeat with_reducible refine sdQ ?_);replace ⟨v18,hv18,h⟩:=bind_some h;refine Q6 (Q3L _ _ v18 hv18) (.cons .w (.cons .val .nil)) ?_;replace ⟨a19,h⟩:=Q0 h;(try simp only [List.length_append,List.length_cons,List.length_nil] at a19);simp [at_I a16,a19];(repeat refine sdQ ?_);refine hK _ ?_;clear hK K;refine bn (tn (Q7 (st':=⟨YU a_ c1_ c2_ ((8,.own 0 0 ((s13.1++[v18]).length))::Y0c v2 v4 [(36,iV s13.2)]),[(0,rI (s13.1++[v18])),(1,rI v2),(2,rI v4)],3⟩) (Q1s [(6,0),(1,1),(2,2)]) (runQ hN fun K hK=>?_)));replace ⟨a20,h⟩:=Q0 h;simp [Qh a20];(repeat refine sdQ ?_);refine hK _ ?_;clear hK K;cases h;exact rn (s':=(s13.1++[v18],s13.2+1)) hk13 (Q1P 3)
  have g14:¬ (s13.2<(v4.length:Int)):=gQ;clear g;replace h:=if_r g14 h;refine Qm (tx (lx (bh ?_)));cases h;exact jn (b:=s13.1) hk13 (Q1s [(0,0)])
 intro b5 hb5;have h:=h5;try rw [← hb5] at h
 clear h5;try dsimp only at h
 refine Q3 (runQ hN fun K hK=>?_);simp;repeat refine sdQ ?_
 refine hK _ (tn (Q7 (st':=⟨[(7,.own 0 0 b5.length)],[(0,rI b5)],1⟩) (Q1s [(0,0)]) (Qo ?_)));clear hK K;have hr:=Option.some.inj h;rw [← hr];refine ⟨_,(.tmp .nil),?_⟩;refine ⟨(.one rfl rfl .nil),[lI b5],[0],by simp [Cat.cells,Fn.cells,UA,U1,IA,I1,LA,L1,BA,B1,EA,E1,E2,eB,eI,eL],by simp,(UpL.refl _)⟩
attribute [local simp] unk unA unE unT unC flat eL eI Qr Q16 Q3k Cat.cells Fn.cells
noncomputable def QL (b_:Int) (x_:Int) (c0_:Cat × Fn × Fn) (c1_:Fn) (c2_:Cat):Option (List Int) :=
 ass (0≤b_∧b_<(c1_.s.to.length:Int)) <|
 (QF x_ (ix c1_.s.to b_) c0_.1 c0_.2.1 c0_.2.2).bind fun v2 =>
 ass (0≤b_∧b_<(c1_.s.fr.length:Int)) <|
 (QF x_ (ix c1_.s.fr b_) c0_.1 c0_.2.1 c0_.2.2).bind fun v4 =>
 (Qy (σ:=List Int × Int) (ε:=List Int) (fun s13 =>
  if s13.2<(v4.length:Int) then
   ass (0≤s13.2∧s13.2<(v4.length:Int)) <|
   ass (0≤b_∧b_<(c1_.ar.length:Int)) <|
   (QU c2_ (ix v4 s13.2) (ix c1_.ar b_)).bind fun v17 =>
   (Q1I v2 v17).bind fun v18 =>
   ass ((s13.1++[v18]).length≤1073741824) <|
   ass (B64 (s13.2+1)) <|
   some (Ctl.next (s13.1++[v18],s13.2+1))
  else
   some (Ctl.ret s13.1)) fuel ([],0)).bind fun b5 =>
 some b5
theorem Q2y (b_:Int) (x_:Int) (c0_:Cat × Fn × Fn) (c1_:Fn) (c2_:Cat) (r:List Int) (h:QL b_ x_ c0_ c1_ c2_=some r):Contract Tryz.prog 92 [iV b_,iV x_,.rptr [.fn 89 [.rptr (Y1v c0_ []),.rptr (Y1r c0_ []),.rptr (Y1s c0_ [])]],.rptr (Y1t c1_ []),.rptr (Y1o c2_ [])] (lI r):=by
 refine Qc (rvs:=[.tmp 7]) (rs:=[lI r]) Tryz.func92 rfl rfl rfl rfl (by simp [Tryz.f92]) fun F hN hP=>?_;unfold QL at h;refine Q3 (runQ hN fun K hK=>?_);simp;repeat refine sdQ ?_
 refine hK _ ?_;clear hK K;refine tn (Q7 (st':=⟨YK b_ x_ c0_ c1_ c2_ [],[],0⟩) (Q1s []) (Q3 (runQ hN fun K hK=>?_)));simp;repeat refine sdQ ?_
 refine hK _ ?_;clear hK K;refine tn (Q7 (st':=⟨YK b_ x_ c0_ c1_ c2_ [(8,.own 0 0 0)],[(0,.mix 1 [])],1⟩) (Q1s [(0,0)]) (Q3 (runQ hN fun K hK=>?_)));replace ⟨a1,h⟩:=Q0 h;simp [at_I a1];repeat with_reducible refine sdQ ?_
 replace ⟨v2,hv2,h⟩:=bind_some h;refine Q6 (Q14 _ _ _ _ _ v2 hv2) (.cons .val (.cons .val (.cons .rptr (.cons .rptr (.cons .rptr .nil))))) ?_;simp [at_I a1];repeat refine sdQ ?_
 refine hK _ ?_;clear hK K;refine tn (Q7 (st':=⟨YK b_ x_ c0_ c1_ c2_ [(8,.own 0 0 0),(9,.own 1 0 v2.length)],[(0,.mix 1 []),(1,rI v2)],2⟩) (Q1s [(0,0),(1,1)]) (Q3 (Q3 (runQ hN fun K hK=>?_))));replace ⟨a3,h⟩:=Q0 h;simp [at_I a3];repeat with_reducible refine sdQ ?_
 replace ⟨v4,hv4,h⟩:=bind_some h;refine Q6 (Q14 _ _ _ _ _ v4 hv4) (.cons .val (.cons .val (.cons .rptr (.cons .rptr (.cons .rptr .nil))))) ?_;simp [at_I a3];repeat refine sdQ ?_
 refine hK _ (tn (Q7 (st':=⟨YU b_ c1_ c2_ ((8,.own 0 0 0)::Y0c v2 v4 [(36,iV 0)]),[(0,.mix 1 []),(1,rI v2),(2,rI v4)],3⟩) (Q1P 3) ?_));clear hK K;replace ⟨e5,h,h5⟩:=bind_some h;refine Qg (fun b5:List Int=>⟨[(8,.own 0 0 b5.length)],[(0,rI b5)],1⟩) (fun b5=>b5=e5) ?_ ?_
 ·refine Qa (Qn h (fun s13:List Int × Int=>⟨YU b_ c1_ c2_ ((8,.own 0 0 s13.1.length)::Y0c v2 v4 [(36,iV s13.2)]),[(0,rI s13.1),(1,rI v2),(2,rI v4)],3⟩) (Q1J ⟨YU b_ c1_ c2_ ((8,.own 0 0 0)::Y0c v2 v4 [(36,iV 0)]),[(0,rI []),(1,rI v2),(2,rI v4)],3⟩ (Wk.nils [] (by simp) (by simp) (by simp [nlA]) (by simp [entN,nlL,nlA,Cat.cells,Fn.cells,UA,U1,IA,I1,LA,L1,BA,B1,EA,E1,E2,eB,eI,eL]) (by simp)) (Q1P 3)) ?_);clear h;intro k13 s13 c13 h hk13;refine Q3 (runQ hN fun K hK=>?_);simp;repeat refine sdQ ?_
  refine hK _ ?_;clear hK K;refine tn (Q3 (Qd rfl (fun g=>?_) fun g=>?_))
  ·have g14:s13.2<(v4.length:Int):=gQ;clear g;replace h:=if_l g14 h;refine Qe (tn (Q3 (Qa (Q3 (runQ hN fun K hK=>?_)))));replace ⟨a15,h⟩:=Q0 h;simp [at_I a15];(repeat refine sdQ ?_);refine hK _ ?_;clear hK K;refine tn (Q7 (st':=⟨YU b_ c1_ c2_ [(8,.own 0 0 s13.1.length),(9,.own 1 0 v2.length),(11,iV (ix v4 s13.2)),(34,.own 2 0 v4.length),(35,iV (v4.length:Int)),(36,iV s13.2)],[(0,rI s13.1),(1,rI v2),(2,rI v4)],3⟩) (Q1P 3) (runQ hN fun K hK=>?_));replace ⟨a16,h⟩:=Q0 h;simp [at_I a16];(repeat with_reducible refine sdQ ?_);replace ⟨v17,hv17,h⟩:=bind_some h;refine Q6 (Q2c _ _ _ v17 hv17) (.cons (.preT (by simp [Cat.cells,Fn.cells])) (.cons .val (.cons .val .nil))) ?_;simp [at_I a16];(repeat with_reducible refine sdQ ?_);replace ⟨v18,hv18,h⟩:=bind_some h;refine Q6 (Q3L _ _ v18 hv18) (.cons .w (.cons .val .nil)) ?_;replace ⟨a19,h⟩:=Q0 h;(try simp only [List.length_append,List.length_cons,List.length_nil] at a19);simp [at_I a16,a19];(repeat refine sdQ ?_);refine hK _ ?_;clear hK K;refine bn (tn (Q7 (st':=⟨YU b_ c1_ c2_ ((8,.own 0 0 ((s13.1++[v18]).length))::Y0c v2 v4 [(36,iV s13.2)]),[(0,rI (s13.1++[v18])),(1,rI v2),(2,rI v4)],3⟩) (Q1s [(6,0),(1,1),(2,2)]) (runQ hN fun K hK=>?_)));replace ⟨a20,h⟩:=Q0 h;simp [Qh a20];(repeat refine sdQ ?_);refine hK _ ?_;clear hK K;cases h;exact rn (s':=(s13.1++[v18],s13.2+1)) hk13 (Q1P 3)
  have g14:¬ (s13.2<(v4.length:Int)):=gQ;clear g;replace h:=if_r g14 h;refine Qm (tx (lx (bh ?_)));cases h;exact jn (b:=s13.1) hk13 (Q1s [(0,0)])
 intro b5 hb5;have h:=h5;try rw [← hb5] at h
 clear h5;try dsimp only at h
 refine Q3 (runQ hN fun K hK=>?_);simp;repeat refine sdQ ?_
 refine hK _ (tn (Q7 (st':=⟨[(7,.own 0 0 b5.length)],[(0,rI b5)],1⟩) (Q1s [(0,0)]) (Qo ?_)));clear hK K;have hr:=Option.some.inj h;rw [← hr];refine ⟨_,(.tmp .nil),?_⟩;refine ⟨(.one rfl rfl .nil),[lI b5],[0],by simp [Cat.cells,Fn.cells,UA,U1,IA,I1,LA,L1,BA,B1,EA,E1,E2,eB,eI,eL],by simp,(UpL.refl _)⟩
attribute [local simp] unk unA unE unT unC flat eL eI Qr Q16 Q3k Q1g Cat.cells Fn.cells Prf.cells
noncomputable def Qf (c_:Cat) (d_:Cat) (size_0:Cat × Fn × Fn) (before_0:Cat × Fn × Fn) (before_1:Fn) (before_2:Cat) (behind_0:Cat × Fn × Fn) (behind_1:Fn) (behind_2:Cat):Option (Prf × Bool) :=
 (QP c_).bind fun v1 =>
 (QP d_).bind fun v2 =>
 (Qy (σ:=List (List Int) × Int) (ε:=(List (List Int)) ⊕ (Prf × Bool)) (fun s24 =>
  if s24.2<c_.n then
   ass ((0:Int)≤0∧0≤d_.n∧d_.n≤1073741824) <|
   (Qy (σ:=List Int × Int) (ε:=(List Int) ⊕ (Prf × Bool)) (fun s35 =>
    if s35.2<d_.n then
     ass (0≤s35.2∧s35.2≤(s35.1.length:Int)) <|
     (Q15 s24.2 s35.2 size_0).bind fun v38 =>
     ass (((s35.1.take s35.2.toNat)++[v38]).length≤1073741824) <|
     ass (0≤s35.2∧s35.2<(((s35.1.take s35.2.toNat)++[v38]).length:Int)) <|
     if (ix ((s35.1.take s35.2.toNat)++[v38]) s35.2) > 64 then
      some (Ctl.ret (Sum.inr ((⟨(⟨0,[],[],[],[]⟩:Cat),(⟨0,[],[],[],[]⟩:Cat),[],[],[]⟩:Prf),false)))
     else
      ass (B64 (s35.2+1)) <|
      some (Ctl.next ((s35.1.take s35.2.toNat)++[v38],s35.2+1))
    else
     some (Ctl.ret (Sum.inl s35.1))) fuel (List.replicate 0 0,0)).bind fun e27 =>
   match e27 with
   | .inl b27 =>
    ass ((s24.1++[b27]).length≤1073741824) <|
    ass (B64 (s24.2+1)) <|
    some (Ctl.next (s24.1++[b27],s24.2+1))
   | .inr p27 =>
    some (Ctl.ret (Sum.inr p27))
  else
   some (Ctl.ret (Sum.inl s24.1))) fuel ([],0)).bind fun e3 =>
 match e3 with
 | .inl b3 =>
  (Qy (σ:=List (List (List Int)) × Int) (ε:=List (List (List Int))) (fun s59 =>
   if s59.2<(c_.fr.length:Int) then
    (Qy (σ:=List (List Int) × Int) (ε:=List (List Int)) (fun s66 =>
     if s66.2<d_.n then
      (QK s59.2 s66.2 before_0 before_1 before_2).bind fun v68 =>
      ass ((s66.1++[v68]).length≤1073741824) <|
      ass (B64 (s66.2+1)) <|
      some (Ctl.next (s66.1++[v68],s66.2+1))
     else
      some (Ctl.ret s66.1)) fuel ([],0)).bind fun b61 =>
    ass ((s59.1++[b61]).length≤1073741824) <|
    ass (B64 (s59.2+1)) <|
    some (Ctl.next (s59.1++[b61],s59.2+1))
   else
    some (Ctl.ret s59.1)) fuel ([],0)).bind fun b45 =>
  (Qy (σ:=List (List (List Int)) × Int) (ε:=List (List (List Int))) (fun s87 =>
   if s87.2<(d_.fr.length:Int) then
    (Qy (σ:=List (List Int) × Int) (ε:=List (List Int)) (fun s94 =>
     if s94.2<c_.n then
      (QL s87.2 s94.2 behind_0 behind_1 behind_2).bind fun v96 =>
      ass ((s94.1++[v96]).length≤1073741824) <|
      ass (B64 (s94.2+1)) <|
      some (Ctl.next (s94.1++[v96],s94.2+1))
     else
      some (Ctl.ret s94.1)) fuel ([],0)).bind fun b89 =>
    ass ((s87.1++[b89]).length≤1073741824) <|
    ass (B64 (s87.2+1)) <|
    some (Ctl.next (s87.1++[b89],s87.2+1))
   else
    some (Ctl.ret s87.1)) fuel ([],0)).bind fun b73 =>
  some ((⟨v1,v2,b3,b45,b73⟩:Prf),true)
 | .inr p3 =>
  some p3
@[simp] abbrev Y7 (a b:Cat) (c:List (Nat × Ent)):List (Nat × Ent):=(2,rI a.fr)::(3,rI a.to)::(4,rI a.id)::(5,.row 1 (Ls a.cs))::(6,rI b.fr)::(7,rI b.to)::(8,rI b.id)::(9,.row 1 (Ls b.cs))::c
@[simp] abbrev Y8 (a:Cat × Fn × Fn) (b:Fn) (c:Cat) (d:Cat × Fn × Fn) (e:Fn) (f:Cat) (g:List (Nat × AV)):List (Nat × AV):=(3,.fn 91 [.rptr [.fn 89 [.rptr (Y1v a []),.rptr (Y1r a []),.rptr (Y1s a [])]],.rptr (Y1t b []),.rptr (Y1o c [])])::(4,.fn 92 [.rptr [.fn 89 [.rptr (Y1v d []),.rptr (Y1r d []),.rptr (Y1s d [])]],.rptr (Y1t e []),.rptr (Y1o f [])])::(10,.adr 0 0 0)::g
@[simp] abbrev Y1f (a b:Cat) (c:List (AV)):List (AV):=iV a.n::.own 2 0 a.fr.length::.own 3 0 a.to.length::.own 4 0 a.id.length::.own 5 0 a.cs.length::iV b.n::.own 6 0 b.fr.length::.own 7 0 b.to.length::.own 8 0 b.id.length::.own 9 0 b.cs.length::c
@[simp] abbrev Yf (a b:Cat) (c:List (List Int)) (d:List (List (List Int))) (e:List (List (List Int)) × Int) (f:List (Nat × Ent)):List (Nat × Ent):=(0,.mix 13 [(Y1i [nS])])::(1,.mix 13 [(Y1f a b [.own 10 0 c.length,.own 11 0 d.length,.own 12 0 e.1.length])])::f
@[simp] abbrev Yg (a b:Cat) (c:List (List Int)) (d:List (List (List Int)) × Int) (e:List (Nat × Ent)):List (Nat × Ent):=(0,.mix 13 [(Y1i [nS])])::(1,.mix 13 [(Y1f a b [.own 10 0 c.length,.own 11 0 d.1.length,nS])])::e
@[simp] abbrev Yi (a b:Cat) (c:List (List Int) × Int) (d:List (Nat × Ent)):List (Nat × Ent):=(0,.mix 13 [(Y1i [nS])])::(1,.mix 13 [(Y1f a b [.own 10 0 c.1.length,nS,nS])])::d
@[simp] abbrev Yo (a:Cat) (b:Cat × Fn × Fn) (c:Fn) (d:Cat) (e:List (Nat × AV)):List (Nat × AV):=(0,.rptr (Cat.cells true a))::(4,.fn 92 [.rptr [.fn 89 [.rptr (Y1v b []),.rptr (Y1r b []),.rptr (Y1s b [])]],.rptr (Y1t c []),.rptr (Y1o d [])])::(10,.adr 0 0 0)::(12,.adr 1 0 0)::e
@[simp] abbrev Yr (a b:Cat) (c:Cat × Fn × Fn) (d:List (Nat × AV)):List (Nat × AV):=(0,.rptr (Cat.cells true a))::(1,.rptr (Cat.cells true b))::(2,.fn 90 [.rptr [.fn 89 [.rptr (Y1v c []),.rptr (Y1r c []),.rptr (Y1s c [])]]])::d
@[simp] abbrev Ys (a:List (Nat × Ent)):List (Nat × Ent):=(0,.mix 13 [(Y1i [nS])])::a
@[simp] abbrev YM (a b:Cat) (c:List (List Int)) (d e:List (List (List Int))) (f:List (Nat × Ent)):List (Nat × Ent):=(0,.mix 13 [(Y1u a (Y1k b [.own 9 0 c.length,.own 10 0 d.length,.own 11 0 e.length]))])::(1,rI a.fr)::(2,rI a.to)::(3,rI a.id)::(4,.row 1 (Ls a.cs))::(5,rI b.fr)::(6,rI b.to)::(7,rI b.id)::(8,.row 1 (Ls b.cs))::(9,.row 1 (Ls c))::(10,.row 1 (Es eL d))::(11,.row 1 (Es eL e))::f
@[simp] abbrev YO (a:List (List Int)) (b:List (List (List Int))) (c:List (Nat × Ent)):List (Nat × Ent):=(10,.row 1 (Ls a))::(11,.row 1 (Es eL b))::c
@[simp] abbrev YP (a b:Cat) (c:List (List Int)) (d:List (List (List Int))) (e:List (Nat × Ent)):List (Nat × Ent):=(1,.mix 13 [(Y1f a b [.own 10 0 c.length,.own 11 0 d.length,nS])])::e
@[simp] abbrev YQ (a b:Cat) (c:List (List Int)) (d:List (Nat × Ent)):List (Nat × Ent):=(1,.mix 13 [(Y1f a b [.own 10 0 c.length,nS,nS])])::d
@[simp] abbrev YR (a b:Cat) (c:List (Nat × Ent)):List (Nat × Ent):=(1,.mix 13 [(Y1f a b [nS,nS,nS])])::c
@[simp] abbrev Y08 (a:Cat) (b:List (List (List Int)) × Int) (c:List (Nat × AV)):List (Nat × AV):=(105,iV (a.fr.length:Int))::(106,iV b.2)::c
@[simp] abbrev Y0a (a b:Cat) (c:List (List Int)) (d e:List (List (List Int))) (f:List (Nat × Ent)):List (Nat × Ent):=(1,.mix 13 [(Y1f a b [.own 10 0 c.length,.own 11 0 d.length,.own 12 0 e.length])])::f
@[simp] abbrev Y0b (a:List (List Int)) (b:List (List (List Int)) × Int) (c:List (Nat × Ent)):List (Nat × Ent):=(10,.row 1 (Ls a))::(11,.row 1 (Es eL b.1))::c
@[simp] abbrev Y0d (a:Cat) (b:List (List (List Int)) × Int) (c:List (Nat × AV)):List (Nat × AV):=(74,iV (a.fr.length:Int))::(75,iV b.2)::c
@[simp] abbrev Y0k (a:List (Nat × AV)):List (Nat × AV):=(12,.adr 1 0 0)::a
@[simp] abbrev Y0E (a b:Cat) (c:List (Nat × Ent)):List (Nat × Ent):=(1,.mix 13 [(Y1f a b [.own 10 0 0,nS,nS])])::c
@[simp] abbrev Y0G (a b:Cat) (c:List (List Int)) (d:List (Nat × Ent)):List (Nat × Ent):=(1,.mix 13 [(Y1f a b [.own 10 0 c.length,.own 11 0 0,nS])])::d
@[simp] abbrev Y0K (a b:Cat) (c:List (List Int)) (d:List (List (List Int))) (e:List (Nat × Ent)):List (Nat × Ent):=(1,.mix 13 [(Y1f a b [.own 10 0 c.length,.own 11 0 d.length,.own 12 0 0])])::e
@[simp] abbrev Y0P (a b:Cat) (c:List (List Int) × Int) (d:List Int) (e:List (Nat × Ent)):List (Nat × Ent):=(1,.mix 13 [(Y1f a b [.own 10 0 ((c.1++[d]).length),nS,nS])])::e
@[simp] abbrev Y0R (a b:Cat) (c:List (List Int)) (d:List (List (List Int)) × Int) (e:List (List Int)) (f:List (Nat × Ent)):List (Nat × Ent):=(1,.mix 13 [(Y1f a b [.own 10 0 c.length,.own 11 0 ((d.1++[e]).length),nS])])::f
@[simp] abbrev Y0V (a:List (List (List Int)) × Int) (b:List (Nat × Ent)):List (Nat × Ent):=(12,.row 1 (Es eL a.1))::b
@[simp] abbrev Y10 (a b:Cat) (c:List (List Int)) (d:List (List (List Int))) (e:List (List (List Int)) × Int) (f:List (List Int)) (g:List (Nat × Ent)):List (Nat × Ent):=(1,.mix 13 [(Y1f a b [.own 10 0 c.length,.own 11 0 d.length,.own 12 0 ((e.1++[f]).length)])])::g
@[simp] abbrev Y15 (a:List (Nat × AV)):List (Nat × AV):=(14,.own 11 0 ((List.replicate 0 0).length))::a
theorem QD (c_:Cat) (d_:Cat) (size_0:Cat × Fn × Fn) (before_0:Cat × Fn × Fn) (before_1:Fn) (before_2:Cat) (behind_0:Cat × Fn × Fn) (behind_1:Fn) (behind_2:Cat) (r:Prf × Bool) (h:Qf c_ d_ size_0 before_0 before_1 before_2 behind_0 behind_1 behind_2=some r):Contract Tryz.prog 67 [.rptr (c_.cells true),.rptr (d_.cells true),.fn 90 [.rptr [.fn 89 [.rptr (Y1v size_0 []),.rptr (Y1r size_0 []),.rptr (Y1s size_0 [])]]],.fn 91 [.rptr [.fn 89 [.rptr (Y1v before_0 []),.rptr (Y1r before_0 []),.rptr (Y1s before_0 [])]],.rptr (Y1t before_1 []),.rptr (Y1o before_2 [])],.fn 92 [.rptr [.fn 89 [.rptr (Y1v behind_0 []),.rptr (Y1r behind_0 []),.rptr (Y1s behind_0 [])]],.rptr (Y1t behind_1 []),.rptr (Y1o behind_2 [])]] (.tup [.agg (r.1.cells true),.val (.bool r.2)]):=by
 refine Qc (rvs:=[.cell 10 45,.tmp 11]) (rs:=[.agg (r.1.cells true),.val (.bool r.2)]) Tryz.func67 rfl rfl rfl rfl (by simp [Tryz.f67]) fun F hN hP=>?_;unfold Qf at h;refine Q3 (runQ hN fun K hK=>?_);simp;repeat refine sdQ ?_
 refine hK _ ?_;clear hK K;refine tn (Q7 (st':=⟨Yr c_ d_ size_0 (Y8 before_0 before_1 before_2 behind_0 behind_1 behind_2 []),Ys [],1⟩) (Q1s [(0,0)]) (Q3 (runQ hN fun K hK=>?_)));simp;repeat with_reducible refine sdQ ?_
 replace ⟨v1,hv1,h⟩:=bind_some h;refine Q6 (Q1o _ v1 hv1) (.cons (.preT (by simp [Cat.cells,Fn.cells])) .nil) ?_;simp;repeat with_reducible refine sdQ ?_
 replace ⟨v2,hv2,h⟩:=bind_some h;refine Q6 (Q1o _ v2 hv2) (.cons (.preT (by simp [Cat.cells,Fn.cells])) .nil) ?_;simp;repeat refine sdQ ?_
 refine hK _ ?_;clear hK K;refine tn (Q7 (st':=⟨Yr c_ d_ size_0 (Y8 before_0 before_1 before_2 behind_0 behind_1 behind_2 (Y0k [])),Ys (YR v1 v2 (Y7 v1 v2 [])),10⟩) (Q1s [(0,0),(11,1),(2,2),(3,3),(4,4),(5,5),(7,6),(8,7),(9,8),(10,9)]) (Q3 (Q3 (runQ hN fun K hK=>?_))));simp;repeat refine sdQ ?_
 refine hK _ (tn (Q7 (st':=⟨Yr c_ d_ size_0 (Y8 before_0 before_1 before_2 behind_0 behind_1 behind_2 (Y0k [(13,iV 0)])),Ys (YR v1 v2 (Y7 v1 v2 [])),10⟩) (Q1P 10) ?_));clear hK K;replace ⟨e3,h,h3⟩:=bind_some h;refine Qg (fun b3:List (List Int)=>⟨YD c_ d_ (Y8 before_0 before_1 before_2 behind_0 behind_1 behind_2 (Y0k [])),Ys (YQ v1 v2 b3 (Y7 v1 v2 [(10,.row 1 (Ls b3))])),11⟩) (fun b3=>Sum.inl b3=e3) ?_ ?_
 ·refine Qa (Qn h (fun s24:List (List Int) × Int=>⟨Yr c_ d_ size_0 (Y8 before_0 before_1 before_2 behind_0 behind_1 behind_2 (Y0k [(13,iV s24.2)])),Yi v1 v2 s24 (Y7 v1 v2 [(10,.row 1 (Ls s24.1))]),11⟩) (Q1J ⟨Yr c_ d_ size_0 (Y8 before_0 before_1 before_2 behind_0 behind_1 behind_2 (Y0k [(13,iV 0)])),Ys (Y0E v1 v2 (Y7 v1 v2 [(10,.row 1 (Ls []))])),11⟩ (Wk.nils [(10,1)] (by simp) (by simp) (by simp [nlA]) (by simp [entN,nlL,nlA,Cat.cells,Fn.cells,Prf.cells,UA,U1,IA,I1,LA,L1,BA,B1,EA,E1,E2,eB,eI,eL]) (by simp)) (Q1P 11)) ?_);clear h;intro k24 s24 c24 h hk24;refine Q3 (Q3 (runQ hN fun K hK=>?_));simp;repeat refine sdQ ?_
  refine hK _ ?_;clear hK K;refine tn (Qd rfl (fun g=>?_) fun g=>?_)
  ·have g25:s24.2<c_.n:=gQ;clear g;replace h:=if_l g25 h;refine Qe (tn (Q3 (Qa (Q3 (runQ hN fun K hK=>?_)))));replace ⟨a26,h⟩:=Q0 h;simp;(repeat refine sdQ ?_);refine hK _ ?_;clear hK K;refine tn (Q7 (st':=⟨Yr c_ d_ size_0 (Y8 before_0 before_1 before_2 behind_0 behind_1 behind_2 (Y0k ((13,iV s24.2)::Y15 []))),Yi v1 v2 s24 (Y7 v1 v2 [(10,.row 1 (Ls s24.1)),(11,rI (List.replicate 0 0))]),12⟩) (Q1P 12) (Q3 (Q3 (runQ hN fun K hK=>?_))));simp;(repeat refine sdQ ?_);refine hK _ (tn (Q7 (st':=⟨Yr c_ d_ size_0 (Y8 before_0 before_1 before_2 behind_0 behind_1 behind_2 (Y0k ((13,iV s24.2)::Y15 [(15,iV 0)]))),Yi v1 v2 s24 (Y7 v1 v2 [(10,.row 1 (Ls s24.1)),(11,rI (List.replicate 0 0))]),12⟩) (Q1P 12) ?_));clear hK K
   replace ⟨e27,h,h27⟩:=bind_some h;refine Qg (fun b27:List Int=>⟨Yr c_ d_ size_0 (Y8 before_0 before_1 before_2 behind_0 behind_1 behind_2 (Y0k [(13,iV s24.2),(14,.own 11 0 b27.length)])),Yi v1 v2 s24 (Y7 v1 v2 [(10,.row 1 (Ls s24.1)),(11,rI b27)]),12⟩) (fun b27=>Sum.inl b27=e27) ?_ ?_
   ·refine Qa (Qn h (fun s35:List Int × Int=>⟨Yr c_ d_ size_0 (Y8 before_0 before_1 before_2 behind_0 behind_1 behind_2 (Y0k [(13,iV s24.2),(14,.own 11 0 s35.1.length),(15,iV s35.2)])),Yi v1 v2 s24 (Y7 v1 v2 [(10,.row 1 (Ls s24.1)),(11,rI s35.1)]),12⟩) (Q1P 12) ?_);clear h;intro k35 s35 c35 h hk35;refine Q3 (Q3 (runQ hN fun K hK=>?_));simp;(repeat refine sdQ ?_);refine hK _ ?_;clear hK K;refine tn (Qd rfl (fun g=>?_) fun g=>?_)
    ·have g36:s35.2<d_.n:=gQ;clear g;replace h:=if_l g36 h;refine Qe (tn (Q3 (Qa (Q3 (QG [] mo (by rw [hN];decide) fun K hK=>?_)))));replace ⟨a37,h⟩:=Q0 h;simp [a37];(repeat with_reducible refine sdQ ?_);replace ⟨v38,hv38,h⟩:=bind_some h;refine Q1G (fz:=[]) (Q3h _ _ _ v38 hv38) (.cons .val (.cons .val (.cons .rptr .nil))) ?_;replace ⟨a39,h⟩:=Q0 h;(try simp only [List.length_append,List.length_cons,List.length_nil] at a39);simp [a39];(repeat refine sdQ ?_);refine hK _ ?_;clear hK K;refine tn (Q7 (st':=⟨Yr c_ d_ size_0 (Y8 before_0 before_1 before_2 behind_0 behind_1 behind_2 (Y0k [(13,iV s24.2),(14,.own 11 0 (((s35.1.take s35.2.toNat)++[v38]).length)),(15,iV s35.2)])),Yi v1 v2 s24 (Y7 v1 v2 [(10,.row 1 (Ls s24.1)),(11,rI ((s35.1.take s35.2.toNat)++[v38]))]),12⟩) (Q1s [(0,0),(1,1),(2,2),(3,3),(4,4),(5,5),(6,6),(7,7),(8,8),(9,9),(10,10),(14,11)]) (Q3 (runQ hN fun K hK=>?_)));replace ⟨a40,h⟩:=Q0 h;simp [at_I a40];(repeat refine sdQ ?_);refine hK _ ?_;clear hK K;refine tn (Qd rfl (fun g=>?_) fun g=>?_)
     ·have g41:(ix ((s35.1.take s35.2.toNat)++[v38]) s35.2) > 64:=gQ;clear g;replace h:=if_l g41 h;refine Q3 (runQ hN fun K hK=>?_);simp;(repeat refine sdQ ?_);refine hK _ (tn (Q7 (st':=⟨[(10,.adr 0 0 0),(11,.val (.bool false))],Ys [],1⟩) (Q1s [(0,0)]) (Qo (br (tr (lr (br (tr (br (tr (lr (br (tr ?_)))))))))))));clear hK K;cases h;have q:_=e27:=hk35;have h:=h27;rw [← q] at h;clear q;(try dsimp only at h);cases h;have q:_=e3:=hk24;have h:=h3;rw [← q] at h;clear q;(try dsimp only at h);have hr:=Option.some.inj h;rw [← hr];refine ⟨_,(.cell Q8k rfl rfl rfl (by simp) (by simp) (.tmp .nil)),?_⟩;refine ⟨(.agg rfl (.one rfl rfl .nil)),[iV 0,nS,nS,nS,nS,iV 0,nS,nS,nS,nS,nS,nS,nS,.val (.bool false)],[],by simp [Cat.cells,Fn.cells,Prf.cells,UA,U1,IA,I1,LA,L1,BA,B1,EA,E1,E2,eB,eI,eL],by simp,(.cons .refl (.cons .nil (.cons .nil (.cons .nil (.cons .nil (.cons .refl (.cons .nil (.cons .nil (.cons .nil (.cons .nil (.cons .nil (.cons .nil (.cons .nil (.cons .refl .nil))))))))))))))⟩
     have g41:¬ ((ix ((s35.1.take s35.2.toNat)++[v38]) s35.2) > 64):=gQ;clear g;replace h:=if_r g41 h;refine Qe (bn (tn (runQ hN fun K hK=>?_)));replace ⟨a42,h⟩:=Q0 h;simp [Qh a42];(repeat refine sdQ ?_);refine hK _ ?_;clear hK K;cases h;exact rn (s':=((s35.1.take s35.2.toNat)++[v38],s35.2+1)) hk35 (Q1P 12)
    have g36:¬ (s35.2<d_.n):=gQ;clear g;replace h:=if_r g36 h;refine Qm (tx (lx (bh ?_)));cases h;exact jn (b:=s35.1) hk35 (Q1P 12)
   intro b27 hb27;have h:=h27;(try rw [← hb27] at h);clear h27;(try dsimp only at h);refine runQ hN fun K hK=>?_;replace ⟨a43,h⟩:=Q0 h;(try simp only [List.length_append,List.length_cons,List.length_nil] at a43);simp [a43];(repeat refine sdQ ?_);refine hK _ ?_;clear hK K;refine bn (tn (Q7 (st':=⟨Yr c_ d_ size_0 (Y8 before_0 before_1 before_2 behind_0 behind_1 behind_2 (Y0k [(13,iV s24.2)])),Ys (Y0P v1 v2 s24 b27 (Y7 v1 v2 [(10,.row 1 (Ls (s24.1++[b27])))])),11⟩) (Q1s [(0,0),(1,1),(2,2),(3,3),(4,4),(5,5),(6,6),(7,7),(8,8),(9,9),(13,10)]) (runQ hN fun K hK=>?_)));replace ⟨a44,h⟩:=Q0 h;simp [Qh a44];(repeat refine sdQ ?_);refine hK _ ?_;clear hK K;cases h;exact rn (s':=(s24.1++[b27],s24.2+1)) hk24 (Q1P 11)
  have g25:¬ (s24.2<c_.n):=gQ;clear g;replace h:=if_r g25 h;refine Qm (tx (lx (bh ?_)));cases h;exact jn (b:=s24.1) hk24 (Q1P 11)
 intro b3 hb3;have h:=h3;try rw [← hb3] at h
 clear h3;try dsimp only at h
 refine Q3 (Q3 (runQ hN fun K hK=>?_));simp;repeat refine sdQ ?_
 refine hK _ (tn (Q7 (st':=⟨YD c_ d_ (Y8 before_0 before_1 before_2 behind_0 behind_1 behind_2 (Y0k [(74,iV (c_.fr.length:Int)),(75,iV 0)])),Ys (YQ v1 v2 b3 (Y7 v1 v2 [(10,.row 1 (Ls b3))])),11⟩) (Q1P 11) ?_));clear hK K;replace ⟨e45,h,h45⟩:=bind_some h;refine Qg (fun b45:List (List (List Int))=>⟨YD c_ d_ ((4,.fn 92 [.rptr [.fn 89 [.rptr (Y1v behind_0 []),.rptr (Y1r behind_0 []),.rptr (Y1s behind_0 [])]],.rptr (Y1t behind_1 []),.rptr (Y1o behind_2 [])])::(10,.adr 0 0 0)::Y0k []),Ys (YP v1 v2 b3 b45 (Y7 v1 v2 (YO b3 b45 []))),12⟩) (fun b45=>b45=e45) ?_ ?_
 ·refine Qa (Qn h (fun s59:List (List (List Int)) × Int=>⟨YD c_ d_ (Y8 before_0 before_1 before_2 behind_0 behind_1 behind_2 (Y0k (Y0d c_ s59 []))),Yg v1 v2 b3 s59 (Y7 v1 v2 (Y0b b3 s59 [])),12⟩) (Q1J ⟨YD c_ d_ (Y8 before_0 before_1 before_2 behind_0 behind_1 behind_2 (Y0k [(74,iV (c_.fr.length:Int)),(75,iV 0)])),Ys (Y0G v1 v2 b3 (Y7 v1 v2 [(10,.row 1 (Ls b3)),(11,.row 1 (Es eL []))])),12⟩ (Wk.nils [(11,1)] (by simp) (by simp) (by simp [nlA]) (by simp [entN,nlL,nlA,Cat.cells,Fn.cells,Prf.cells,UA,U1,IA,I1,LA,L1,BA,B1,EA,E1,E2,eB,eI,eL]) (by simp)) (Q1P 12)) ?_);clear h;intro k59 s59 c59 h hk59;refine Q3 (runQ hN fun K hK=>?_);simp;repeat refine sdQ ?_
  refine hK _ ?_;clear hK K;refine tn (Q3 (Qd rfl (fun g=>?_) fun g=>?_))
  ·have g60:s59.2<(c_.fr.length:Int):=gQ;clear g;replace h:=if_l g60 h;refine Qe (tn (Q3 (Qa (Q3 (runQ hN fun K hK=>?_)))));simp;(repeat refine sdQ ?_);refine hK _ ?_;clear hK K;refine tn (Q7 (st':=⟨YD c_ d_ (Y8 before_0 before_1 before_2 behind_0 behind_1 behind_2 (Y0k ((16,iV s59.2)::Y0d c_ s59 []))),Yg v1 v2 b3 s59 (Y7 v1 v2 (Y0b b3 s59 [])),12⟩) (Q1P 12) (Q3 (runQ hN fun K hK=>?_)));simp;(repeat refine sdQ ?_);refine hK _ ?_;clear hK K;refine tn (Q7 (st':=⟨YD c_ d_ (Y8 before_0 before_1 before_2 behind_0 behind_1 behind_2 (Y0k ((16,iV s59.2)::(17,.own 12 0 0)::Y0d c_ s59 []))),Yg v1 v2 b3 s59 (Y7 v1 v2 (Y0b b3 s59 [(12,.mix 1 [])])),13⟩) (Q1P 13) (Q3 (Q3 (runQ hN fun K hK=>?_))));simp;(repeat refine sdQ ?_);refine hK _ (tn ?_);clear hK K
   refine Q7 (st':=⟨YD c_ d_ (Y8 before_0 before_1 before_2 behind_0 behind_1 behind_2 (Y0k ((16,iV s59.2)::(17,.own 12 0 0)::(18,iV 0)::Y0d c_ s59 []))),Yg v1 v2 b3 s59 (Y7 v1 v2 (Y0b b3 s59 [(12,.mix 1 [])])),13⟩) (Q1P 13) ?_;replace ⟨e61,h,h61⟩:=bind_some h;refine Qg (fun b61:List (List Int)=>⟨YD c_ d_ (Y8 before_0 before_1 before_2 behind_0 behind_1 behind_2 (Y0k ((17,.own 12 0 b61.length)::Y0d c_ s59 []))),Yg v1 v2 b3 s59 (Y7 v1 v2 (Y0b b3 s59 [(12,.row 1 (Ls b61))])),13⟩) (fun b61=>b61=e61) ?_ ?_
   ·refine Qa (Qn h (fun s66:List (List Int) × Int=>⟨YD c_ d_ (Y8 before_0 before_1 before_2 behind_0 behind_1 behind_2 (Y0k ((16,iV s59.2)::(17,.own 12 0 s66.1.length)::(18,iV s66.2)::Y0d c_ s59 []))),Yg v1 v2 b3 s59 (Y7 v1 v2 (Y0b b3 s59 [(12,.row 1 (Ls s66.1))])),13⟩) (Q1J ⟨YD c_ d_ (Y8 before_0 before_1 before_2 behind_0 behind_1 behind_2 (Y0k ((16,iV s59.2)::(17,.own 12 0 0)::(18,iV 0)::Y0d c_ s59 []))),Yg v1 v2 b3 s59 (Y7 v1 v2 (Y0b b3 s59 [(12,.row 1 (Ls []))])),13⟩ (Wk.nils [] (by simp) (by simp) (by simp [nlA]) (by simp [entN,nlL,nlA,Cat.cells,Fn.cells,Prf.cells,UA,U1,IA,I1,LA,L1,BA,B1,EA,E1,E2,eB,eI,eL]) (by simp)) (Q1P 13)) ?_);clear h;intro k66 s66 c66 h hk66;refine Q3 (Q3 (runQ hN fun K hK=>?_));simp;(repeat refine sdQ ?_);refine hK _ ?_;clear hK K;refine tn (Qd rfl (fun g=>?_) fun g=>?_)
    ·have g67:s66.2<d_.n:=gQ;clear g;replace h:=if_l g67 h;refine Qe (tn (Q3 (Qa (runQ hN fun K hK=>?_))));simp;(repeat with_reducible refine sdQ ?_);replace ⟨v68,hv68,h⟩:=bind_some h;refine Q6 (Q2x _ _ _ _ _ v68 hv68) (.cons .val (.cons .val (.cons .rptr (.cons .rptr (.cons .rptr .nil))))) ?_;replace ⟨a69,h⟩:=Q0 h;(try simp only [List.length_append,List.length_cons,List.length_nil] at a69);simp [a69];(repeat refine sdQ ?_);refine hK _ ?_;clear hK K;refine bn (tn (Q7 (st':=⟨YD c_ d_ (Y8 before_0 before_1 before_2 behind_0 behind_1 behind_2 (Y0k ((16,iV s59.2)::(17,.own 12 0 ((s66.1++[v68]).length))::(18,iV s66.2)::Y0d c_ s59 []))),Yg v1 v2 b3 s59 (Y7 v1 v2 (Y0b b3 s59 [(12,.row 1 (Ls (s66.1++[v68])))])),13⟩) (Q1s [(0,0),(1,1),(2,2),(3,3),(4,4),(5,5),(6,6),(7,7),(8,8),(9,9),(10,10),(11,11),(15,12)]) (runQ hN fun K hK=>?_)));replace ⟨a70,h⟩:=Q0 h;simp [Qh a70];(repeat refine sdQ ?_);refine hK _ ?_;clear hK K;cases h;exact rn (s':=(s66.1++[v68],s66.2+1)) hk66 (Q1P 13)
    have g67:¬ (s66.2<d_.n):=gQ;clear g;replace h:=if_r g67 h;refine Qm (tx (lx (bh ?_)));cases h;exact jn (b:=s66.1) hk66 (Q1P 13)
   intro b61 hb61;have h:=h61;(try rw [← hb61] at h);clear h61;(try dsimp only at h);refine runQ hN fun K hK=>?_;replace ⟨a71,h⟩:=Q0 h;(try simp only [List.length_append,List.length_cons,List.length_nil] at a71);simp [a71];(repeat refine sdQ ?_);refine hK _ ?_;clear hK K;refine bn (tn (Q7 (st':=⟨YD c_ d_ (Y8 before_0 before_1 before_2 behind_0 behind_1 behind_2 (Y0k (Y0d c_ s59 []))),Ys (Y0R v1 v2 b3 s59 b61 (Y7 v1 v2 [(10,.row 1 (Ls b3)),(11,.row 1 (Es eL (s59.1++[b61])))])),12⟩) (Q1s [(0,0),(1,1),(2,2),(3,3),(4,4),(5,5),(6,6),(7,7),(8,8),(9,9),(10,10),(14,11)]) (runQ hN fun K hK=>?_)));replace ⟨a72,h⟩:=Q0 h;simp [Qh a72];(repeat refine sdQ ?_);refine hK _ ?_;clear hK K;cases h;exact rn (s':=(s59.1++[b61],s59.2+1)) hk59 (Q1P 12)
  have g60:¬ (s59.2<(c_.fr.length:Int)):=gQ;clear g;replace h:=if_r g60 h;refine Qm (tx (lx (bh ?_)));cases h;exact jn (b:=s59.1) hk59 (Q1P 12)
 intro b45 hb45;have h:=h45;try rw [← hb45] at h
 clear h45;try dsimp only at h
 refine Q3 (Q3 (runQ hN fun K hK=>?_));simp;repeat refine sdQ ?_
 refine hK _ (tn (Q7 (st':=⟨Yo c_ behind_0 behind_1 behind_2 [(105,iV (d_.fr.length:Int)),(106,iV 0)],Ys (YP v1 v2 b3 b45 (Y7 v1 v2 (YO b3 b45 []))),12⟩) (Q1P 12) ?_));clear hK K;replace ⟨e73,h,h73⟩:=bind_some h;refine Qg (fun b73:List (List (List Int))=>⟨(10,.adr 0 0 0)::Y0k [],Ys (Y0a v1 v2 b3 b45 b73 (Y7 v1 v2 (YO b3 b45 [(12,.row 1 (Es eL b73))]))),13⟩) (fun b73=>b73=e73) ?_ ?_
 ·refine Qa (Qn h (fun s87:List (List (List Int)) × Int=>⟨Yo c_ behind_0 behind_1 behind_2 (Y08 d_ s87 []),Yf v1 v2 b3 b45 s87 (Y7 v1 v2 (YO b3 b45 (Y0V s87 []))),13⟩) (Q1J ⟨Yo c_ behind_0 behind_1 behind_2 [(105,iV (d_.fr.length:Int)),(106,iV 0)],Ys (Y0K v1 v2 b3 b45 (Y7 v1 v2 (YO b3 b45 [(12,.row 1 (Es eL []))]))),13⟩ (Wk.nils [(12,1)] (by simp) (by simp) (by simp [nlA]) (by simp [entN,nlL,nlA,Cat.cells,Fn.cells,Prf.cells,UA,U1,IA,I1,LA,L1,BA,B1,EA,E1,E2,eB,eI,eL]) (by simp)) (Q1P 13)) ?_);clear h;intro k87 s87 c87 h hk87;refine Q3 (runQ hN fun K hK=>?_);simp;repeat refine sdQ ?_
  refine hK _ ?_;clear hK K;refine tn (Q3 (Qd rfl (fun g=>?_) fun g=>?_))
  ·have g88:s87.2<(d_.fr.length:Int):=gQ;clear g;replace h:=if_l g88 h;refine Qe (tn (Q3 (Qa (Q3 (runQ hN fun K hK=>?_)))));simp;(repeat refine sdQ ?_);refine hK _ ?_;clear hK K;refine tn (Q7 (st':=⟨Yo c_ behind_0 behind_1 behind_2 ((19,iV s87.2)::Y08 d_ s87 []),Yf v1 v2 b3 b45 s87 (Y7 v1 v2 (YO b3 b45 (Y0V s87 []))),13⟩) (Q1P 13) (Q3 (runQ hN fun K hK=>?_)));simp;(repeat refine sdQ ?_);refine hK _ ?_;clear hK K;refine tn (Q7 (st':=⟨Yo c_ behind_0 behind_1 behind_2 ((19,iV s87.2)::(20,.own 13 0 0)::Y08 d_ s87 []),Yf v1 v2 b3 b45 s87 (Y7 v1 v2 (YO b3 b45 (Y0V s87 [(13,.mix 1 [])]))),14⟩) (Q1P 14) (Q3 (Q3 (runQ hN fun K hK=>?_))));simp;(repeat refine sdQ ?_);refine hK _ (tn ?_);clear hK K
   refine Q7 (st':=⟨Yo c_ behind_0 behind_1 behind_2 ((19,iV s87.2)::(20,.own 13 0 0)::(21,iV 0)::Y08 d_ s87 []),Yf v1 v2 b3 b45 s87 (Y7 v1 v2 (YO b3 b45 (Y0V s87 [(13,.mix 1 [])]))),14⟩) (Q1P 14) ?_;replace ⟨e89,h,h89⟩:=bind_some h;refine Qg (fun b89:List (List Int)=>⟨Yo c_ behind_0 behind_1 behind_2 ((20,.own 13 0 b89.length)::Y08 d_ s87 []),Yf v1 v2 b3 b45 s87 (Y7 v1 v2 (YO b3 b45 (Y0V s87 [(13,.row 1 (Ls b89))]))),14⟩) (fun b89=>b89=e89) ?_ ?_
   ·refine Qa (Qn h (fun s94:List (List Int) × Int=>⟨Yo c_ behind_0 behind_1 behind_2 ((19,iV s87.2)::(20,.own 13 0 s94.1.length)::(21,iV s94.2)::Y08 d_ s87 []),Yf v1 v2 b3 b45 s87 (Y7 v1 v2 (YO b3 b45 (Y0V s87 [(13,.row 1 (Ls s94.1))]))),14⟩) (Q1J ⟨Yo c_ behind_0 behind_1 behind_2 ((19,iV s87.2)::(20,.own 13 0 0)::(21,iV 0)::Y08 d_ s87 []),Yf v1 v2 b3 b45 s87 (Y7 v1 v2 (YO b3 b45 (Y0V s87 [(13,.row 1 (Ls []))]))),14⟩ (Wk.nils [] (by simp) (by simp) (by simp [nlA]) (by simp [entN,nlL,nlA,Cat.cells,Fn.cells,Prf.cells,UA,U1,IA,I1,LA,L1,BA,B1,EA,E1,E2,eB,eI,eL]) (by simp)) (Q1P 14)) ?_);clear h;intro k94 s94 c94 h hk94;refine Q3 (Q3 (runQ hN fun K hK=>?_));simp;(repeat refine sdQ ?_);refine hK _ ?_;clear hK K;refine tn (Qd rfl (fun g=>?_) fun g=>?_)
    ·have g95:s94.2<c_.n:=gQ;clear g;replace h:=if_l g95 h;refine Qe (tn (Q3 (Qa (runQ hN fun K hK=>?_))));simp;(repeat with_reducible refine sdQ ?_);replace ⟨v96,hv96,h⟩:=bind_some h;refine Q6 (Q2y _ _ _ _ _ v96 hv96) (.cons .val (.cons .val (.cons .rptr (.cons .rptr (.cons .rptr .nil))))) ?_;replace ⟨a97,h⟩:=Q0 h;(try simp only [List.length_append,List.length_cons,List.length_nil] at a97);simp [a97];(repeat refine sdQ ?_);refine hK _ ?_;clear hK K;refine bn (tn (Q7 (st':=⟨Yo c_ behind_0 behind_1 behind_2 ((19,iV s87.2)::(20,.own 13 0 ((s94.1++[v96]).length))::(21,iV s94.2)::Y08 d_ s87 []),Yf v1 v2 b3 b45 s87 (Y7 v1 v2 (YO b3 b45 (Y0V s87 [(13,.row 1 (Ls (s94.1++[v96])))]))),14⟩) (Q1s [(0,0),(1,1),(2,2),(3,3),(4,4),(5,5),(6,6),(7,7),(8,8),(9,9),(10,10),(11,11),(12,12),(16,13)]) (runQ hN fun K hK=>?_)));replace ⟨a98,h⟩:=Q0 h;simp [Qh a98];(repeat refine sdQ ?_);refine hK _ ?_;clear hK K;cases h;exact rn (s':=(s94.1++[v96],s94.2+1)) hk94 (Q1P 14)
    have g95:¬ (s94.2<c_.n):=gQ;clear g;replace h:=if_r g95 h;refine Qm (tx (lx (bh ?_)));cases h;exact jn (b:=s94.1) hk94 (Q1P 14)
   intro b89 hb89;have h:=h89;(try rw [← hb89] at h);clear h89;(try dsimp only at h);refine runQ hN fun K hK=>?_;replace ⟨a99,h⟩:=Q0 h;(try simp only [List.length_append,List.length_cons,List.length_nil] at a99);simp [a99];(repeat refine sdQ ?_);refine hK _ ?_;clear hK K;refine bn (tn (Q7 (st':=⟨Yo c_ behind_0 behind_1 behind_2 (Y08 d_ s87 []),Ys (Y10 v1 v2 b3 b45 s87 b89 (Y7 v1 v2 (YO b3 b45 [(12,.row 1 (Es eL (s87.1++[b89])))]))),13⟩) (Q1s [(0,0),(1,1),(2,2),(3,3),(4,4),(5,5),(6,6),(7,7),(8,8),(9,9),(10,10),(11,11),(15,12)]) (runQ hN fun K hK=>?_)));replace ⟨a100,h⟩:=Q0 h;simp [Qh a100];(repeat refine sdQ ?_);refine hK _ ?_;clear hK K;cases h;exact rn (s':=(s87.1++[b89],s87.2+1)) hk87 (Q1P 13)
  have g88:¬ (s87.2<(d_.fr.length:Int)):=gQ;clear g;replace h:=if_r g88 h;refine Qm (tx (lx (bh ?_)));cases h;exact jn (b:=s87.1) hk87 (Q1P 13)
 intro b73 hb73;have h:=h73;try rw [← hb73] at h
 clear h73;try dsimp only at h
 refine Q3 (runQ hN fun K hK=>?_);simp;repeat refine sdQ ?_
 refine hK _ (tn (Q7 (st':=⟨[(10,.adr 0 0 0),(11,.val (.bool true))],YM v1 v2 b3 b45 b73 [],12⟩) (Q1s [(0,0),(2,1),(3,2),(4,3),(5,4),(6,5),(7,6),(8,7),(9,8),(10,9),(11,10),(12,11)]) (Qo ?_)));clear hK K;have hr:=Option.some.inj h;rw [← hr];refine ⟨_,(.cell Q8k rfl rfl rfl (by simp) (by simp) (.tmp .nil)),?_⟩;refine ⟨(.agg rfl (.one rfl rfl .nil)),[iV v1.n,lI v1.fr,lI v1.to,lI v1.id,.lst true 1 (Ls v1.cs),iV v2.n,lI v2.fr,lI v2.to,lI v2.id,.lst true 1 (Ls v2.cs),.lst true 1 (Ls b3),.lst true 1 (Es eL b45),.lst true 1 (Es eL b73),.val (.bool true)],[1,2,3,4,5,6,7,8,9,10,11],by simp [Cat.cells,Fn.cells,Prf.cells,UA,U1,IA,I1,LA,L1,BA,B1,EA,E1,E2,eB,eI,eL],by simp,(UpL.refl _)⟩
attribute [local simp] unk unA unE unT unC flat eL eI Qr Q16 Q3k Q1g Cat.cells Fn.cells Prf.cells
noncomputable def Q2Q (f_:Fn) (g_:Fn):Option Prf :=
 (Qf f_.s g_.s (f_.t,f_,g_) (f_.t,f_,g_) f_ f_.t (f_.t,f_,g_) g_ f_.t).bind fun v1 =>
 some v1.1
@[simp] abbrev Y0s (a b:Fn) (c:List (Nat × Ent)):List (Nat × Ent):=(0,.mix 1 [(Y1t a [])])::(1,.mix 1 [(Y1t b [])])::(2,.mix 13 [(Y1i [nS])])::c
@[simp] abbrev Y0u (a:List (Nat × AV)):List (Nat × AV):=(2,.adr 0 0 0)::(3,.adr 1 0 0)::(4,.adr 2 0 0)::a
@[simp] abbrev Y0y (a:Prf × Bool) (b:List (Nat × Ent)):List (Nat × Ent):=(2,rI a.1.s.fr)::(3,rI a.1.s.to)::(4,rI a.1.s.id)::(5,.row 1 (Ls a.1.s.cs))::(6,rI a.1.t.fr)::(7,rI a.1.t.to)::(8,rI a.1.t.id)::(9,.row 1 (Ls a.1.t.cs))::(10,.row 1 (Ls a.1.sz))::(11,.row 1 (Es eL a.1.bf))::(12,.row 1 (Es eL a.1.bh))::b
@[simp] abbrev Y1l (a:Prf × Bool) (b:List (AV)):List (AV):=iV a.1.s.n::.own 2 0 a.1.s.fr.length::.own 3 0 a.1.s.to.length::.own 4 0 a.1.s.id.length::.own 5 0 a.1.s.cs.length::iV a.1.t.n::.own 6 0 a.1.t.fr.length::.own 7 0 a.1.t.to.length::.own 8 0 a.1.t.id.length::.own 9 0 a.1.t.cs.length::.own 10 0 a.1.sz.length::.own 11 0 a.1.bf.length::.own 12 0 a.1.bh.length::b
@[simp] abbrev Y1m (a:Prf × Bool) (b:List (AV)):List (AV):=iV a.1.s.n::.own 1 0 a.1.s.fr.length::.own 2 0 a.1.s.to.length::.own 3 0 a.1.s.id.length::.own 4 0 a.1.s.cs.length::iV a.1.t.n::.own 5 0 a.1.t.fr.length::.own 6 0 a.1.t.to.length::.own 7 0 a.1.t.id.length::.own 8 0 a.1.t.cs.length::.own 9 0 a.1.sz.length::.own 10 0 a.1.bf.length::.own 11 0 a.1.bh.length::b
theorem Q6z (f_:Fn) (g_:Fn) (r:Prf) (h:Q2Q f_ g_=some r):Contract Tryz.prog 64 [.rptr (f_.cells true),.rptr (g_.cells true)] (.agg (r.cells true)):=by
 refine Qc (rvs:=[.cell 4 45]) (rs:=[.agg (r.cells true)]) Tryz.func64 rfl rfl rfl rfl (by simp [Tryz.f64]) fun F hN hP=>?_;unfold Q2Q at h;refine Q3 (runQ hN fun K hK=>?_);simp;repeat refine sdQ ?_
 refine hK _ ?_;clear hK K;refine tn (Q7 (st':=⟨Y0u [],Y0s f_ g_ [],3⟩) (Q1P 3) (Q3 (runQ hN fun K hK=>?_)));simp;repeat refine sdQ ?_
 refine hK _ ?_;clear hK K;refine tn (Q7 (st':=⟨Y0u [(5,.adr 3 0 0)],Y0s f_ g_ [(3,.mix 1 [[.rptr (Y1p f_ [])]])],4⟩) (Q1P 4) (Q3 (QG [] mo (by rw [hN];decide) fun K hK=>?_)));simp;repeat refine sdQ ?_
 refine hK _ ?_;clear hK K;refine tn (Q7 (st':=⟨Y0u [(5,.adr 3 0 0),(6,.adr 4 0 0)],Y0s f_ g_ [(3,.mix 1 [[.rptr (Y1p f_ [])]]),(4,.mix 1 [[.fn 89 [.adr 3 0 0,.adr 0 0 0,.adr 1 0 0]]])],5⟩) (Q1P 5) (Q3 (QG [] mo (by rw [hN];decide) fun K hK=>?_)));simp;repeat with_reducible refine sdQ ?_
 replace ⟨v1,hv1,h⟩:=bind_some h;refine Q1G (fz:=[]) (QD _ _ _ _ _ _ _ _ _ v1 hv1) (.cons (.preT (by simp [Cat.cells,Fn.cells])) (.cons (.preT (by simp [Cat.cells,Fn.cells])) (.cons (.fnL (by simp) (.cons (.field rfl (by simp [Cat.cells,Fn.cells]) (.cons (.fnL (by simp) (.cons (.field rfl (by simp [Cat.cells,Fn.cells]) (.cons (.preT (by simp [Cat.cells,Fn.cells])) .nil)) (.cons (.field rfl (by simp [Cat.cells,Fn.cells]) (.cons (.preT (by simp [Cat.cells,Fn.cells])) .nil)) (.cons (.field rfl (by simp [Cat.cells,Fn.cells]) (.cons (.preT (by simp [Cat.cells,Fn.cells])) .nil)) .nil)))) .nil)) .nil)) (.cons (.fnL (by simp) (.cons (.field rfl (by simp [Cat.cells,Fn.cells]) (.cons (.fnL (by simp) (.cons (.field rfl (by simp [Cat.cells,Fn.cells]) (.cons (.preT (by simp [Cat.cells,Fn.cells])) .nil)) (.cons (.field rfl (by simp [Cat.cells,Fn.cells]) (.cons (.preT (by simp [Cat.cells,Fn.cells])) .nil)) (.cons (.field rfl (by simp [Cat.cells,Fn.cells]) (.cons (.preT (by simp [Cat.cells,Fn.cells])) .nil)) .nil)))) .nil)) (.cons (.field rfl (by simp [Cat.cells,Fn.cells]) (.cons (.preT (by simp [Cat.cells,Fn.cells])) .nil)) (.cons (.field rfl (by simp [Cat.cells,Fn.cells]) (.cons (.preT (by simp [Cat.cells,Fn.cells])) .nil)) .nil)))) (.cons (.fnL (by simp) (.cons (.field rfl (by simp [Cat.cells,Fn.cells]) (.cons (.fnL (by simp) (.cons (.field rfl (by simp [Cat.cells,Fn.cells]) (.cons (.preT (by simp [Cat.cells,Fn.cells])) .nil)) (.cons (.field rfl (by simp [Cat.cells,Fn.cells]) (.cons (.preT (by simp [Cat.cells,Fn.cells])) .nil)) (.cons (.field rfl (by simp [Cat.cells,Fn.cells]) (.cons (.preT (by simp [Cat.cells,Fn.cells])) .nil)) .nil)))) .nil)) (.cons (.field rfl (by simp [Cat.cells,Fn.cells]) (.cons (.preT (by simp [Cat.cells,Fn.cells])) .nil)) (.cons (.field rfl (by simp [Cat.cells,Fn.cells]) (.cons (.preT (by simp [Cat.cells,Fn.cells])) .nil)) .nil)))) .nil))))) ?_;simp;repeat refine sdQ ?_
 refine hK _ ?_;clear hK K;refine tn (Q7 (st':=⟨[(4,.adr 0 0 0),(7,.adr 1 0 0)],Ys ((1,.mix 13 [(Y1l v1 [])])::Y0y v1 []),13⟩) (Q1s [(2,0),(19,1),(6,2),(7,3),(8,4),(9,5),(11,6),(12,7),(13,8),(14,9),(15,10),(16,11),(17,12)]) (Q3 (runQ hN fun K hK=>?_)));simp;repeat refine sdQ ?_
 refine hK _ (tn (Q7 (st':=⟨[(4,.adr 0 0 0)],[(0,.mix 13 [(Y1m v1 [])]),(1,rI v1.1.s.fr),(2,rI v1.1.s.to),(3,rI v1.1.s.id),(4,.row 1 (Ls v1.1.s.cs)),(5,rI v1.1.t.fr),(6,rI v1.1.t.to),(7,rI v1.1.t.id),(8,.row 1 (Ls v1.1.t.cs)),(9,.row 1 (Ls v1.1.sz)),(10,.row 1 (Es eL v1.1.bf)),(11,.row 1 (Es eL v1.1.bh))],12⟩) (Q1s [(0,0),(2,1),(3,2),(4,3),(5,4),(6,5),(7,6),(8,7),(9,8),(10,9),(11,10),(12,11)]) (Qo ?_)));clear hK K;have hr:=Option.some.inj h;rw [← hr];refine ⟨_,(.cell Q8k rfl rfl rfl (by simp) (by simp) .nil),?_⟩;refine ⟨(.agg rfl .nil),[iV v1.1.s.n,lI v1.1.s.fr,lI v1.1.s.to,lI v1.1.s.id,.lst true 1 (Ls v1.1.s.cs),iV v1.1.t.n,lI v1.1.t.fr,lI v1.1.t.to,lI v1.1.t.id,.lst true 1 (Ls v1.1.t.cs),.lst true 1 (Ls v1.1.sz),.lst true 1 (Es eL v1.1.bf),.lst true 1 (Es eL v1.1.bh)],[1,2,3,4,5,6,7,8,9,10,11],by simp [Cat.cells,Fn.cells,Prf.cells,UA,U1,IA,I1,LA,L1,BA,B1,EA,E1,E2,eB,eI,eL],by simp,(UpL.refl _)⟩
end Go.Vc.T
