/- A part of the proof. -/
import Derived.Test.YtbanpimdoabfmaaH10
set_option maxRecDepth 100000
set_option maxHeartbeats 4000000
set_option linter.unusedSimpArgs false
set_option linter.unusedVariables false
set_option linter.unusedSectionVars false
set_option linter.unnecessarySimpa false

open Option.some renaming inj→yJ
open Sum renaming inl→yK
open Sum renaming inr→yL
open List renaming length_append→qD
open List renaming length_cons→qH
open List renaming length_nil→zX
namespace Go.Vc.T
open Go Go.Vc Go.Proofs
attribute [local simp] unk unA unE unT unC flat eL eI Qc Qf Qr XL01Source.cells XMonoidal.cells
noncomputable def Q1k(k:Nat)(q0_:XL01Source):Option (List Int×Int×Int×Int×List Int×List Int×List Int×List (List Int)×Int×List (List Int)×List (List Int)):=match k with
 |0=>none
 |k+1=>
  (Qo (σ:=List Int×Int×Int×Int) (ε:=(List Int×Int×Int)⊕(List Int×Int×Int×Int×List Int×List Int×List Int×List (List Int)×Int×List (List Int)×List (List Int))) (λs153=>
   if s153.2.2.2<10 then
    (Qp 100 (⟨s153.1,s153.2.1,s153.2.2.1⟩:XL01Source) 4).bind λv155=>
    (
     if v155.2.2=0 then
      (
       (Qp 100 (⟨s153.1,v155.1,v155.2.1⟩:XL01Source) 8).bind λv159=>
       if v159.2.2=0 then
        some (yK (v159.1,v159.2.1))
       else
        if v159.2.2=1 then
         some (yL (yK (v159.1,v159.2.1,0)))
        else
         if v159.2.2=2 then
          some (yL (yK (v159.1,v159.2.1,1)))
         else
          if v159.2.2=3 then
           some (yL (yL (yK (v159.1,v159.2.1,2,0,0,1))))
          else
           if v159.2.2=4 then
            some (yL (yL (yK (v159.1,v159.2.1,1,2,2,2))))
           else
            if v159.2.2=5 then
             some (yL (yL (yK (v159.1,v159.2.1,1,2,1,2))))
            else
             if v159.2.2=6 then
              some (yL (yL (yL (v159.1,v159.2.1))))
             else
              some (yL (yL (yK (v159.1,v159.2.1,2,2,2,2)))):Option ((Int×Int)⊕(Int×Int×Int)⊕(Int×Int×Int×Int×Int×Int)⊕(Int×Int))).bind λv167=>
      match v167 with
      | .inl v167=>
       (QB [[0]]).bind λv168=>
       some (s153.1,v167.1,v167.2,v168.1.on_.n,v168.1.on_.fr,v168.1.on_.to,v168.1.on_.id,v168.1.on_.cs,v168.1.unit_,v168.1.objects_,v168.1.arrows_,v168.2)
      | .inr (.inl v167)=>
       (QB [[0,1],[1,v167.2.2]]).bind λv169=>
       some (s153.1,v167.1,v167.2.1,v169.1.on_.n,v169.1.on_.fr,v169.1.on_.to,v169.1.on_.id,v169.1.on_.cs,v169.1.unit_,v169.1.objects_,v169.1.arrows_,v169.2)
      | .inr (.inr (.inl v167))=>
       (QB [[0,1,2],[1,v167.2.2.1,v167.2.2.2.1],[2,v167.2.2.2.2.1,v167.2.2.2.2.2]]).bind λv170=>
       some (s153.1,v167.1,v167.2.1,v170.1.on_.n,v170.1.on_.fr,v170.1.on_.to,v170.1.on_.id,v170.1.on_.cs,v170.1.unit_,v170.1.objects_,v170.1.arrows_,v170.2)
      | .inr (.inr (.inr v167))=>
       (QB [[0,1,2,3],[1,0,2,3],[2,3,2,3],[3,2,2,3]]).bind λv171=>
       some (s153.1,v167.1,v167.2,v171.1.on_.n,v171.1.on_.fr,v171.1.on_.to,v171.1.on_.id,v171.1.on_.cs,v171.1.unit_,v171.1.objects_,v171.1.arrows_,v171.2)
     else
      if v155.2.2=1 then
       (
        (Qp 100 (⟨s153.1,v155.1,v155.2.1⟩:XL01Source) 8).bind λv174=>
        if v174.2.2=0 then
         some (yK (v174.1,v174.2.1))
        else
         if v174.2.2=1 then
          some (yL (yK (v174.1,v174.2.1,0)))
         else
          if v174.2.2=2 then
           some (yL (yK (v174.1,v174.2.1,1)))
          else
           if v174.2.2=3 then
            some (yL (yL (yK (v174.1,v174.2.1,2,0,0,1))))
           else
            if v174.2.2=4 then
             some (yL (yL (yK (v174.1,v174.2.1,1,2,2,2))))
            else
             if v174.2.2=5 then
              some (yL (yL (yK (v174.1,v174.2.1,1,2,1,2))))
             else
              if v174.2.2=6 then
               some (yL (yL (yL (v174.1,v174.2.1))))
              else
               some (yL (yL (yK (v174.1,v174.2.1,2,2,2,2)))):Option ((Int×Int)⊕(Int×Int×Int)⊕(Int×Int×Int×Int×Int×Int)⊕(Int×Int))).bind λv182=>
       match v182 with
       | .inl v182=>
        (Qx [[0]]).bind λv183=>
        some (s153.1,v182.1,v182.2,v183.1.on_.n,v183.1.on_.fr,v183.1.on_.to,v183.1.on_.id,v183.1.on_.cs,v183.1.unit_,v183.1.objects_,v183.1.arrows_,v183.2)
       | .inr (.inl v182)=>
        (Qx [[0,1],[1,v182.2.2]]).bind λv184=>
        some (s153.1,v182.1,v182.2.1,v184.1.on_.n,v184.1.on_.fr,v184.1.on_.to,v184.1.on_.id,v184.1.on_.cs,v184.1.unit_,v184.1.objects_,v184.1.arrows_,v184.2)
       | .inr (.inr (.inl v182))=>
        (Qx [[0,1,2],[1,v182.2.2.1,v182.2.2.2.1],[2,v182.2.2.2.2.1,v182.2.2.2.2.2]]).bind λv185=>
        some (s153.1,v182.1,v182.2.1,v185.1.on_.n,v185.1.on_.fr,v185.1.on_.to,v185.1.on_.id,v185.1.on_.cs,v185.1.unit_,v185.1.objects_,v185.1.arrows_,v185.2)
       | .inr (.inr (.inr v182))=>
        (Qx [[0,1,2,3],[1,0,2,3],[2,3,2,3],[3,2,2,3]]).bind λv186=>
        some (s153.1,v182.1,v182.2,v186.1.on_.n,v186.1.on_.fr,v186.1.on_.to,v186.1.on_.id,v186.1.on_.cs,v186.1.unit_,v186.1.objects_,v186.1.arrows_,v186.2)
      else
       if v155.2.2=2 then
        (Qp 100 (⟨s153.1,v155.1,v155.2.1⟩:XL01Source) 2).bind λv188=>
        ass (B64 (2+v188.2.2))<|
        (Qo (σ:=List (List Int)×List (List Int)×Int) (ε:=List (List Int)×List (List Int)) (λs208=>
         if s208.2.2<(2+v188.2.2)then
          (Qo (σ:=List Int×List Int×Int) (ε:=List Int×List Int) (λs217=>
           if s217.2.2<(2+v188.2.2)then
            (
             if s208.2.2≤s217.2.2 then
              some 1
             else
              some 0:Option (Int)).bind λb219=>
            ass ((s217.1++[b219]).length≤1073741824)<|
            ass ((s217.2.1++[(if s217.2.2>s208.2.2 then s217.2.2 else s208.2.2)]).length≤1073741824)<|
            ass (B64 (s217.2.2+1))<|
            some (Ctl.next (s217.1++[b219],s217.2.1++[(if s217.2.2>s208.2.2 then s217.2.2 else s208.2.2)],s217.2.2+1))
           else
            some (Ctl.ret (s217.1,s217.2.1))) fuel ([],[],0)).bind λb210=>
          ass ((s208.1++[b210.1]).length≤1073741824)<|
          ass ((s208.2.1++[b210.2]).length≤1073741824)<|
          ass (B64 (s208.2.2+1))<|
          some (Ctl.next (s208.1++[b210.1],s208.2.1++[b210.2],s208.2.2+1))
         else
          some (Ctl.ret (s208.1,s208.2.1))) fuel ([],[],0)).bind λb190=>
        (Qp 100 (⟨s153.1,v188.1,v188.2.1⟩:XL01Source) 2).bind λv227=>
        (
         if v227.2.2=0 then
          (Qo (σ:=List (List Int)×Int) (ε:=List (List Int)) (λs259=>
           if s259.2<(s259.1.length:Int)then
            (
             (Qo (σ:=List (List Int)×Int) (ε:=List (List Int)) (λs272=>
              if s272.2<s259.2 then
               ass (0≤s259.2∧s259.2<(s272.1.length:Int))<|
               ass (0≤s272.2∧s272.2<((rx s272.1 s259.2).length:Int))<|
               ass (0≤s259.2∧s259.2<(s272.1.length:Int))<|
               ass (0≤s272.2∧s272.2<(s272.1.length:Int))<|
               ass (0≤s259.2∧s259.2<((rx s272.1 s272.2).length:Int))<|
               ass (0≤s272.2∧s272.2<((rx s272.1 s259.2).length:Int))<|
               ass (0≤s272.2∧s272.2<((s272.1.set s259.2.toNat ((rx s272.1 s259.2).set s272.2.toNat (ix (rx s272.1 s272.2) s259.2))).length:Int))<|
               ass (0≤s259.2∧s259.2<((rx (s272.1.set s259.2.toNat ((rx s272.1 s259.2).set s272.2.toNat (ix (rx s272.1 s272.2) s259.2))) s272.2).length:Int))<|
               ass (B64 (s272.2+1))<|
               some (Ctl.next ((s272.1.set s259.2.toNat ((rx s272.1 s259.2).set s272.2.toNat (ix (rx s272.1 s272.2) s259.2))).set s272.2.toNat ((rx (s272.1.set s259.2.toNat ((rx s272.1 s259.2).set s272.2.toNat (ix (rx s272.1 s272.2) s259.2))) s272.2).set s259.2.toNat (ix (rx s272.1 s259.2) s272.2)),s272.2+1))
              else
               some (Ctl.ret s272.1)) fuel (s259.1,0)).bind λp272=>
             some p272:Option (List (List Int))).bind λb261=>
            ass (B64 (s259.2+1))<|
            some (Ctl.next (b261,s259.2+1))
           else
            some (Ctl.ret s259.1)) fuel (b190.1,0)).bind λp259=>
          some p259
         else
          some b190.1:Option (List (List Int))).bind λb228=>
        (QJ b228 b190.2).bind λv284=>
        some (s153.1,v227.1,v227.2.1,v284.1.on_.n,v284.1.on_.fr,v284.1.on_.to,v284.1.on_.id,v284.1.on_.cs,v284.1.unit_,v284.1.objects_,v284.1.arrows_,v284.2)
       else
        (
         (Qp 100 (⟨s153.1,v155.1,v155.2.1⟩:XL01Source) 8).bind λv286=>
         if v286.2.2=0 then
          some (yK (v286.1,v286.2.1))
         else
          if v286.2.2=1 then
           some (yL (yK (v286.1,v286.2.1,0)))
          else
           if v286.2.2=2 then
            some (yL (yK (v286.1,v286.2.1,1)))
           else
            if v286.2.2=3 then
             some (yL (yL (yK (v286.1,v286.2.1,2,0,0,1))))
            else
             if v286.2.2=4 then
              some (yL (yL (yK (v286.1,v286.2.1,1,2,2,2))))
             else
              if v286.2.2=5 then
               some (yL (yL (yK (v286.1,v286.2.1,1,2,1,2))))
              else
               if v286.2.2=6 then
                some (yL (yL (yL (v286.1,v286.2.1))))
               else
                some (yL (yL (yK (v286.1,v286.2.1,2,2,2,2)))):Option ((Int×Int)⊕(Int×Int×Int)⊕(Int×Int×Int×Int×Int×Int)⊕(Int×Int))).bind λv294=>
        match v294 with
        | .inl v294=>
         (QC 100 (⟨s153.1,v294.1,v294.2⟩:XL01Source) 1).bind λv295=>
         (QJ v295.2.2.2 [[0]]).bind λv296=>
         some (v295.1,v295.2.1,v295.2.2.1,v296.1.on_.n,v296.1.on_.fr,v296.1.on_.to,v296.1.on_.id,v296.1.on_.cs,v296.1.unit_,v296.1.objects_,v296.1.arrows_,v296.2)
        | .inr (.inl v294)=>
         (QC 100 (⟨s153.1,v294.1,v294.2.1⟩:XL01Source) 2).bind λv297=>
         (QJ v297.2.2.2 [[0,1],[1,v294.2.2]]).bind λv298=>
         some (v297.1,v297.2.1,v297.2.2.1,v298.1.on_.n,v298.1.on_.fr,v298.1.on_.to,v298.1.on_.id,v298.1.on_.cs,v298.1.unit_,v298.1.objects_,v298.1.arrows_,v298.2)
        | .inr (.inr (.inl v294))=>
         (QC 100 (⟨s153.1,v294.1,v294.2.1⟩:XL01Source) 3).bind λv299=>
         (QJ v299.2.2.2 [[0,1,2],[1,v294.2.2.1,v294.2.2.2.1],[2,v294.2.2.2.2.1,v294.2.2.2.2.2]]).bind λv300=>
         some (v299.1,v299.2.1,v299.2.2.1,v300.1.on_.n,v300.1.on_.fr,v300.1.on_.to,v300.1.on_.id,v300.1.on_.cs,v300.1.unit_,v300.1.objects_,v300.1.arrows_,v300.2)
        | .inr (.inr (.inr v294))=>
         (QC 100 (⟨s153.1,v294.1,v294.2⟩:XL01Source) 4).bind λv301=>
         (QJ v301.2.2.2 [[0,1,2,3],[1,0,2,3],[2,3,2,3],[3,2,2,3]]).bind λv302=>
         some (v301.1,v301.2.1,v301.2.2.1,v302.1.on_.n,v302.1.on_.fr,v302.1.on_.to,v302.1.on_.id,v302.1.on_.cs,v302.1.unit_,v302.1.objects_,v302.1.arrows_,v302.2):Option (List Int×Int×Int×Int×List Int×List Int×List Int×List (List Int)×Int×List (List Int)×List (List Int)×Int)).bind λb156=>
    if b156.2.2.2.2.2.2.2.2.2.2.2=0 then
     some (Ctl.ret (yL (b156.1,b156.2.1,b156.2.2.1,b156.2.2.2.1,b156.2.2.2.2.1,b156.2.2.2.2.2.1,b156.2.2.2.2.2.2.1,b156.2.2.2.2.2.2.2.1,b156.2.2.2.2.2.2.2.2.1,b156.2.2.2.2.2.2.2.2.2.1,b156.2.2.2.2.2.2.2.2.2.2.1)))
    else
     ass (B64 (s153.2.2.2+1))<|
     some (Ctl.next (b156.1,b156.2.1,b156.2.2.1,s153.2.2.2+1))
   else
    some (Ctl.ret (yK (s153.1,s153.2.1,s153.2.2.1)))) fuel (q0_.code_,q0_.at_,q0_.hash_,0)).bind λe2=>
  match e2 with
  | .inl b2=>
   (QB [[0,1],[1,0]]).bind λv305=>
   some (b2.1,b2.2.1,b2.2.2,v305.1.on_.n,v305.1.on_.fr,v305.1.on_.to,v305.1.on_.id,v305.1.on_.cs,v305.1.unit_,v305.1.objects_,v305.1.arrows_)
  | .inr p2=>
   some p2
@[simp] abbrev Y0(a:List (Nat×Ent)):List (Nat×Ent):=(1,.mix 8 [(Y0M [])])::(2,.mix 8 [(Y0M [])])::a
@[simp] abbrev Y5(a:List (Nat×Ent)):List (Nat×Ent):=(3,.mix 1 [[.own 4 0 3],[.own 5 0 3],[.own 6 0 3]])::(4,.mix 1 [[iV 0],[iV 1],[iV 2]])::a
@[simp] abbrev Y8(a:List (Nat×Ent)):List (Nat×Ent):=(3,.mix 1 [[.own 4 0 4],[.own 5 0 4],[.own 6 0 4],[.own 7 0 4]])::(4,.mix 1 [[iV 0],[iV 1],[iV 2],[iV 3]])::(5,.mix 1 [[iV 1],[iV 0],[iV 2],[iV 3]])::(6,.mix 1 [[iV 2],[iV 3],[iV 2],[iV 3]])::(7,.mix 1 [[iV 3],[iV 2],[iV 2],[iV 3]])::a
@[simp] abbrev Yb(a:List Int×Int×Int×Int)(b:List (Nat×AV)):List (Nat×AV):=(0,.adr 0 0 0)::(2,.adr 1 0 0)::(3,iV a.2.2.2)::(4,.adr 2 0 0)::b
@[simp] abbrev Yn(a:List (Nat×Ent)):List (Nat×Ent):=(3,.mix 1 [[.own 4 0 2],[.own 5 0 2]])::(4,.mix 1 [[iV 0],[iV 1]])::a
@[simp] abbrev Yr(a:List Int×Int×Int×Int×List Int×List Int×List Int×List (List Int)×Int×List (List Int)×List (List Int)×Int)(b:List (Nat×Ent)):List (Nat×Ent):=(0,.mix 3 [[.lst true 1 (Us a.1),iV a.2.1,.val (.int .u64 a.2.2.1)]])::(1,.mix 8 [[iV a.2.2.2.1,.own 2 0 a.2.2.2.2.1.length,.own 3 0 a.2.2.2.2.2.1.length,.own 4 0 a.2.2.2.2.2.2.1.length,.own 5 0 a.2.2.2.2.2.2.2.1.length,iV a.2.2.2.2.2.2.2.2.1,.own 6 0 a.2.2.2.2.2.2.2.2.2.1.length,.own 7 0 a.2.2.2.2.2.2.2.2.2.2.1.length]])::(2,rI a.2.2.2.2.1)::(3,rI a.2.2.2.2.2.1)::(4,rI a.2.2.2.2.2.2.1)::(5,.row 1 (Ls a.2.2.2.2.2.2.2.1))::(6,.row 1 (Ls a.2.2.2.2.2.2.2.2.2.1))::(7,.row 1 (Ls a.2.2.2.2.2.2.2.2.2.2.1))::b
@[simp] abbrev Yt(a:List Int×Int×Int)(b:XMonoidal×Int)(c:List (Nat×Ent)):List (Nat×Ent):=(0,.mix 3 [[.lst true 1 (Us a.1),iV a.2.1,.val (.int .u64 a.2.2)]])::(1,.mix 8 [[iV b.1.on_.n,.own 2 0 b.1.on_.fr.length,.own 3 0 b.1.on_.to.length,.own 4 0 b.1.on_.id.length,.own 5 0 b.1.on_.cs.length,iV b.1.unit_,.own 6 0 b.1.objects_.length,.own 7 0 b.1.arrows_.length]])::(2,rI b.1.on_.fr)::(3,rI b.1.on_.to)::(4,rI b.1.on_.id)::(5,.row 1 (Ls b.1.on_.cs))::(6,.row 1 (Ls b.1.objects_))::(7,.row 1 (Ls b.1.arrows_))::c
@[simp] abbrev YE(a:List (Nat×Ent)):List (Nat×Ent):=(5,.mix 1 [[iV 1],[iV 2],[iV 0]])::(6,.mix 1 [[iV 2],[iV 0],[iV 1]])::a
@[simp] abbrev YF(a:List (Nat×Ent)):List (Nat×Ent):=(5,.mix 1 [[iV 1],[iV 1],[iV 2]])::(6,.mix 1 [[iV 2],[iV 2],[iV 2]])::a
@[simp] abbrev YG(a:List (Nat×Ent)):List (Nat×Ent):=(5,.mix 1 [[iV 1],[iV 1],[iV 2]])::(6,.mix 1 [[iV 2],[iV 1],[iV 2]])::a
@[simp] abbrev YH(a:List (Nat×Ent)):List (Nat×Ent):=(5,.mix 1 [[iV 1],[iV 2],[iV 2]])::(6,.mix 1 [[iV 2],[iV 2],[iV 2]])::a
@[simp] abbrev YJ(a:List (List Int)×List (List Int)×Int)(b:List (Nat×AV)):List (Nat×AV):=(7,.own 3 0 a.1.length)::(8,.own 4 0 a.2.1.length)::(9,iV a.2.2)::b
@[simp] abbrev YO(a:List (Nat×Ent)):List (Nat×Ent):=(3,.mix 1 [[.own 4 0 1]])::(4,.mix 1 [[iV 0]])::a
@[simp] abbrev Y01(a:List (List Int)×List (List Int)×Int)(b:List (Nat×Ent)):List (Nat×Ent):=(3,.row 1 (Ls a.1))::(4,.row 1 (Ls a.2.1))::b
@[simp] abbrev Y06(a:List (Nat×AV)):List (Nat×AV):=(2,.own 3 0 3)::a
@[simp] abbrev Y0i(a:List (Nat×Ent)):List (Nat×Ent):=(1,.mix 8 [(Y0M [])])::a
@[simp] abbrev Y0n(a:List (Nat×Ent)):List (Nat×Ent):=(5,.mix 1 [[iV 1],[iV 0]])::a
@[simp] abbrev Y0o(a:List (Nat×Ent)):List (Nat×Ent):=(5,.mix 1 [[iV 1],[iV 1]])::a
@[simp] abbrev Y0E(a:List (Nat×AV)):List (Nat×AV):=(2,.own 3 0 2)::a
@[simp] abbrev Y0I(a:List (Nat×AV)):List (Nat×AV):=(2,.adr 1 0 0)::a
@[simp] abbrev Y0K(a:List Int×Int×Int×Int)(b:List (AV)):List (AV):=.lst true 1 (Us (a.1))::b
@[simp] abbrev Y0V(a:List Int×Int×Int×Int×List Int×List Int×List Int×List (List Int)×Int×List (List Int)×List (List Int))(b:List (AV)):List (AV):=iV a.2.2.2.1::.own 2 0 a.2.2.2.2.1.length::.own 3 0 a.2.2.2.2.2.1.length::.own 4 0 a.2.2.2.2.2.2.1.length::.own 5 0 a.2.2.2.2.2.2.2.1.length::iV a.2.2.2.2.2.2.2.2.1::.own 6 0 a.2.2.2.2.2.2.2.2.2.1.length::.own 7 0 a.2.2.2.2.2.2.2.2.2.2.length::b
theorem Q5z:∀(k:Nat) (q0_:XL01Source) (vR:List Int×Int×Int×Int×List Int×List Int×List Int×List (List Int)×Int×List (List Int)×List (List Int)) (h:Q1k k q0_=some vR),ICon Try.prog 138 [.adr 0 0 0] (λid=>look id [(0,.mix 3 [(XL01Source.cells true q0_)])]) 1 {v:=.agg (Y0V vR []),set:=[(0,.mix 3 [[.lst true 1 (Us vR.1),iV vR.2.1,.val (.int .u64 vR.2.2.1)]])],del:=[],new:=[(1,.mix 8 [(Y0V vR [])]),(2,rI vR.2.2.2.2.1),(3,rI vR.2.2.2.2.2.1),(4,rI vR.2.2.2.2.2.2.1),(5,.row 1 (Ls vR.2.2.2.2.2.2.2.1)),(6,.row 1 (Ls vR.2.2.2.2.2.2.2.2.2.1)),(7,.row 1 (Ls vR.2.2.2.2.2.2.2.2.2.2))],cnt:=7}:=by
 intro k
 induction k with
 |zero=>
  intro q0_ vR h;simp[Q1k]at h
 |succ k ih=>
  intro q0_ vR h;refine Q5e (rvs:=[.cell 2 48]) (H:=[(0,.mix 3 [(XL01Source.cells true q0_)])]) Try.func138 rfl rfl rfl (by simp[Try.f138]) (by simp) (Q5r (by simp)) (newI (by rfl)) λF hN hP=>?_;unfold Q1k at h;try dsimp only at h
  refine Q0 (rxQ hN λK hK=>?_);simp;repeat refine sdQ ?_
  refine hK _ ?_;clear hK K;refine tn (Q2 (st':=⟨(0,.adr 0 0 0)::Y0I [],YZ q0_ (Y0i []),2⟩) (wkP [(0,0),(1,1)] hP) (Q0 (Q0 (rxQ hN λK hK=>?_))));simp;repeat refine sdQ ?_
  refine hK _ (tn (Q2 (st':=⟨(0,.adr 0 0 0)::Y0I [(3,iV 0)],YZ q0_ (Y0i []),2⟩) (wkP [(0,0),(1,1)] hP) ?_));clear hK K;replace⟨e2,h,h2⟩:=bind_some h;refine Q9 (λb2:List Int×Int×Int=>⟨Y0I [],(0,.mix 3 [[.lst true 1 (Us b2.1),iV b2.2.1,.val (.int .u64 b2.2.2)]])::Y0i [],2⟩) (λb2=>yK b2=e2) ?_ ?_
  ·refine Q5 (Qj h (λs153:List Int×Int×Int×Int=>⟨(0,.adr 0 0 0)::Y0I [(3,iV s153.2.2.2)],(0,.mix 3 [[.lst true 1 (Us s153.1),iV s153.2.1,.val (.int .u64 s153.2.2.1)]])::Y0i [],2⟩) (wkP [(0,0),(1,1)] hP) ?_);clear h;intro k153 s153 c153 h hk153;refine Q0 (Q0 (rxQ hN λK hK=>?_));simp;(repeat refine sdQ ?_);refine hK _ ?_;clear hK K;refine tn (Q7 rfl (λg=>?_) λg=>?_)
   ·have g154:s153.2.2.2<10:=gQ;clear g;replace h:=if_l g154 h;refine Q8 (tn (Q0 (Q5 (Q0 (rxQ hN λK hK=>?_)))));simp;(repeat refine sdQ ?_);refine hK _ ?_;clear hK K;refine tn (Q2 (st':=⟨Yb s153 [],(0,.mix 3 [[.lst true 1 (Us s153.1),iV s153.2.1,.val (.int .u64 s153.2.2.1)]])::Y0 [],3⟩) (wkJ 3 hP) (Q0 (Q0 (Q18 [] mo (by rw[hN];decide) λK hK=>?_))));simp;(repeat with_reducible refine sdQ ?_);replace⟨v155,hv155,h⟩:=bind_some h;refine QG (fz:=[]) (frQ (e:={v:=.val (.int .i64 v155.2.2),set:=[(0,.mix 3 [(Y0K s153 [iV v155.1,.val (.int .u64 v155.2.1)])])],del:=[],new:=[],cnt:=0}) (Qw 100 _ _ v155 hv155) [(0,0)]) ?_;simp;(repeat refine sdQ ?_);refine hK _ (tn (Q2 (st':=⟨Yb s153 [(27,iV v155.2.2)],(0,.mix 3 [(Y0K s153 [iV v155.1,.val (.int .u64 v155.2.1)])])::Y0 [],3⟩) (wkJ 3 hP) ?_));clear hK K;replace⟨e156,h,h156⟩:=bind_some h;refine Q9 (λb156:List Int×Int×Int×Int×List Int×List Int×List Int×List (List Int)×Int×List (List Int)×List (List Int)×Int=>⟨Yb s153 [(5,iV b156.2.2.2.2.2.2.2.2.2.2.2)],(0,.mix 3 [[.lst true 1 (Us b156.1),iV b156.2.1,.val (.int .u64 b156.2.2.1)]])::Y0i [(2,.mix 8 [[iV b156.2.2.2.1,.own 3 0 b156.2.2.2.2.1.length,.own 4 0 b156.2.2.2.2.2.1.length,.own 5 0 b156.2.2.2.2.2.2.1.length,.own 6 0 b156.2.2.2.2.2.2.2.1.length,iV b156.2.2.2.2.2.2.2.2.1,.own 7 0 b156.2.2.2.2.2.2.2.2.2.1.length,.own 8 0 b156.2.2.2.2.2.2.2.2.2.2.1.length]]),(3,rI b156.2.2.2.2.1),(4,rI b156.2.2.2.2.2.1),(5,rI b156.2.2.2.2.2.2.1),(6,.row 1 (Ls b156.2.2.2.2.2.2.2.1)),(7,.row 1 (Ls b156.2.2.2.2.2.2.2.2.2.1)),(8,.row 1 (Ls b156.2.2.2.2.2.2.2.2.2.2.1))],9⟩) (λb156=>b156=e156) ?_ ?_
    ·refine Q5 (Q0 (rxQ hN λK hK=>?_));simp;(repeat refine sdQ ?_);refine hK _ ?_;clear hK K;refine tn (Q7 rfl (λg=>?_) λg=>?_)
     ·have g157:v155.2.2=0:=gQ;clear g;replace h:=if_l g157 h;refine Q18 [] mo (by rw[hN];decide) λK hK=>?_;simp;(repeat with_reducible refine sdQ ?_);replace⟨v167,hv167,h⟩:=bind_some h;refine QG (fz:=[]) (Q1P (ts:=[2]) (e:=(match(generalizing:=false) v167 with|.inl v167=>{v:=.own 3 0 1,set:=[(0,.mix 3 [(Y0K s153 [iV v167.1,.val (.int .u64 v167.2)])])],del:=[],new:=[(3,.mix 1 [[.own 4 0 1]]),(4,.mix 1 [[iV 0]])],cnt:=2}|.inr (.inl v167)=>{v:=.own 3 0 2,set:=[(0,.mix 3 [(Y0K s153 [iV v167.1,.val (.int .u64 v167.2.1)])])],del:=[],new:=[(3,.mix 1 [[.own 4 0 2],[.own 5 0 2]]),(4,.mix 1 [[iV 0],[iV 1]]),(5,.mix 1 [[iV 1],[iV v167.2.2]])],cnt:=3}|.inr (.inr (.inl v167))=>{v:=.own 3 0 3,set:=[(0,.mix 3 [(Y0K s153 [iV v167.1,.val (.int .u64 v167.2.1)])])],del:=[],new:=[(3,.mix 1 [[.own 4 0 3],[.own 5 0 3],[.own 6 0 3]]),(4,.mix 1 [[iV 0],[iV 1],[iV 2]]),(5,.mix 1 [[iV 1],[iV v167.2.2.1],[iV v167.2.2.2.1]]),(6,.mix 1 [[iV 2],[iV v167.2.2.2.2.1],[iV v167.2.2.2.2.2]])],cnt:=4}|.inr (.inr (.inr v167))=>{v:=.own 3 0 4,set:=[(0,.mix 3 [(Y0K s153 [iV v167.1,.val (.int .u64 v167.2)])])],del:=[],new:=[(3,.mix 1 [[.own 4 0 4],[.own 5 0 4],[.own 6 0 4],[.own 7 0 4]]),(4,.mix 1 [[iV 0],[iV 1],[iV 2],[iV 3]]),(5,.mix 1 [[iV 1],[iV 0],[iV 2],[iV 3]]),(6,.mix 1 [[iV 2],[iV 3],[iV 2],[iV 3]]),(7,.mix 1 [[iV 3],[iV 2],[iV 2],[iV 3]])],cnt:=5})) Try.func153 rfl rfl rfl (by simp[Try.f153]) (by simp) (Q5r (by rcases v167 with v167|v167|v167|v167<;>simp)) (newI (by rcases v167 with v167|v167|v167|v167<;>rfl)) λF hN hP=>?_) ?_
      ·clear h;have h:=hv167;clear hv167;refine Q0 (rxQ hN λK hK=>?_);simp;(repeat refine sdQ ?_);refine hK _ ?_;clear hK K;refine tn (Q2 (st':=⟨[(0,.adr 0 0 0)],(0,.mix 3 [(Y0K s153 [iV v155.1,.val (.int .u64 v155.2.1)])])::Y0 [],3⟩) (wkJ 3 hP) (Q0 (Q0 (Q18 [] mo (by rw[hN];decide) λK hK=>?_))));simp;(repeat with_reducible refine sdQ ?_);replace⟨v159,hv159,h⟩:=bind_some h;refine QG (fz:=[]) (frQ (e:={v:=.val (.int .i64 v159.2.2),set:=[(0,.mix 3 [(Y0K s153 [iV v159.1,.val (.int .u64 v159.2.1)])])],del:=[],new:=[],cnt:=0}) (Qw 100 _ _ v159 hv159) [(0,0)]) ?_;simp;(repeat refine sdQ ?_);refine hK _ ?_;clear hK K;refine tn (Q2 (st':=⟨[(4,iV v159.2.2)],(0,.mix 3 [(Y0K s153 [iV v159.1,.val (.int .u64 v159.2.1)])])::Y0 [],3⟩) (wkJ 3 hP) (Q5 (Q0 (rxQ hN λK hK=>?_))));simp;(repeat refine sdQ ?_);refine hK _ ?_;clear hK K;refine tn (Q7 rfl (λg=>?_) λg=>?_)
       ·have g160:v159.2.2=0:=gQ;clear g;replace h:=if_l g160 h;refine Q0 (rxQ hN λK hK=>?_);simp;(repeat refine sdQ ?_);refine hK _ (tn (Q2 (st':=⟨[(2,.own 3 0 1)],(0,.mix 3 [(Y0K s153 [iV v159.1,.val (.int .u64 v159.2.1)])])::Y0 (YO []),5⟩) (wkP [(0,0),(1,1),(2,2),(4,3),(3,4)] hP) (Qe (br (tr ?_)))));clear hK K;cases h;(try dsimp only);first|refine iw_r (st':=⟨[(2,.own 3 0 1)],(0,.mix 3 [(Y0K s153 [iV v159.1,.val (.int .u64 v159.2.1)])])::Y0 (YO []),5⟩) ?_ ?_|refine iw_n (st':=⟨[(2,.own 3 0 1)],(0,.mix 3 [(Y0K s153 [iV v159.1,.val (.int .u64 v159.2.1)])])::Y0 (YO []),5⟩) ?_ ?_
        ·exact wkJ 5 hP
        exact⟨by simp[Qt],by simp,by simp[CN]⟩
       have g160:¬(v159.2.2=0):=gQ;clear g;replace h:=if_r g160 h;refine Q0 (rxQ hN λK hK=>?_);simp;(repeat refine sdQ ?_);refine hK _ ?_;clear hK K;refine tn (Q7 rfl (λg=>?_) λg=>?_)
       ·have g161:v159.2.2=1:=gQ;clear g;replace h:=if_l g161 h;refine Q0 (rxQ hN λK hK=>?_);simp;(repeat refine sdQ ?_);refine hK _ (tn (Q2 (st':=⟨Y0E [],(0,.mix 3 [(Y0K s153 [iV v159.1,.val (.int .u64 v159.2.1)])])::Y0 (Yn (Y0n [])),6⟩) (wkP [(0,0),(1,1),(2,2),(5,3),(3,4),(4,5)] hP) (Qe (br (tr ?_)))));clear hK K;cases h;(try dsimp only);first|refine iw_r (st':=⟨Y0E [],(0,.mix 3 [(Y0K s153 [iV v159.1,.val (.int .u64 v159.2.1)])])::Y0 (Yn (Y0n [])),6⟩) ?_ ?_|refine iw_n (st':=⟨Y0E [],(0,.mix 3 [(Y0K s153 [iV v159.1,.val (.int .u64 v159.2.1)])])::Y0 (Yn (Y0n [])),6⟩) ?_ ?_
        ·exact wkJ 6 hP
        exact⟨by simp[Qt],by simp,by simp[CN]⟩
       have g161:¬(v159.2.2=1):=gQ;clear g;replace h:=if_r g161 h;refine Q0 (rxQ hN λK hK=>?_);simp;(repeat refine sdQ ?_);refine hK _ ?_;clear hK K;refine tn (Q7 rfl (λg=>?_) λg=>?_)
       ·have g162:v159.2.2=2:=gQ;clear g;replace h:=if_l g162 h;refine Q0 (rxQ hN λK hK=>?_);simp;(repeat refine sdQ ?_);refine hK _ (tn (Q2 (st':=⟨Y0E [],(0,.mix 3 [(Y0K s153 [iV v159.1,.val (.int .u64 v159.2.1)])])::Y0 (Yn (Y0o [])),6⟩) (wkP [(0,0),(1,1),(2,2),(5,3),(3,4),(4,5)] hP) (Qe (br (tr ?_)))));clear hK K;cases h;(try dsimp only);first|refine iw_r (st':=⟨Y0E [],(0,.mix 3 [(Y0K s153 [iV v159.1,.val (.int .u64 v159.2.1)])])::Y0 (Yn (Y0o [])),6⟩) ?_ ?_|refine iw_n (st':=⟨Y0E [],(0,.mix 3 [(Y0K s153 [iV v159.1,.val (.int .u64 v159.2.1)])])::Y0 (Yn (Y0o [])),6⟩) ?_ ?_
        ·exact wkJ 6 hP
        exact⟨by simp[Qt],by simp,by simp[CN]⟩
       have g162:¬(v159.2.2=2):=gQ;clear g;replace h:=if_r g162 h;refine Q0 (rxQ hN λK hK=>?_);simp;(repeat refine sdQ ?_);refine hK _ ?_;clear hK K;refine tn (Q7 rfl (λg=>?_) λg=>?_)
       ·have g163:v159.2.2=3:=gQ;clear g;replace h:=if_l g163 h;refine Q0 (rxQ hN λK hK=>?_);simp;(repeat refine sdQ ?_);refine hK _ (tn (Q2 (st':=⟨Y06 [],(0,.mix 3 [(Y0K s153 [iV v159.1,.val (.int .u64 v159.2.1)])])::Y0 (Y5 (YE [])),7⟩) (wkP [(0,0),(1,1),(2,2),(6,3),(3,4),(4,5),(5,6)] hP) (Qe (br (tr ?_)))));clear hK K;cases h;(try dsimp only);first|refine iw_r (st':=⟨Y06 [],(0,.mix 3 [(Y0K s153 [iV v159.1,.val (.int .u64 v159.2.1)])])::Y0 (Y5 (YE [])),7⟩) ?_ ?_|refine iw_n (st':=⟨Y06 [],(0,.mix 3 [(Y0K s153 [iV v159.1,.val (.int .u64 v159.2.1)])])::Y0 (Y5 (YE [])),7⟩) ?_ ?_
        ·exact wkJ 7 hP
        exact⟨by simp[Qt],by simp,by simp[CN]⟩
       have g163:¬(v159.2.2=3):=gQ;clear g;replace h:=if_r g163 h;refine Q0 (rxQ hN λK hK=>?_);simp;(repeat refine sdQ ?_);refine hK _ ?_;clear hK K;refine tn (Q7 rfl (λg=>?_) λg=>?_)
       ·have g164:v159.2.2=4:=gQ;clear g;replace h:=if_l g164 h;refine Q0 (rxQ hN λK hK=>?_);simp;(repeat refine sdQ ?_);refine hK _ (tn (Q2 (st':=⟨Y06 [],(0,.mix 3 [(Y0K s153 [iV v159.1,.val (.int .u64 v159.2.1)])])::Y0 (Y5 (YF [])),7⟩) (wkP [(0,0),(1,1),(2,2),(6,3),(3,4),(4,5),(5,6)] hP) (Qe (br (tr ?_)))));clear hK K;cases h;(try dsimp only);first|refine iw_r (st':=⟨Y06 [],(0,.mix 3 [(Y0K s153 [iV v159.1,.val (.int .u64 v159.2.1)])])::Y0 (Y5 (YF [])),7⟩) ?_ ?_|refine iw_n (st':=⟨Y06 [],(0,.mix 3 [(Y0K s153 [iV v159.1,.val (.int .u64 v159.2.1)])])::Y0 (Y5 (YF [])),7⟩) ?_ ?_
        ·exact wkJ 7 hP
        exact⟨by simp[Qt],by simp,by simp[CN]⟩
       have g164:¬(v159.2.2=4):=gQ;clear g;replace h:=if_r g164 h;refine Q0 (rxQ hN λK hK=>?_);simp;(repeat refine sdQ ?_);refine hK _ ?_;clear hK K;refine tn (Q7 rfl (λg=>?_) λg=>?_)
       ·have g165:v159.2.2=5:=gQ;clear g;replace h:=if_l g165 h;refine Q0 (rxQ hN λK hK=>?_);simp;(repeat refine sdQ ?_);refine hK _ (tn (Q2 (st':=⟨Y06 [],(0,.mix 3 [(Y0K s153 [iV v159.1,.val (.int .u64 v159.2.1)])])::Y0 (Y5 (YG [])),7⟩) (wkP [(0,0),(1,1),(2,2),(6,3),(3,4),(4,5),(5,6)] hP) (Qe (br (tr ?_)))));clear hK K;cases h;(try dsimp only);first|refine iw_r (st':=⟨Y06 [],(0,.mix 3 [(Y0K s153 [iV v159.1,.val (.int .u64 v159.2.1)])])::Y0 (Y5 (YG [])),7⟩) ?_ ?_|refine iw_n (st':=⟨Y06 [],(0,.mix 3 [(Y0K s153 [iV v159.1,.val (.int .u64 v159.2.1)])])::Y0 (Y5 (YG [])),7⟩) ?_ ?_
        ·exact wkJ 7 hP
        exact⟨by simp[Qt],by simp,by simp[CN]⟩
       have g165:¬(v159.2.2=5):=gQ;clear g;replace h:=if_r g165 h;refine Q0 (rxQ hN λK hK=>?_);simp;(repeat refine sdQ ?_);refine hK _ ?_;clear hK K;refine tn (Q7 rfl (λg=>?_) λg=>?_)
       ·have g166:v159.2.2=6:=gQ;clear g;replace h:=if_l g166 h;refine Q0 (rxQ hN λK hK=>?_);simp;(repeat refine sdQ ?_);refine hK _ (tn (Q2 (st':=⟨[(2,.own 3 0 4)],(0,.mix 3 [(Y0K s153 [iV v159.1,.val (.int .u64 v159.2.1)])])::Y0 (Y8 []),8⟩) (wkP [(0,0),(1,1),(2,2),(7,3),(3,4),(4,5),(5,6),(6,7)] hP) (Qe (br (tr ?_)))));clear hK K;cases h;(try dsimp only);first|refine iw_r (st':=⟨[(2,.own 3 0 4)],(0,.mix 3 [(Y0K s153 [iV v159.1,.val (.int .u64 v159.2.1)])])::Y0 (Y8 []),8⟩) ?_ ?_|refine iw_n (st':=⟨[(2,.own 3 0 4)],(0,.mix 3 [(Y0K s153 [iV v159.1,.val (.int .u64 v159.2.1)])])::Y0 (Y8 []),8⟩) ?_ ?_
        ·exact wkJ 8 hP
        exact⟨by simp[Qt],by simp,by simp[CN]⟩
       have g166:¬(v159.2.2=6):=gQ;clear g;replace h:=if_r g166 h;refine Q8 (bn (tn (Q0 (rxQ hN λK hK=>?_))));simp;(repeat refine sdQ ?_);refine hK _ (tn (Q2 (st':=⟨Y06 [],(0,.mix 3 [(Y0K s153 [iV v159.1,.val (.int .u64 v159.2.1)])])::Y0 (Y5 (YH [])),7⟩) (wkP [(0,0),(1,1),(2,2),(6,3),(3,4),(4,5),(5,6)] hP) (Qe ?_)));clear hK K;cases h;(try dsimp only);first|refine iw_r (st':=⟨Y06 [],(0,.mix 3 [(Y0K s153 [iV v159.1,.val (.int .u64 v159.2.1)])])::Y0 (Y5 (YH [])),7⟩) ?_ ?_|refine iw_n (st':=⟨Y06 [],(0,.mix 3 [(Y0K s153 [iV v159.1,.val (.int .u64 v159.2.1)])])::Y0 (Y5 (YH [])),7⟩) ?_ ?_
       ·exact wkJ 7 hP
       exact⟨by simp[Qt],by simp,by simp[CN]⟩
      clear hv167;rcases v167 with v167|v167|v167|v167
      ·(try dsimp only at h);(try dsimp only);simp;(repeat with_reducible refine sdQ ?_);replace⟨v168,hv168,h⟩:=bind_some h;refine QL (fz:=[]) (Q17 _ v168 hv168) (.cons (.lits (es:=_) rfl (.cons rfl (.cons (.lits (es:=_) rfl (.cons rfl (.cons .val .nil) .nil) rfl) .nil) .nil) rfl) .nil) ?_;simp;(repeat refine sdQ ?_);refine hK _ (bn ?_);clear hK K;exact jn (b:=(s153.1,v167.1,v167.2,v168.1.on_.n,v168.1.on_.fr,v168.1.on_.to,v168.1.on_.id,v168.1.on_.cs,v168.1.unit_,v168.1.objects_,v168.1.arrows_,v168.2)) (yJ h) (wkP [(0,0),(1,1),(2,2),(6,3),(7,4),(8,5),(9,6),(11,7),(12,8)] hP)
      ·(try dsimp only at h);(try dsimp only);simp;(repeat with_reducible refine sdQ ?_);replace⟨v169,hv169,h⟩:=bind_some h;refine QL (fz:=[]) (Q17 _ v169 hv169) (.cons (.lits (es:=_) rfl (.cons rfl (.cons (.lits (es:=_) rfl (.cons rfl (.cons .val .nil) (.cons rfl (.cons .val .nil) .nil)) rfl) .nil) (.cons rfl (.cons (.lits (es:=_) rfl (.cons rfl (.cons .val .nil) (.cons rfl (.cons .val .nil) .nil)) rfl) .nil) .nil)) rfl) .nil) ?_;simp;(repeat refine sdQ ?_);refine hK _ (bn ?_);clear hK K;exact jn (b:=(s153.1,v167.1,v167.2.1,v169.1.on_.n,v169.1.on_.fr,v169.1.on_.to,v169.1.on_.id,v169.1.on_.cs,v169.1.unit_,v169.1.objects_,v169.1.arrows_,v169.2)) (yJ h) (wkP [(0,0),(1,1),(2,2),(7,3),(8,4),(9,5),(10,6),(12,7),(13,8)] hP)
      ·(try dsimp only at h);(try dsimp only);simp;(repeat with_reducible refine sdQ ?_);replace⟨v170,hv170,h⟩:=bind_some h;refine QL (fz:=[]) (Q17 _ v170 hv170) (.cons (.lits (es:=_) rfl (.cons rfl (.cons (.lits (es:=_) rfl (.cons rfl (.cons .val .nil) (.cons rfl (.cons .val .nil) (.cons rfl (.cons .val .nil) .nil))) rfl) .nil) (.cons rfl (.cons (.lits (es:=_) rfl (.cons rfl (.cons .val .nil) (.cons rfl (.cons .val .nil) (.cons rfl (.cons .val .nil) .nil))) rfl) .nil) (.cons rfl (.cons (.lits (es:=_) rfl (.cons rfl (.cons .val .nil) (.cons rfl (.cons .val .nil) (.cons rfl (.cons .val .nil) .nil))) rfl) .nil) .nil))) rfl) .nil) ?_;simp;(repeat refine sdQ ?_);refine hK _ (bn ?_);clear hK K;exact jn (b:=(s153.1,v167.1,v167.2.1,v170.1.on_.n,v170.1.on_.fr,v170.1.on_.to,v170.1.on_.id,v170.1.on_.cs,v170.1.unit_,v170.1.objects_,v170.1.arrows_,v170.2)) (yJ h) (wkP [(0,0),(1,1),(2,2),(8,3),(9,4),(10,5),(11,6),(13,7),(14,8)] hP)
      (try dsimp only at h);(try dsimp only);simp;(repeat with_reducible refine sdQ ?_);replace⟨v171,hv171,h⟩:=bind_some h;refine QL (fz:=[]) (Q17 _ v171 hv171) (.cons (.lits (es:=_) rfl (.cons rfl (.cons (.lits (es:=_) rfl (.cons rfl (.cons .val .nil) (.cons rfl (.cons .val .nil) (.cons rfl (.cons .val .nil) (.cons rfl (.cons .val .nil) .nil)))) rfl) .nil) (.cons rfl (.cons (.lits (es:=_) rfl (.cons rfl (.cons .val .nil) (.cons rfl (.cons .val .nil) (.cons rfl (.cons .val .nil) (.cons rfl (.cons .val .nil) .nil)))) rfl) .nil) (.cons rfl (.cons (.lits (es:=_) rfl (.cons rfl (.cons .val .nil) (.cons rfl (.cons .val .nil) (.cons rfl (.cons .val .nil) (.cons rfl (.cons .val .nil) .nil)))) rfl) .nil) (.cons rfl (.cons (.lits (es:=_) rfl (.cons rfl (.cons .val .nil) (.cons rfl (.cons .val .nil) (.cons rfl (.cons .val .nil) (.cons rfl (.cons .val .nil) .nil)))) rfl) .nil) .nil)))) rfl) .nil) ?_;simp;(repeat refine sdQ ?_);refine hK _ (bn ?_);clear hK K;exact jn (b:=(s153.1,v167.1,v167.2,v171.1.on_.n,v171.1.on_.fr,v171.1.on_.to,v171.1.on_.id,v171.1.on_.cs,v171.1.unit_,v171.1.objects_,v171.1.arrows_,v171.2)) (yJ h) (wkP [(0,0),(1,1),(2,2),(9,3),(10,4),(11,5),(12,6),(14,7),(15,8)] hP)
     have g157:¬(v155.2.2=0):=gQ;clear g;replace h:=if_r g157 h;refine Q0 (rxQ hN λK hK=>?_);simp;(repeat refine sdQ ?_);refine hK _ ?_;clear hK K;refine tn (Q7 rfl (λg=>?_) λg=>?_)
     ·have g172:v155.2.2=1:=gQ;clear g;replace h:=if_l g172 h;refine Q18 [] mo (by rw[hN];decide) λK hK=>?_;simp;(repeat with_reducible refine sdQ ?_);replace⟨v182,hv182,h⟩:=bind_some h;refine QG (fz:=[]) (Q1P (ts:=[2]) (e:=(match(generalizing:=false) v182 with|.inl v182=>{v:=.own 3 0 1,set:=[(0,.mix 3 [(Y0K s153 [iV v182.1,.val (.int .u64 v182.2)])])],del:=[],new:=[(3,.mix 1 [[.own 4 0 1]]),(4,.mix 1 [[iV 0]])],cnt:=2}|.inr (.inl v182)=>{v:=.own 3 0 2,set:=[(0,.mix 3 [(Y0K s153 [iV v182.1,.val (.int .u64 v182.2.1)])])],del:=[],new:=[(3,.mix 1 [[.own 4 0 2],[.own 5 0 2]]),(4,.mix 1 [[iV 0],[iV 1]]),(5,.mix 1 [[iV 1],[iV v182.2.2]])],cnt:=3}|.inr (.inr (.inl v182))=>{v:=.own 3 0 3,set:=[(0,.mix 3 [(Y0K s153 [iV v182.1,.val (.int .u64 v182.2.1)])])],del:=[],new:=[(3,.mix 1 [[.own 4 0 3],[.own 5 0 3],[.own 6 0 3]]),(4,.mix 1 [[iV 0],[iV 1],[iV 2]]),(5,.mix 1 [[iV 1],[iV v182.2.2.1],[iV v182.2.2.2.1]]),(6,.mix 1 [[iV 2],[iV v182.2.2.2.2.1],[iV v182.2.2.2.2.2]])],cnt:=4}|.inr (.inr (.inr v182))=>{v:=.own 3 0 4,set:=[(0,.mix 3 [(Y0K s153 [iV v182.1,.val (.int .u64 v182.2)])])],del:=[],new:=[(3,.mix 1 [[.own 4 0 4],[.own 5 0 4],[.own 6 0 4],[.own 7 0 4]]),(4,.mix 1 [[iV 0],[iV 1],[iV 2],[iV 3]]),(5,.mix 1 [[iV 1],[iV 0],[iV 2],[iV 3]]),(6,.mix 1 [[iV 2],[iV 3],[iV 2],[iV 3]]),(7,.mix 1 [[iV 3],[iV 2],[iV 2],[iV 3]])],cnt:=5})) Try.func153 rfl rfl rfl (by simp[Try.f153]) (by simp) (Q5r (by rcases v182 with v182|v182|v182|v182<;>simp)) (newI (by rcases v182 with v182|v182|v182|v182<;>rfl)) λF hN hP=>?_) ?_
      ·clear h;have h:=hv182;clear hv182;refine Q0 (rxQ hN λK hK=>?_);simp;(repeat refine sdQ ?_);refine hK _ ?_;clear hK K;refine tn (Q2 (st':=⟨[(0,.adr 0 0 0)],(0,.mix 3 [(Y0K s153 [iV v155.1,.val (.int .u64 v155.2.1)])])::Y0 [],3⟩) (wkJ 3 hP) (Q0 (Q0 (Q18 [] mo (by rw[hN];decide) λK hK=>?_))));simp;(repeat with_reducible refine sdQ ?_);replace⟨v174,hv174,h⟩:=bind_some h;refine QG (fz:=[]) (frQ (e:={v:=.val (.int .i64 v174.2.2),set:=[(0,.mix 3 [(Y0K s153 [iV v174.1,.val (.int .u64 v174.2.1)])])],del:=[],new:=[],cnt:=0}) (Qw 100 _ _ v174 hv174) [(0,0)]) ?_;simp;(repeat refine sdQ ?_);refine hK _ ?_;clear hK K;refine tn (Q2 (st':=⟨[(4,iV v174.2.2)],(0,.mix 3 [(Y0K s153 [iV v174.1,.val (.int .u64 v174.2.1)])])::Y0 [],3⟩) (wkJ 3 hP) (Q5 (Q0 (rxQ hN λK hK=>?_))));simp;(repeat refine sdQ ?_);refine hK _ ?_;clear hK K;refine tn (Q7 rfl (λg=>?_) λg=>?_)
       ·have g175:v174.2.2=0:=gQ;clear g;replace h:=if_l g175 h;refine Q0 (rxQ hN λK hK=>?_);simp;(repeat refine sdQ ?_);refine hK _ (tn (Q2 (st':=⟨[(2,.own 3 0 1)],(0,.mix 3 [(Y0K s153 [iV v174.1,.val (.int .u64 v174.2.1)])])::Y0 (YO []),5⟩) (wkP [(0,0),(1,1),(2,2),(4,3),(3,4)] hP) (Qe (br (tr ?_)))));clear hK K;cases h;(try dsimp only);first|refine iw_r (st':=⟨[(2,.own 3 0 1)],(0,.mix 3 [(Y0K s153 [iV v174.1,.val (.int .u64 v174.2.1)])])::Y0 (YO []),5⟩) ?_ ?_|refine iw_n (st':=⟨[(2,.own 3 0 1)],(0,.mix 3 [(Y0K s153 [iV v174.1,.val (.int .u64 v174.2.1)])])::Y0 (YO []),5⟩) ?_ ?_
        ·exact wkJ 5 hP
        exact⟨by simp[Qt],by simp,by simp[CN]⟩
       have g175:¬(v174.2.2=0):=gQ;clear g;replace h:=if_r g175 h;refine Q0 (rxQ hN λK hK=>?_);simp;(repeat refine sdQ ?_);refine hK _ ?_;clear hK K;refine tn (Q7 rfl (λg=>?_) λg=>?_)
       ·have g176:v174.2.2=1:=gQ;clear g;replace h:=if_l g176 h;refine Q0 (rxQ hN λK hK=>?_);simp;(repeat refine sdQ ?_);refine hK _ (tn (Q2 (st':=⟨Y0E [],(0,.mix 3 [(Y0K s153 [iV v174.1,.val (.int .u64 v174.2.1)])])::Y0 (Yn (Y0n [])),6⟩) (wkP [(0,0),(1,1),(2,2),(5,3),(3,4),(4,5)] hP) (Qe (br (tr ?_)))));clear hK K;cases h;(try dsimp only);first|refine iw_r (st':=⟨Y0E [],(0,.mix 3 [(Y0K s153 [iV v174.1,.val (.int .u64 v174.2.1)])])::Y0 (Yn (Y0n [])),6⟩) ?_ ?_|refine iw_n (st':=⟨Y0E [],(0,.mix 3 [(Y0K s153 [iV v174.1,.val (.int .u64 v174.2.1)])])::Y0 (Yn (Y0n [])),6⟩) ?_ ?_
        ·exact wkJ 6 hP
        exact⟨by simp[Qt],by simp,by simp[CN]⟩
       have g176:¬(v174.2.2=1):=gQ;clear g;replace h:=if_r g176 h;refine Q0 (rxQ hN λK hK=>?_);simp;(repeat refine sdQ ?_);refine hK _ ?_;clear hK K;refine tn (Q7 rfl (λg=>?_) λg=>?_)
       ·have g177:v174.2.2=2:=gQ;clear g;replace h:=if_l g177 h;refine Q0 (rxQ hN λK hK=>?_);simp;(repeat refine sdQ ?_);refine hK _ (tn (Q2 (st':=⟨Y0E [],(0,.mix 3 [(Y0K s153 [iV v174.1,.val (.int .u64 v174.2.1)])])::Y0 (Yn (Y0o [])),6⟩) (wkP [(0,0),(1,1),(2,2),(5,3),(3,4),(4,5)] hP) (Qe (br (tr ?_)))));clear hK K;cases h;(try dsimp only);first|refine iw_r (st':=⟨Y0E [],(0,.mix 3 [(Y0K s153 [iV v174.1,.val (.int .u64 v174.2.1)])])::Y0 (Yn (Y0o [])),6⟩) ?_ ?_|refine iw_n (st':=⟨Y0E [],(0,.mix 3 [(Y0K s153 [iV v174.1,.val (.int .u64 v174.2.1)])])::Y0 (Yn (Y0o [])),6⟩) ?_ ?_
        ·exact wkJ 6 hP
        exact⟨by simp[Qt],by simp,by simp[CN]⟩
       have g177:¬(v174.2.2=2):=gQ;clear g;replace h:=if_r g177 h;refine Q0 (rxQ hN λK hK=>?_);simp;(repeat refine sdQ ?_);refine hK _ ?_;clear hK K;refine tn (Q7 rfl (λg=>?_) λg=>?_)
       ·have g178:v174.2.2=3:=gQ;clear g;replace h:=if_l g178 h;refine Q0 (rxQ hN λK hK=>?_);simp;(repeat refine sdQ ?_);refine hK _ (tn (Q2 (st':=⟨Y06 [],(0,.mix 3 [(Y0K s153 [iV v174.1,.val (.int .u64 v174.2.1)])])::Y0 (Y5 (YE [])),7⟩) (wkP [(0,0),(1,1),(2,2),(6,3),(3,4),(4,5),(5,6)] hP) (Qe (br (tr ?_)))));clear hK K;cases h;(try dsimp only);first|refine iw_r (st':=⟨Y06 [],(0,.mix 3 [(Y0K s153 [iV v174.1,.val (.int .u64 v174.2.1)])])::Y0 (Y5 (YE [])),7⟩) ?_ ?_|refine iw_n (st':=⟨Y06 [],(0,.mix 3 [(Y0K s153 [iV v174.1,.val (.int .u64 v174.2.1)])])::Y0 (Y5 (YE [])),7⟩) ?_ ?_
        ·exact wkJ 7 hP
        exact⟨by simp[Qt],by simp,by simp[CN]⟩
       have g178:¬(v174.2.2=3):=gQ;clear g;replace h:=if_r g178 h;refine Q0 (rxQ hN λK hK=>?_);simp;(repeat refine sdQ ?_);refine hK _ ?_;clear hK K;refine tn (Q7 rfl (λg=>?_) λg=>?_)
       ·have g179:v174.2.2=4:=gQ;clear g;replace h:=if_l g179 h;refine Q0 (rxQ hN λK hK=>?_);simp;(repeat refine sdQ ?_);refine hK _ (tn (Q2 (st':=⟨Y06 [],(0,.mix 3 [(Y0K s153 [iV v174.1,.val (.int .u64 v174.2.1)])])::Y0 (Y5 (YF [])),7⟩) (wkP [(0,0),(1,1),(2,2),(6,3),(3,4),(4,5),(5,6)] hP) (Qe (br (tr ?_)))));clear hK K;cases h;(try dsimp only);first|refine iw_r (st':=⟨Y06 [],(0,.mix 3 [(Y0K s153 [iV v174.1,.val (.int .u64 v174.2.1)])])::Y0 (Y5 (YF [])),7⟩) ?_ ?_|refine iw_n (st':=⟨Y06 [],(0,.mix 3 [(Y0K s153 [iV v174.1,.val (.int .u64 v174.2.1)])])::Y0 (Y5 (YF [])),7⟩) ?_ ?_
        ·exact wkJ 7 hP
        exact⟨by simp[Qt],by simp,by simp[CN]⟩
       have g179:¬(v174.2.2=4):=gQ;clear g;replace h:=if_r g179 h;refine Q0 (rxQ hN λK hK=>?_);simp;(repeat refine sdQ ?_);refine hK _ ?_;clear hK K;refine tn (Q7 rfl (λg=>?_) λg=>?_)
       ·have g180:v174.2.2=5:=gQ;clear g;replace h:=if_l g180 h;refine Q0 (rxQ hN λK hK=>?_);simp;(repeat refine sdQ ?_);refine hK _ (tn (Q2 (st':=⟨Y06 [],(0,.mix 3 [(Y0K s153 [iV v174.1,.val (.int .u64 v174.2.1)])])::Y0 (Y5 (YG [])),7⟩) (wkP [(0,0),(1,1),(2,2),(6,3),(3,4),(4,5),(5,6)] hP) (Qe (br (tr ?_)))));clear hK K;cases h;(try dsimp only);first|refine iw_r (st':=⟨Y06 [],(0,.mix 3 [(Y0K s153 [iV v174.1,.val (.int .u64 v174.2.1)])])::Y0 (Y5 (YG [])),7⟩) ?_ ?_|refine iw_n (st':=⟨Y06 [],(0,.mix 3 [(Y0K s153 [iV v174.1,.val (.int .u64 v174.2.1)])])::Y0 (Y5 (YG [])),7⟩) ?_ ?_
        ·exact wkJ 7 hP
        exact⟨by simp[Qt],by simp,by simp[CN]⟩
       have g180:¬(v174.2.2=5):=gQ;clear g;replace h:=if_r g180 h;refine Q0 (rxQ hN λK hK=>?_);simp;(repeat refine sdQ ?_);refine hK _ ?_;clear hK K;refine tn (Q7 rfl (λg=>?_) λg=>?_)
       ·have g181:v174.2.2=6:=gQ;clear g;replace h:=if_l g181 h;refine Q0 (rxQ hN λK hK=>?_);simp;(repeat refine sdQ ?_);refine hK _ (tn (Q2 (st':=⟨[(2,.own 3 0 4)],(0,.mix 3 [(Y0K s153 [iV v174.1,.val (.int .u64 v174.2.1)])])::Y0 (Y8 []),8⟩) (wkP [(0,0),(1,1),(2,2),(7,3),(3,4),(4,5),(5,6),(6,7)] hP) (Qe (br (tr ?_)))));clear hK K;cases h;(try dsimp only);first|refine iw_r (st':=⟨[(2,.own 3 0 4)],(0,.mix 3 [(Y0K s153 [iV v174.1,.val (.int .u64 v174.2.1)])])::Y0 (Y8 []),8⟩) ?_ ?_|refine iw_n (st':=⟨[(2,.own 3 0 4)],(0,.mix 3 [(Y0K s153 [iV v174.1,.val (.int .u64 v174.2.1)])])::Y0 (Y8 []),8⟩) ?_ ?_
        ·exact wkJ 8 hP
        exact⟨by simp[Qt],by simp,by simp[CN]⟩
       have g181:¬(v174.2.2=6):=gQ;clear g;replace h:=if_r g181 h;refine Q8 (bn (tn (Q0 (rxQ hN λK hK=>?_))));simp;(repeat refine sdQ ?_);refine hK _ (tn (Q2 (st':=⟨Y06 [],(0,.mix 3 [(Y0K s153 [iV v174.1,.val (.int .u64 v174.2.1)])])::Y0 (Y5 (YH [])),7⟩) (wkP [(0,0),(1,1),(2,2),(6,3),(3,4),(4,5),(5,6)] hP) (Qe ?_)));clear hK K;cases h;(try dsimp only);first|refine iw_r (st':=⟨Y06 [],(0,.mix 3 [(Y0K s153 [iV v174.1,.val (.int .u64 v174.2.1)])])::Y0 (Y5 (YH [])),7⟩) ?_ ?_|refine iw_n (st':=⟨Y06 [],(0,.mix 3 [(Y0K s153 [iV v174.1,.val (.int .u64 v174.2.1)])])::Y0 (Y5 (YH [])),7⟩) ?_ ?_
       ·exact wkJ 7 hP
       exact⟨by simp[Qt],by simp,by simp[CN]⟩
      clear hv182;rcases v182 with v182|v182|v182|v182
      ·(try dsimp only at h);(try dsimp only);simp;(repeat with_reducible refine sdQ ?_);replace⟨v183,hv183,h⟩:=bind_some h;refine QL (fz:=[]) (Q19 _ v183 hv183) (.cons (.lits (es:=_) rfl (.cons rfl (.cons (.lits (es:=_) rfl (.cons rfl (.cons .val .nil) .nil) rfl) .nil) .nil) rfl) .nil) ?_;simp;(repeat refine sdQ ?_);refine hK _ (bn ?_);clear hK K;exact jn (b:=(s153.1,v182.1,v182.2,v183.1.on_.n,v183.1.on_.fr,v183.1.on_.to,v183.1.on_.id,v183.1.on_.cs,v183.1.unit_,v183.1.objects_,v183.1.arrows_,v183.2)) (yJ h) (wkP [(0,0),(1,1),(2,2),(6,3),(7,4),(8,5),(9,6),(11,7),(12,8)] hP)
      ·(try dsimp only at h);(try dsimp only);simp;(repeat with_reducible refine sdQ ?_);replace⟨v184,hv184,h⟩:=bind_some h;refine QL (fz:=[]) (Q19 _ v184 hv184) (.cons (.lits (es:=_) rfl (.cons rfl (.cons (.lits (es:=_) rfl (.cons rfl (.cons .val .nil) (.cons rfl (.cons .val .nil) .nil)) rfl) .nil) (.cons rfl (.cons (.lits (es:=_) rfl (.cons rfl (.cons .val .nil) (.cons rfl (.cons .val .nil) .nil)) rfl) .nil) .nil)) rfl) .nil) ?_;simp;(repeat refine sdQ ?_);refine hK _ (bn ?_);clear hK K;exact jn (b:=(s153.1,v182.1,v182.2.1,v184.1.on_.n,v184.1.on_.fr,v184.1.on_.to,v184.1.on_.id,v184.1.on_.cs,v184.1.unit_,v184.1.objects_,v184.1.arrows_,v184.2)) (yJ h) (wkP [(0,0),(1,1),(2,2),(7,3),(8,4),(9,5),(10,6),(12,7),(13,8)] hP)
      ·(try dsimp only at h);(try dsimp only);simp;(repeat with_reducible refine sdQ ?_);replace⟨v185,hv185,h⟩:=bind_some h;refine QL (fz:=[]) (Q19 _ v185 hv185) (.cons (.lits (es:=_) rfl (.cons rfl (.cons (.lits (es:=_) rfl (.cons rfl (.cons .val .nil) (.cons rfl (.cons .val .nil) (.cons rfl (.cons .val .nil) .nil))) rfl) .nil) (.cons rfl (.cons (.lits (es:=_) rfl (.cons rfl (.cons .val .nil) (.cons rfl (.cons .val .nil) (.cons rfl (.cons .val .nil) .nil))) rfl) .nil) (.cons rfl (.cons (.lits (es:=_) rfl (.cons rfl (.cons .val .nil) (.cons rfl (.cons .val .nil) (.cons rfl (.cons .val .nil) .nil))) rfl) .nil) .nil))) rfl) .nil) ?_;simp;(repeat refine sdQ ?_);refine hK _ (bn ?_);clear hK K;exact jn (b:=(s153.1,v182.1,v182.2.1,v185.1.on_.n,v185.1.on_.fr,v185.1.on_.to,v185.1.on_.id,v185.1.on_.cs,v185.1.unit_,v185.1.objects_,v185.1.arrows_,v185.2)) (yJ h) (wkP [(0,0),(1,1),(2,2),(8,3),(9,4),(10,5),(11,6),(13,7),(14,8)] hP)
      (try dsimp only at h);(try dsimp only);simp;(repeat with_reducible refine sdQ ?_);replace⟨v186,hv186,h⟩:=bind_some h;refine QL (fz:=[]) (Q19 _ v186 hv186) (.cons (.lits (es:=_) rfl (.cons rfl (.cons (.lits (es:=_) rfl (.cons rfl (.cons .val .nil) (.cons rfl (.cons .val .nil) (.cons rfl (.cons .val .nil) (.cons rfl (.cons .val .nil) .nil)))) rfl) .nil) (.cons rfl (.cons (.lits (es:=_) rfl (.cons rfl (.cons .val .nil) (.cons rfl (.cons .val .nil) (.cons rfl (.cons .val .nil) (.cons rfl (.cons .val .nil) .nil)))) rfl) .nil) (.cons rfl (.cons (.lits (es:=_) rfl (.cons rfl (.cons .val .nil) (.cons rfl (.cons .val .nil) (.cons rfl (.cons .val .nil) (.cons rfl (.cons .val .nil) .nil)))) rfl) .nil) (.cons rfl (.cons (.lits (es:=_) rfl (.cons rfl (.cons .val .nil) (.cons rfl (.cons .val .nil) (.cons rfl (.cons .val .nil) (.cons rfl (.cons .val .nil) .nil)))) rfl) .nil) .nil)))) rfl) .nil) ?_;simp;(repeat refine sdQ ?_);refine hK _ (bn ?_);clear hK K;exact jn (b:=(s153.1,v182.1,v182.2,v186.1.on_.n,v186.1.on_.fr,v186.1.on_.to,v186.1.on_.id,v186.1.on_.cs,v186.1.unit_,v186.1.objects_,v186.1.arrows_,v186.2)) (yJ h) (wkP [(0,0),(1,1),(2,2),(9,3),(10,4),(11,5),(12,6),(14,7),(15,8)] hP)
     have g172:¬(v155.2.2=1):=gQ;clear g;replace h:=if_r g172 h;refine Q0 (rxQ hN λK hK=>?_);simp;(repeat refine sdQ ?_);refine hK _ ?_;clear hK K;refine tn (Q7 rfl (λg=>?_) λg=>?_)
     ·have g187:v155.2.2=2:=gQ;clear g;replace h:=if_l g187 h;refine Q0 (Q18 [] mo (by rw[hN];decide) λK hK=>?_);simp;(repeat with_reducible refine sdQ ?_);replace⟨v188,hv188,h⟩:=bind_some h;refine QG (fz:=[]) (frQ (e:={v:=.val (.int .i64 v188.2.2),set:=[(0,.mix 3 [(Y0K s153 [iV v188.1,.val (.int .u64 v188.2.1)])])],del:=[],new:=[],cnt:=0}) (Qw 100 _ _ v188 hv188) [(0,0)]) ?_;replace⟨a189,h⟩:=Q1 h;simp[Qh a189];(repeat refine sdQ ?_);refine hK _ ?_;clear hK K;refine tn (Q2 (st':=⟨Yb s153 [(6,iV (2+v188.2.2))],(0,.mix 3 [(Y0K s153 [iV v188.1,.val (.int .u64 v188.2.1)])])::Y0 [],3⟩) (wkJ 3 hP) (Q0 (rxQ hN λK hK=>?_)));simp;(repeat refine sdQ ?_);refine hK _ ?_;clear hK K;refine tn (Q2 (st':=⟨Yb s153 [(6,iV (2+v188.2.2)),(7,.own 3 0 0),(8,.own 4 0 0)],(0,.mix 3 [(Y0K s153 [iV v188.1,.val (.int .u64 v188.2.1)])])::Y0 [(3,.mix 1 []),(4,.mix 1 [])],5⟩) (wkJ 5 hP) (Q0 (Q0 (rxQ hN λK hK=>?_))));simp;(repeat refine sdQ ?_);refine hK _ (tn (Q2 (st':=⟨Yb s153 [(6,iV (2+v188.2.2)),(7,.own 3 0 0),(8,.own 4 0 0),(9,iV 0)],(0,.mix 3 [(Y0K s153 [iV v188.1,.val (.int .u64 v188.2.1)])])::Y0 [(3,.mix 1 []),(4,.mix 1 [])],5⟩) (wkJ 5 hP) ?_));clear hK K;replace⟨e190,h,h190⟩:=bind_some h;refine Q9 (λb190:List (List Int)×List (List Int)=>⟨Yb s153 [(7,.own 3 0 b190.1.length),(8,.own 4 0 b190.2.length)],(0,.mix 3 [(Y0K s153 [iV v188.1,.val (.int .u64 v188.2.1)])])::Y0 [(3,.row 1 (Ls b190.1)),(4,.row 1 (Ls b190.2))],5⟩) (λb190=>b190=e190) ?_ ?_
      ·refine Q5 (Qj h (λs208:List (List Int)×List (List Int)×Int=>⟨Yb s153 ((6,iV (2+v188.2.2))::YJ s208 []),(0,.mix 3 [(Y0K s153 [iV v188.1,.val (.int .u64 v188.2.1)])])::Y0 (Y01 s208 []),5⟩) (Q2Y ⟨Yb s153 [(6,iV (2+v188.2.2)),(7,.own 3 0 0),(8,.own 4 0 0),(9,iV 0)],(0,.mix 3 [(Y0K s153 [iV v188.1,.val (.int .u64 v188.2.1)])])::Y0 [(3,.row 1 (Ls [])),(4,.row 1 (Ls []))],5⟩ (nlQ []) (wkJ 5 hP)) ?_);clear h;intro k208 s208 c208 h hk208;refine Q0 (Q0 (rxQ hN λK hK=>?_));simp;(repeat refine sdQ ?_);refine hK _ ?_;clear hK K;refine tn (Q7 rfl (λg=>?_) λg=>?_)
       ·have g209:s208.2.2<(2+v188.2.2):=gQ;clear g;replace h:=if_l g209 h;refine Q8 (tn (Q0 (Q5 (Q0 (rxQ hN λK hK=>?_)))));simp;(repeat refine sdQ ?_);refine hK _ ?_;clear hK K;refine tn (Q2 (st':=⟨Yb s153 ((6,iV (2+v188.2.2))::YJ s208 [(10,.own 5 0 0),(11,.own 6 0 0)]),(0,.mix 3 [(Y0K s153 [iV v188.1,.val (.int .u64 v188.2.1)])])::Y0 (Y01 s208 (YW [])),7⟩) (wkJ 7 hP) (Q0 (Q0 (rxQ hN λK hK=>?_))));simp;(repeat refine sdQ ?_);refine hK _ (tn (Q2 (st':=⟨Yb s153 ((6,iV (2+v188.2.2))::YJ s208 [(10,.own 5 0 0),(11,.own 6 0 0),(12,iV 0)]),(0,.mix 3 [(Y0K s153 [iV v188.1,.val (.int .u64 v188.2.1)])])::Y0 (Y01 s208 (YW [])),7⟩) (wkJ 7 hP) ?_));clear hK K;replace⟨e210,h,h210⟩:=bind_some h;refine Q9 (λb210:List Int×List Int=>⟨Yb s153 ((6,iV (2+v188.2.2))::YJ s208 [(10,.own 5 0 b210.1.length),(11,.own 6 0 b210.2.length)]),(0,.mix 3 [(Y0K s153 [iV v188.1,.val (.int .u64 v188.2.1)])])::Y0 (Y01 s208 [(5,rI b210.1),(6,rI b210.2)]),7⟩) (λb210=>b210=e210) ?_ ?_
        ·refine Q5 (Qj h (λs217:List Int×List Int×Int=>⟨Yb s153 ((6,iV (2+v188.2.2))::YJ s208 [(10,.own 5 0 s217.1.length),(11,.own 6 0 s217.2.1.length),(12,iV s217.2.2)]),(0,.mix 3 [(Y0K s153 [iV v188.1,.val (.int .u64 v188.2.1)])])::Y0 (Y01 s208 [(5,rI s217.1),(6,rI s217.2.1)]),7⟩) (Q2Y ⟨Yb s153 ((6,iV (2+v188.2.2))::YJ s208 [(10,.own 5 0 0),(11,.own 6 0 0),(12,iV 0)]),(0,.mix 3 [(Y0K s153 [iV v188.1,.val (.int .u64 v188.2.1)])])::Y0 (Y01 s208 [(5,rI []),(6,rI [])]),7⟩ (nlQ []) (wkJ 7 hP)) ?_);clear h;intro k217 s217 c217 h hk217;refine Q0 (Q0 (rxQ hN λK hK=>?_));simp;(repeat refine sdQ ?_);refine hK _ ?_;clear hK K;refine tn (Q7 rfl (λg=>?_) λg=>?_)
         ·have g218:s217.2.2<(2+v188.2.2):=gQ;clear g;replace h:=if_l g218 h;refine Q8 (tn (Q0 (Q5 (Q0 (rxQ hN λK hK=>?_)))));simp;(repeat refine sdQ ?_);refine hK _ ?_;clear hK K;refine tn (Q2 (st':=⟨Yb s153 ((6,iV (2+v188.2.2))::YJ s208 [(10,.own 5 0 s217.1.length),(11,.own 6 0 s217.2.1.length),(12,iV s217.2.2),(13,iV 0)]),(0,.mix 3 [(Y0K s153 [iV v188.1,.val (.int .u64 v188.2.1)])])::Y0 (Y01 s208 [(5,rI s217.1),(6,rI s217.2.1)]),7⟩) (wkJ 7 hP) (Q0 (Q0 (rxQ hN λK hK=>?_))));simp;(repeat refine sdQ ?_);refine hK _ (tn ?_);clear hK K;replace⟨e219,h,h219⟩:=bind_some h;refine Q9 (λb219:Int=>⟨Yb s153 ((6,iV (2+v188.2.2))::YJ s208 [(10,.own 5 0 s217.1.length),(11,.own 6 0 s217.2.1.length),(12,iV s217.2.2),(13,iV b219)]),(0,.mix 3 [(Y0K s153 [iV v188.1,.val (.int .u64 v188.2.1)])])::Y0 (Y01 s208 [(5,rI s217.1),(6,rI s217.2.1)]),7⟩) (λb219=>b219=e219) ?_ ?_
          ·refine Q7 rfl (λg=>?_) λg=>?_
           ·have g220:s208.2.2≤s217.2.2:=gQ;clear g;replace h:=if_l g220 h;refine rxQ hN λK hK=>?_;simp;(repeat refine sdQ ?_);refine hK _ ?_;clear hK K;exact jn (b:=1) (yJ h) (wkJ 7 hP)
           have g220:¬(s208.2.2≤s217.2.2):=gQ;clear g;replace h:=if_r g220 h;refine Q8 ?_;exact jn (b:=0) (yJ h) (wkJ 7 hP)
          intro b219 hb219;have h:=h219;(try rw[←hb219]at h);clear h219;(try dsimp only at h);refine Q0 (rxQ hN λK hK=>?_);replace⟨a221,h⟩:=Q1 h;(try simp only[qD,qH,zX]at a221);simp[a221];(repeat refine sdQ ?_);refine hK _ ?_;clear hK K;refine tn (Q2 (st':=⟨Yb s153 ((6,iV (2+v188.2.2))::YJ s208 [(10,.own 5 0 ((s217.1++[b219]).length)),(11,.own 6 0 s217.2.1.length),(12,iV s217.2.2)]),(0,.mix 3 [(Y0K s153 [iV v188.1,.val (.int .u64 v188.2.1)])])::Y0 (Y01 s208 [(5,rI (s217.1++[b219])),(6,rI s217.2.1)]),7⟩) (wkP [(0,0),(1,1),(2,2),(3,3),(4,4),(8,5),(6,6)] hP) (rxQ hN λK hK=>?_));replace⟨a222,h⟩:=Q1 h;(try simp only[qD,qH,zX]at a222);simp[a222];(repeat refine sdQ ?_);refine hK _ ?_;clear hK K;refine bn (tn (Q2 (st':=⟨Yb s153 ((6,iV (2+v188.2.2))::YJ s208 [(10,.own 5 0 ((s217.1++[b219]).length)),(11,.own 6 0 ((s217.2.1++[(if s217.2.2>s208.2.2 then s217.2.2 else s208.2.2)]).length)),(12,iV s217.2.2)]),(0,.mix 3 [(Y0K s153 [iV v188.1,.val (.int .u64 v188.2.1)])])::Y0 (Y01 s208 [(5,rI (s217.1++[b219])),(6,rI (s217.2.1++[(if s217.2.2>s208.2.2 then s217.2.2 else s208.2.2)]))]),7⟩) (wkP [(0,0),(1,1),(2,2),(3,3),(4,4),(5,5),(8,6)] hP) (rxQ hN λK hK=>?_)));replace⟨a223,h⟩:=Q1 h;simp[Qh a223];(repeat refine sdQ ?_);refine hK _ ?_;clear hK K;cases h;exact rn (s':=(s217.1++[b219],s217.2.1++[(if s217.2.2>s208.2.2 then s217.2.2 else s208.2.2)],s217.2.2+1)) hk217 (wkJ 7 hP)
         have g218:¬(s217.2.2<(2+v188.2.2)):=gQ;clear g;replace h:=if_r g218 h;refine Ql (tx (lx (bh ?_)));cases h;exact jn (b:=(s217.1,s217.2.1)) hk217 (wkJ 7 hP)
        intro b210 hb210;have h:=h210;(try rw[←hb210]at h);clear h210;(try dsimp only at h);refine Q0 (rxQ hN λK hK=>?_);replace⟨a224,h⟩:=Q1 h;(try simp only[qD,qH,zX]at a224);simp[a224];(repeat refine sdQ ?_);refine hK _ ?_;clear hK K;refine tn (Q2 (st':=⟨Yb s153 [(6,iV (2+v188.2.2)),(7,.own 3 0 ((s208.1++[b210.1]).length)),(8,.own 4 0 s208.2.1.length),(9,iV s208.2.2),(11,.own 5 0 b210.2.length)],(0,.mix 3 [(Y0K s153 [iV v188.1,.val (.int .u64 v188.2.1)])])::Y0 [(3,.row 1 (Ls (s208.1++[b210.1]))),(4,.row 1 (Ls s208.2.1)),(5,rI b210.2)],6⟩) (wkP [(0,0),(1,1),(2,2),(8,3),(4,4),(6,5)] hP) (rxQ hN λK hK=>?_));replace⟨a225,h⟩:=Q1 h;(try simp only[qD,qH,zX]at a225);simp[a225];(repeat refine sdQ ?_);refine hK _ ?_;clear hK K;refine bn (tn (Q2 (st':=⟨Yb s153 [(6,iV (2+v188.2.2)),(7,.own 3 0 ((s208.1++[b210.1]).length)),(8,.own 4 0 ((s208.2.1++[b210.2]).length)),(9,iV s208.2.2)],(0,.mix 3 [(Y0K s153 [iV v188.1,.val (.int .u64 v188.2.1)])])::Y0 [(3,.row 1 (Ls (s208.1++[b210.1]))),(4,.row 1 (Ls (s208.2.1++[b210.2])))],5⟩) (wkP [(0,0),(1,1),(2,2),(3,3),(7,4)] hP) (rxQ hN λK hK=>?_)));replace⟨a226,h⟩:=Q1 h;simp[Qh a226];(repeat refine sdQ ?_);refine hK _ ?_;clear hK K;cases h;exact rn (s':=(s208.1++[b210.1],s208.2.1++[b210.2],s208.2.2+1)) hk208 (wkJ 5 hP)
       have g209:¬(s208.2.2<(2+v188.2.2)):=gQ;clear g;replace h:=if_r g209 h;refine Ql (tx (lx (bh ?_)));cases h;exact jn (b:=(s208.1,s208.2.1)) hk208 (wkJ 5 hP)
      intro b190 hb190;have h:=h190;(try rw[←hb190]at h);clear h190;(try dsimp only at h);refine Q0 (Q0 (Q18 [] mo (by rw[hN];decide) λK hK=>?_));simp;(repeat with_reducible refine sdQ ?_);replace⟨v227,hv227,h⟩:=bind_some h;refine QG (fz:=[]) (frQ (e:={v:=.val (.int .i64 v227.2.2),set:=[(0,.mix 3 [(Y0K s153 [iV v227.1,.val (.int .u64 v227.2.1)])])],del:=[],new:=[],cnt:=0}) (Qw 100 _ _ v227 hv227) [(0,0)]) ?_;simp;(repeat refine sdQ ?_);refine hK _ (tn (Q2 (st':=⟨Yb s153 [(7,.own 3 0 b190.1.length),(8,.own 4 0 b190.2.length),(98,.val (.bool (v227.2.2==0)))],(0,.mix 3 [(Y0K s153 [iV v227.1,.val (.int .u64 v227.2.1)])])::Y0 [(3,.row 1 (Ls b190.1)),(4,.row 1 (Ls b190.2))],5⟩) (wkJ 5 hP) ?_));clear hK K;replace⟨e228,h,h228⟩:=bind_some h;refine Q9 (λb228:List (List Int)=>⟨Yb s153 [(7,.own 3 0 b228.length),(8,.own 4 0 b190.2.length)],(0,.mix 3 [(Y0K s153 [iV v227.1,.val (.int .u64 v227.2.1)])])::Y0 [(3,.row 1 (Ls b228)),(4,.row 1 (Ls b190.2))],5⟩) (λb228=>b228=e228) ?_ ?_
      ·refine Q7 rfl (λg=>?_) λg=>?_
       ·have g229:v227.2.2=0:=gQ;clear g;replace h:=if_l g229 h;refine Q0 (rxQ hN λK hK=>?_);simp;(repeat refine sdQ ?_);refine hK _ (tn (Q2 (st':=⟨Yb s153 [(7,.own 3 0 b190.1.length),(8,.own 4 0 b190.2.length),(14,iV 0)],(0,.mix 3 [(Y0K s153 [iV v227.1,.val (.int .u64 v227.2.1)])])::Y0 [(3,.row 1 (Ls b190.1)),(4,.row 1 (Ls b190.2))],5⟩) (wkJ 5 hP) (Q5 ?_)));clear hK K;replace⟨e259,he259,h259⟩:=bind_some h;refine Qj he259 (λs259:List (List Int)×Int=>⟨Yb s153 [(7,.own 3 0 s259.1.length),(8,.own 4 0 b190.2.length),(14,iV s259.2)],(0,.mix 3 [(Y0K s153 [iV v227.1,.val (.int .u64 v227.2.1)])])::Y0 [(3,.row 1 (Ls s259.1)),(4,.row 1 (Ls b190.2))],5⟩) (wkJ 5 hP) ?_;intro k259 s259 c259 h hk259;refine Q0 (Q0 (rxQ hN λK hK=>?_));simp;(repeat refine sdQ ?_);refine hK _ ?_;clear hK K;refine tn (Q7 rfl (λg=>?_) λg=>?_)
        ·have g260:s259.2<(s259.1.length:Int):=gQ;clear g;replace h:=if_l g260 h;refine Q8 (tn (Q0 ?_));replace⟨e261,h,h261⟩:=bind_some h;refine Q9 (λb261:List (List Int)=>⟨Yb s153 [(7,.own 3 0 b261.length),(8,.own 4 0 b190.2.length),(14,iV s259.2)],(0,.mix 3 [(Y0K s153 [iV v227.1,.val (.int .u64 v227.2.1)])])::Y0 [(3,.row 1 (Ls b261)),(4,.row 1 (Ls b190.2))],5⟩) (λb261=>b261=e261) ?_ ?_
         ·refine Q5 (Q0 (rxQ hN λK hK=>?_));simp;(repeat refine sdQ ?_);refine hK _ (tn (Q2 (st':=⟨Yb s153 [(7,.own 3 0 s259.1.length),(8,.own 4 0 b190.2.length),(14,iV s259.2),(15,iV 0)],(0,.mix 3 [(Y0K s153 [iV v227.1,.val (.int .u64 v227.2.1)])])::Y0 [(3,.row 1 (Ls s259.1)),(4,.row 1 (Ls b190.2))],5⟩) (wkJ 5 hP) (Q5 ?_)));clear hK K;replace⟨e272,he272,h272⟩:=bind_some h;refine Qj he272 (λs272:List (List Int)×Int=>⟨Yb s153 [(7,.own 3 0 s272.1.length),(8,.own 4 0 b190.2.length),(14,iV s259.2),(15,iV s272.2)],(0,.mix 3 [(Y0K s153 [iV v227.1,.val (.int .u64 v227.2.1)])])::Y0 [(3,.row 1 (Ls s272.1)),(4,.row 1 (Ls b190.2))],5⟩) (wkJ 5 hP) ?_;intro k272 s272 c272 h hk272;refine Q0 (Q0 (rxQ hN λK hK=>?_));simp;(repeat refine sdQ ?_);refine hK _ ?_;clear hK K;refine tn (Q7 rfl (λg=>?_) λg=>?_)
          ·have g273:s272.2<s259.2:=gQ;clear g;replace h:=if_l g273 h;refine Q8 (tn (Q0 (Q5 (Q0 (rxQ hN λK hK=>?_)))));replace⟨a274,h⟩:=Q1 h;replace⟨a275,h⟩:=Q1 h;simp[at_L a274,at_I a275];(repeat refine sdQ ?_);refine hK _ ?_;clear hK K;refine tn (Q2 (st':=⟨Yb s153 [(7,.own 3 0 s272.1.length),(8,.own 4 0 b190.2.length),(14,iV s259.2),(15,iV s272.2),(16,iV (ix (rx s272.1 s259.2) s272.2))],(0,.mix 3 [(Y0K s153 [iV v227.1,.val (.int .u64 v227.2.1)])])::Y0 [(3,.row 1 (Ls s272.1)),(4,.row 1 (Ls b190.2))],5⟩) (wkJ 5 hP) (Q0 (rxQ hN λK hK=>?_)));replace⟨a276,h⟩:=Q1 h;replace⟨a277,h⟩:=Q1 h;replace⟨a278,h⟩:=Q1 h;replace⟨a279,h⟩:=Q1 h;simp[at_L a276,at_L a277,at_I a278,at_I a279];(repeat refine sdQ ?_);refine hK _ ?_;clear hK K;refine tn (Q2 (st':=⟨Yb s153 [(7,.own 3 0 ((s272.1.set s259.2.toNat ((rx s272.1 s259.2).set s272.2.toNat (ix (rx s272.1 s272.2) s259.2))).length)),(8,.own 4 0 b190.2.length),(14,iV s259.2),(15,iV s272.2),(16,iV (ix (rx s272.1 s259.2) s272.2))],(0,.mix 3 [(Y0K s153 [iV v227.1,.val (.int .u64 v227.2.1)])])::Y0 [(3,.row 1 (Ls (s272.1.set s259.2.toNat ((rx s272.1 s259.2).set s272.2.toNat (ix (rx s272.1 s272.2) s259.2))))),(4,.row 1 (Ls b190.2))],5⟩) (wkJ 5 hP) (rxQ hN λK hK=>?_));replace⟨a280,h⟩:=Q1 h;replace⟨a281,h⟩:=Q1 h;simp[at_L a280,at_I a281];(repeat refine sdQ ?_);refine hK _ ?_;clear hK K;refine bn (tn (Q2 (st':=⟨Yb s153 [(7,.own 3 0 (((s272.1.set s259.2.toNat ((rx s272.1 s259.2).set s272.2.toNat (ix (rx s272.1 s272.2) s259.2))).set s272.2.toNat ((rx (s272.1.set s259.2.toNat ((rx s272.1 s259.2).set s272.2.toNat (ix (rx s272.1 s272.2) s259.2))) s272.2).set s259.2.toNat (ix (rx s272.1 s259.2) s272.2))).length)),(8,.own 4 0 b190.2.length),(14,iV s259.2),(15,iV s272.2)],(0,.mix 3 [(Y0K s153 [iV v227.1,.val (.int .u64 v227.2.1)])])::Y0 [(3,.row 1 (Ls ((s272.1.set s259.2.toNat ((rx s272.1 s259.2).set s272.2.toNat (ix (rx s272.1 s272.2) s259.2))).set s272.2.toNat ((rx (s272.1.set s259.2.toNat ((rx s272.1 s259.2).set s272.2.toNat (ix (rx s272.1 s272.2) s259.2))) s272.2).set s259.2.toNat (ix (rx s272.1 s259.2) s272.2))))),(4,.row 1 (Ls b190.2))],5⟩) (wkJ 5 hP) (rxQ hN λK hK=>?_)));replace⟨a282,h⟩:=Q1 h;simp[Qh a282];(repeat refine sdQ ?_);refine hK _ ?_;clear hK K
           cases h;exact rn (s':=((s272.1.set s259.2.toNat ((rx s272.1 s259.2).set s272.2.toNat (ix (rx s272.1 s272.2) s259.2))).set s272.2.toNat ((rx (s272.1.set s259.2.toNat ((rx s272.1 s259.2).set s272.2.toNat (ix (rx s272.1 s272.2) s259.2))) s272.2).set s259.2.toNat (ix (rx s272.1 s259.2) s272.2)),s272.2+1)) hk272 (wkJ 5 hP)
          have g273:¬(s272.2<s259.2):=gQ;clear g;replace h:=if_r g273 h;refine Ql (tx (lx (bh (bn ?_))));cases h;have q:_=e272:=hk272;have h:=h272;rw[←q]at h;clear q;(try dsimp only at h);exact jn (b:=s272.1) (yJ h) (wkJ 5 hP)
         intro b261 hb261;have h:=h261;(try rw[←hb261]at h);clear h261;(try dsimp only at h);refine rxQ hN λK hK=>?_;replace⟨a283,h⟩:=Q1 h;simp[Qh a283];(repeat refine sdQ ?_);refine hK _ ?_;clear hK K;cases h;exact rn (s':=(b261,s259.2+1)) hk259 (wkJ 5 hP)
        have g260:¬(s259.2<(s259.1.length:Int)):=gQ;clear g;replace h:=if_r g260 h;refine Ql (tx (lx (bh ?_)));cases h;have q:_=e259:=hk259;have h:=h259;rw[←q]at h;clear q;(try dsimp only at h);exact jn (b:=s259.1) (yJ h) (wkJ 5 hP)
       have g229:¬(v227.2.2=0):=gQ;clear g;replace h:=if_r g229 h;refine Q8 ?_;exact jn (b:=b190.1) (yJ h) (wkJ 5 hP)
      intro b228 hb228;have h:=h228;(try rw[←hb228]at h);clear h228;(try dsimp only at h);refine rxQ hN λK hK=>?_;simp;(repeat with_reducible refine sdQ ?_);replace⟨v284,hv284,h⟩:=bind_some h;refine QL (fz:=[]) (Q1x _ _ v284 hv284) (.cons .w (.cons .w .nil)) ?_;simp;(repeat refine sdQ ?_);refine hK _ (bn ?_);clear hK K;exact jn (b:=(s153.1,v227.1,v227.2.1,v284.1.on_.n,v284.1.on_.fr,v284.1.on_.to,v284.1.on_.id,v284.1.on_.cs,v284.1.unit_,v284.1.objects_,v284.1.arrows_,v284.2)) (yJ h) (wkP [(0,0),(1,1),(2,2),(6,3),(7,4),(8,5),(9,6),(11,7),(12,8)] hP)
     have g187:¬(v155.2.2=2):=gQ;clear g;replace h:=if_r g187 h;refine Q0 (Q18 [] mo (by rw[hN];decide) λK hK=>?_);simp;(repeat with_reducible refine sdQ ?_);replace⟨v294,hv294,h⟩:=bind_some h;refine QG (fz:=[]) (Q1P (ts:=[2]) (e:=(match(generalizing:=false) v294 with|.inl v294=>{v:=.own 3 0 1,set:=[(0,.mix 3 [(Y0K s153 [iV v294.1,.val (.int .u64 v294.2)])])],del:=[],new:=[(3,.mix 1 [[.own 4 0 1]]),(4,.mix 1 [[iV 0]])],cnt:=2}|.inr (.inl v294)=>{v:=.own 3 0 2,set:=[(0,.mix 3 [(Y0K s153 [iV v294.1,.val (.int .u64 v294.2.1)])])],del:=[],new:=[(3,.mix 1 [[.own 4 0 2],[.own 5 0 2]]),(4,.mix 1 [[iV 0],[iV 1]]),(5,.mix 1 [[iV 1],[iV v294.2.2]])],cnt:=3}|.inr (.inr (.inl v294))=>{v:=.own 3 0 3,set:=[(0,.mix 3 [(Y0K s153 [iV v294.1,.val (.int .u64 v294.2.1)])])],del:=[],new:=[(3,.mix 1 [[.own 4 0 3],[.own 5 0 3],[.own 6 0 3]]),(4,.mix 1 [[iV 0],[iV 1],[iV 2]]),(5,.mix 1 [[iV 1],[iV v294.2.2.1],[iV v294.2.2.2.1]]),(6,.mix 1 [[iV 2],[iV v294.2.2.2.2.1],[iV v294.2.2.2.2.2]])],cnt:=4}|.inr (.inr (.inr v294))=>{v:=.own 3 0 4,set:=[(0,.mix 3 [(Y0K s153 [iV v294.1,.val (.int .u64 v294.2)])])],del:=[],new:=[(3,.mix 1 [[.own 4 0 4],[.own 5 0 4],[.own 6 0 4],[.own 7 0 4]]),(4,.mix 1 [[iV 0],[iV 1],[iV 2],[iV 3]]),(5,.mix 1 [[iV 1],[iV 0],[iV 2],[iV 3]]),(6,.mix 1 [[iV 2],[iV 3],[iV 2],[iV 3]]),(7,.mix 1 [[iV 3],[iV 2],[iV 2],[iV 3]])],cnt:=5})) Try.func153 rfl rfl rfl (by simp[Try.f153]) (by simp) (Q5r (by rcases v294 with v294|v294|v294|v294<;>simp)) (newI (by rcases v294 with v294|v294|v294|v294<;>rfl)) λF hN hP=>?_) ?_
     ·clear h;have h:=hv294;clear hv294;refine Q0 (rxQ hN λK hK=>?_);simp;(repeat refine sdQ ?_);refine hK _ ?_;clear hK K;refine tn (Q2 (st':=⟨[(0,.adr 0 0 0)],(0,.mix 3 [(Y0K s153 [iV v155.1,.val (.int .u64 v155.2.1)])])::Y0 [],3⟩) (wkJ 3 hP) (Q0 (Q0 (Q18 [] mo (by rw[hN];decide) λK hK=>?_))));simp;(repeat with_reducible refine sdQ ?_);replace⟨v286,hv286,h⟩:=bind_some h;refine QG (fz:=[]) (frQ (e:={v:=.val (.int .i64 v286.2.2),set:=[(0,.mix 3 [(Y0K s153 [iV v286.1,.val (.int .u64 v286.2.1)])])],del:=[],new:=[],cnt:=0}) (Qw 100 _ _ v286 hv286) [(0,0)]) ?_;simp;(repeat refine sdQ ?_);refine hK _ ?_;clear hK K;refine tn (Q2 (st':=⟨[(4,iV v286.2.2)],(0,.mix 3 [(Y0K s153 [iV v286.1,.val (.int .u64 v286.2.1)])])::Y0 [],3⟩) (wkJ 3 hP) (Q5 (Q0 (rxQ hN λK hK=>?_))));simp;(repeat refine sdQ ?_);refine hK _ ?_;clear hK K;refine tn (Q7 rfl (λg=>?_) λg=>?_)
      ·have g287:v286.2.2=0:=gQ;clear g;replace h:=if_l g287 h;refine Q0 (rxQ hN λK hK=>?_);simp;(repeat refine sdQ ?_);refine hK _ (tn (Q2 (st':=⟨[(2,.own 3 0 1)],(0,.mix 3 [(Y0K s153 [iV v286.1,.val (.int .u64 v286.2.1)])])::Y0 (YO []),5⟩) (wkP [(0,0),(1,1),(2,2),(4,3),(3,4)] hP) (Qe (br (tr ?_)))));clear hK K;cases h;(try dsimp only);first|refine iw_r (st':=⟨[(2,.own 3 0 1)],(0,.mix 3 [(Y0K s153 [iV v286.1,.val (.int .u64 v286.2.1)])])::Y0 (YO []),5⟩) ?_ ?_|refine iw_n (st':=⟨[(2,.own 3 0 1)],(0,.mix 3 [(Y0K s153 [iV v286.1,.val (.int .u64 v286.2.1)])])::Y0 (YO []),5⟩) ?_ ?_
       ·exact wkJ 5 hP
       exact⟨by simp[Qt],by simp,by simp[CN]⟩
      have g287:¬(v286.2.2=0):=gQ;clear g;replace h:=if_r g287 h;refine Q0 (rxQ hN λK hK=>?_);simp;(repeat refine sdQ ?_);refine hK _ ?_;clear hK K;refine tn (Q7 rfl (λg=>?_) λg=>?_)
      ·have g288:v286.2.2=1:=gQ;clear g;replace h:=if_l g288 h;refine Q0 (rxQ hN λK hK=>?_);simp;(repeat refine sdQ ?_);refine hK _ (tn (Q2 (st':=⟨Y0E [],(0,.mix 3 [(Y0K s153 [iV v286.1,.val (.int .u64 v286.2.1)])])::Y0 (Yn (Y0n [])),6⟩) (wkP [(0,0),(1,1),(2,2),(5,3),(3,4),(4,5)] hP) (Qe (br (tr ?_)))));clear hK K;cases h;(try dsimp only);first|refine iw_r (st':=⟨Y0E [],(0,.mix 3 [(Y0K s153 [iV v286.1,.val (.int .u64 v286.2.1)])])::Y0 (Yn (Y0n [])),6⟩) ?_ ?_|refine iw_n (st':=⟨Y0E [],(0,.mix 3 [(Y0K s153 [iV v286.1,.val (.int .u64 v286.2.1)])])::Y0 (Yn (Y0n [])),6⟩) ?_ ?_
       ·exact wkJ 6 hP
       exact⟨by simp[Qt],by simp,by simp[CN]⟩
      have g288:¬(v286.2.2=1):=gQ;clear g;replace h:=if_r g288 h;refine Q0 (rxQ hN λK hK=>?_);simp;(repeat refine sdQ ?_);refine hK _ ?_;clear hK K;refine tn (Q7 rfl (λg=>?_) λg=>?_)
      ·have g289:v286.2.2=2:=gQ;clear g;replace h:=if_l g289 h;refine Q0 (rxQ hN λK hK=>?_);simp;(repeat refine sdQ ?_);refine hK _ (tn (Q2 (st':=⟨Y0E [],(0,.mix 3 [(Y0K s153 [iV v286.1,.val (.int .u64 v286.2.1)])])::Y0 (Yn (Y0o [])),6⟩) (wkP [(0,0),(1,1),(2,2),(5,3),(3,4),(4,5)] hP) (Qe (br (tr ?_)))));clear hK K;cases h;(try dsimp only);first|refine iw_r (st':=⟨Y0E [],(0,.mix 3 [(Y0K s153 [iV v286.1,.val (.int .u64 v286.2.1)])])::Y0 (Yn (Y0o [])),6⟩) ?_ ?_|refine iw_n (st':=⟨Y0E [],(0,.mix 3 [(Y0K s153 [iV v286.1,.val (.int .u64 v286.2.1)])])::Y0 (Yn (Y0o [])),6⟩) ?_ ?_
       ·exact wkJ 6 hP
       exact⟨by simp[Qt],by simp,by simp[CN]⟩
      have g289:¬(v286.2.2=2):=gQ;clear g;replace h:=if_r g289 h;refine Q0 (rxQ hN λK hK=>?_);simp;(repeat refine sdQ ?_);refine hK _ ?_;clear hK K;refine tn (Q7 rfl (λg=>?_) λg=>?_)
      ·have g290:v286.2.2=3:=gQ;clear g;replace h:=if_l g290 h;refine Q0 (rxQ hN λK hK=>?_);simp;(repeat refine sdQ ?_);refine hK _ (tn (Q2 (st':=⟨Y06 [],(0,.mix 3 [(Y0K s153 [iV v286.1,.val (.int .u64 v286.2.1)])])::Y0 (Y5 (YE [])),7⟩) (wkP [(0,0),(1,1),(2,2),(6,3),(3,4),(4,5),(5,6)] hP) (Qe (br (tr ?_)))));clear hK K;cases h;(try dsimp only);first|refine iw_r (st':=⟨Y06 [],(0,.mix 3 [(Y0K s153 [iV v286.1,.val (.int .u64 v286.2.1)])])::Y0 (Y5 (YE [])),7⟩) ?_ ?_|refine iw_n (st':=⟨Y06 [],(0,.mix 3 [(Y0K s153 [iV v286.1,.val (.int .u64 v286.2.1)])])::Y0 (Y5 (YE [])),7⟩) ?_ ?_
       ·exact wkJ 7 hP
       exact⟨by simp[Qt],by simp,by simp[CN]⟩
      have g290:¬(v286.2.2=3):=gQ;clear g;replace h:=if_r g290 h;refine Q0 (rxQ hN λK hK=>?_);simp;(repeat refine sdQ ?_);refine hK _ ?_;clear hK K;refine tn (Q7 rfl (λg=>?_) λg=>?_)
      ·have g291:v286.2.2=4:=gQ;clear g;replace h:=if_l g291 h;refine Q0 (rxQ hN λK hK=>?_);simp;(repeat refine sdQ ?_);refine hK _ (tn (Q2 (st':=⟨Y06 [],(0,.mix 3 [(Y0K s153 [iV v286.1,.val (.int .u64 v286.2.1)])])::Y0 (Y5 (YF [])),7⟩) (wkP [(0,0),(1,1),(2,2),(6,3),(3,4),(4,5),(5,6)] hP) (Qe (br (tr ?_)))));clear hK K;cases h;(try dsimp only);first|refine iw_r (st':=⟨Y06 [],(0,.mix 3 [(Y0K s153 [iV v286.1,.val (.int .u64 v286.2.1)])])::Y0 (Y5 (YF [])),7⟩) ?_ ?_|refine iw_n (st':=⟨Y06 [],(0,.mix 3 [(Y0K s153 [iV v286.1,.val (.int .u64 v286.2.1)])])::Y0 (Y5 (YF [])),7⟩) ?_ ?_
       ·exact wkJ 7 hP
       exact⟨by simp[Qt],by simp,by simp[CN]⟩
      have g291:¬(v286.2.2=4):=gQ;clear g;replace h:=if_r g291 h;refine Q0 (rxQ hN λK hK=>?_);simp;(repeat refine sdQ ?_);refine hK _ ?_;clear hK K;refine tn (Q7 rfl (λg=>?_) λg=>?_)
      ·have g292:v286.2.2=5:=gQ;clear g;replace h:=if_l g292 h;refine Q0 (rxQ hN λK hK=>?_);simp;(repeat refine sdQ ?_);refine hK _ (tn (Q2 (st':=⟨Y06 [],(0,.mix 3 [(Y0K s153 [iV v286.1,.val (.int .u64 v286.2.1)])])::Y0 (Y5 (YG [])),7⟩) (wkP [(0,0),(1,1),(2,2),(6,3),(3,4),(4,5),(5,6)] hP) (Qe (br (tr ?_)))));clear hK K;cases h;(try dsimp only);first|refine iw_r (st':=⟨Y06 [],(0,.mix 3 [(Y0K s153 [iV v286.1,.val (.int .u64 v286.2.1)])])::Y0 (Y5 (YG [])),7⟩) ?_ ?_|refine iw_n (st':=⟨Y06 [],(0,.mix 3 [(Y0K s153 [iV v286.1,.val (.int .u64 v286.2.1)])])::Y0 (Y5 (YG [])),7⟩) ?_ ?_
       ·exact wkJ 7 hP
       exact⟨by simp[Qt],by simp,by simp[CN]⟩
      have g292:¬(v286.2.2=5):=gQ;clear g;replace h:=if_r g292 h;refine Q0 (rxQ hN λK hK=>?_);simp;(repeat refine sdQ ?_);refine hK _ ?_;clear hK K;refine tn (Q7 rfl (λg=>?_) λg=>?_)
      ·have g293:v286.2.2=6:=gQ;clear g;replace h:=if_l g293 h;refine Q0 (rxQ hN λK hK=>?_);simp;(repeat refine sdQ ?_);refine hK _ (tn (Q2 (st':=⟨[(2,.own 3 0 4)],(0,.mix 3 [(Y0K s153 [iV v286.1,.val (.int .u64 v286.2.1)])])::Y0 (Y8 []),8⟩) (wkP [(0,0),(1,1),(2,2),(7,3),(3,4),(4,5),(5,6),(6,7)] hP) (Qe (br (tr ?_)))));clear hK K;cases h;(try dsimp only);first|refine iw_r (st':=⟨[(2,.own 3 0 4)],(0,.mix 3 [(Y0K s153 [iV v286.1,.val (.int .u64 v286.2.1)])])::Y0 (Y8 []),8⟩) ?_ ?_|refine iw_n (st':=⟨[(2,.own 3 0 4)],(0,.mix 3 [(Y0K s153 [iV v286.1,.val (.int .u64 v286.2.1)])])::Y0 (Y8 []),8⟩) ?_ ?_
       ·exact wkJ 8 hP
       exact⟨by simp[Qt],by simp,by simp[CN]⟩
      have g293:¬(v286.2.2=6):=gQ;clear g;replace h:=if_r g293 h;refine Q8 (bn (tn (Q0 (rxQ hN λK hK=>?_))));simp;(repeat refine sdQ ?_);refine hK _ (tn (Q2 (st':=⟨Y06 [],(0,.mix 3 [(Y0K s153 [iV v286.1,.val (.int .u64 v286.2.1)])])::Y0 (Y5 (YH [])),7⟩) (wkP [(0,0),(1,1),(2,2),(6,3),(3,4),(4,5),(5,6)] hP) (Qe ?_)));clear hK K;cases h;(try dsimp only);first|refine iw_r (st':=⟨Y06 [],(0,.mix 3 [(Y0K s153 [iV v286.1,.val (.int .u64 v286.2.1)])])::Y0 (Y5 (YH [])),7⟩) ?_ ?_|refine iw_n (st':=⟨Y06 [],(0,.mix 3 [(Y0K s153 [iV v286.1,.val (.int .u64 v286.2.1)])])::Y0 (Y5 (YH [])),7⟩) ?_ ?_
      ·exact wkJ 7 hP
      exact⟨by simp[Qt],by simp,by simp[CN]⟩
     clear hv294;rcases v294 with v294|v294|v294|v294
     ·(try dsimp only at h);(try dsimp only);simp;(repeat refine sdQ ?_);refine hK _ ?_;clear hK K;refine tn (Q2 (st':=⟨Yb s153 [(17,.own 3 0 1)],(0,.mix 3 [(Y0K s153 [iV v294.1,.val (.int .u64 v294.2)])])::Y0 (YO []),5⟩) (wkJ 5 hP) (Q0 (Q18 [] mo (by rw[hN];decide) λK hK=>?_)));simp;(repeat with_reducible refine sdQ ?_);replace⟨v295,hv295,h⟩:=bind_some h;refine QG (fz:=[]) (frQ (e:={v:=.own 5 0 v295.2.2.2.length,set:=[(0,.mix 3 [[.lst true 1 (Us v295.1),iV v295.2.1,.val (.int .u64 v295.2.2.1)]])],del:=[],new:=[(5,.row 1 (Ls v295.2.2.2))],cnt:=1}) (Q1r 100 _ _ v295 hv295) [(0,0)]) ?_;simp;(repeat refine sdQ ?_);refine hK _ ?_;clear hK K;refine tn (Q2 (st':=⟨Yb s153 [(17,.own 3 0 1),(18,.own 5 0 v295.2.2.2.length)],(0,.mix 3 [[.lst true 1 (Us v295.1),iV v295.2.1,.val (.int .u64 v295.2.2.1)]])::Y0 (YO [(5,.row 1 (Ls v295.2.2.2))]),6⟩) (wkJ 6 hP) (rxQ hN λK hK=>?_));simp;(repeat with_reducible refine sdQ ?_);replace⟨v296,hv296,h⟩:=bind_some h;refine QL (fz:=[]) (Q1x _ _ v296 hv296) (.cons .w (.cons (.lits (es:=_) rfl (.cons rfl (.cons (.lits (es:=_) rfl (.cons rfl (.cons .val .nil) .nil) rfl) .nil) .nil) rfl) .nil)) ?_;simp;(repeat refine sdQ ?_);refine hK _ (bn ?_);clear hK K;exact jn (b:=(v295.1,v295.2.1,v295.2.2.1,v296.1.on_.n,v296.1.on_.fr,v296.1.on_.to,v296.1.on_.id,v296.1.on_.cs,v296.1.unit_,v296.1.objects_,v296.1.arrows_,v296.2)) (yJ h) (wkP [(0,0),(1,1),(2,2),(7,3),(8,4),(9,5),(10,6),(12,7),(13,8)] hP)
     ·(try dsimp only at h);(try dsimp only);simp;(repeat refine sdQ ?_);refine hK _ ?_;clear hK K;refine tn (Q2 (st':=⟨Yb s153 [(17,.own 3 0 2)],(0,.mix 3 [(Y0K s153 [iV v294.1,.val (.int .u64 v294.2.1)])])::Y0 (Yn [(5,.mix 1 [[iV 1],[iV v294.2.2]])]),6⟩) (wkJ 6 hP) (Q0 (Q18 [] mo (by rw[hN];decide) λK hK=>?_)));simp;(repeat with_reducible refine sdQ ?_);replace⟨v297,hv297,h⟩:=bind_some h;refine QG (fz:=[]) (frQ (e:={v:=.own 6 0 v297.2.2.2.length,set:=[(0,.mix 3 [[.lst true 1 (Us v297.1),iV v297.2.1,.val (.int .u64 v297.2.2.1)]])],del:=[],new:=[(6,.row 1 (Ls v297.2.2.2))],cnt:=1}) (Q1r 100 _ _ v297 hv297) [(0,0)]) ?_;simp;(repeat refine sdQ ?_);refine hK _ ?_;clear hK K;refine tn (Q2 (st':=⟨Yb s153 [(17,.own 3 0 2),(18,.own 6 0 v297.2.2.2.length)],(0,.mix 3 [[.lst true 1 (Us v297.1),iV v297.2.1,.val (.int .u64 v297.2.2.1)]])::Y0 (Yn [(5,.mix 1 [[iV 1],[iV v294.2.2]]),(6,.row 1 (Ls v297.2.2.2))]),7⟩) (wkJ 7 hP) (rxQ hN λK hK=>?_));simp;(repeat with_reducible refine sdQ ?_);replace⟨v298,hv298,h⟩:=bind_some h;refine QL (fz:=[]) (Q1x _ _ v298 hv298) (.cons .w (.cons (.lits (es:=_) rfl (.cons rfl (.cons (.lits (es:=_) rfl (.cons rfl (.cons .val .nil) (.cons rfl (.cons .val .nil) .nil)) rfl) .nil) (.cons rfl (.cons (.lits (es:=_) rfl (.cons rfl (.cons .val .nil) (.cons rfl (.cons .val .nil) .nil)) rfl) .nil) .nil)) rfl) .nil)) ?_;simp;(repeat refine sdQ ?_);refine hK _ (bn ?_);clear hK K;exact jn (b:=(v297.1,v297.2.1,v297.2.2.1,v298.1.on_.n,v298.1.on_.fr,v298.1.on_.to,v298.1.on_.id,v298.1.on_.cs,v298.1.unit_,v298.1.objects_,v298.1.arrows_,v298.2)) (yJ h) (wkP [(0,0),(1,1),(2,2),(8,3),(9,4),(10,5),(11,6),(13,7),(14,8)] hP)
     ·(try dsimp only at h);(try dsimp only);simp;(repeat refine sdQ ?_);refine hK _ ?_;clear hK K;refine tn (Q2 (st':=⟨Yb s153 [(17,.own 3 0 3)],(0,.mix 3 [(Y0K s153 [iV v294.1,.val (.int .u64 v294.2.1)])])::Y0 (Y5 [(5,.mix 1 [[iV 1],[iV v294.2.2.1],[iV v294.2.2.2.1]]),(6,.mix 1 [[iV 2],[iV v294.2.2.2.2.1],[iV v294.2.2.2.2.2]])]),7⟩) (wkJ 7 hP) (Q0 (Q18 [] mo (by rw[hN];decide) λK hK=>?_)));simp;(repeat with_reducible refine sdQ ?_);replace⟨v299,hv299,h⟩:=bind_some h;refine QG (fz:=[]) (frQ (e:={v:=.own 7 0 v299.2.2.2.length,set:=[(0,.mix 3 [[.lst true 1 (Us v299.1),iV v299.2.1,.val (.int .u64 v299.2.2.1)]])],del:=[],new:=[(7,.row 1 (Ls v299.2.2.2))],cnt:=1}) (Q1r 100 _ _ v299 hv299) [(0,0)]) ?_;simp;(repeat refine sdQ ?_);refine hK _ ?_;clear hK K;refine tn (Q2 (st':=⟨Yb s153 [(17,.own 3 0 3),(18,.own 7 0 v299.2.2.2.length)],(0,.mix 3 [[.lst true 1 (Us v299.1),iV v299.2.1,.val (.int .u64 v299.2.2.1)]])::Y0 (Y5 [(5,.mix 1 [[iV 1],[iV v294.2.2.1],[iV v294.2.2.2.1]]),(6,.mix 1 [[iV 2],[iV v294.2.2.2.2.1],[iV v294.2.2.2.2.2]]),(7,.row 1 (Ls v299.2.2.2))]),8⟩) (wkJ 8 hP) (rxQ hN λK hK=>?_));simp;(repeat with_reducible refine sdQ ?_);replace⟨v300,hv300,h⟩:=bind_some h;refine QL (fz:=[]) (Q1x _ _ v300 hv300) (.cons .w (.cons (.lits (es:=_) rfl (.cons rfl (.cons (.lits (es:=_) rfl (.cons rfl (.cons .val .nil) (.cons rfl (.cons .val .nil) (.cons rfl (.cons .val .nil) .nil))) rfl) .nil) (.cons rfl (.cons (.lits (es:=_) rfl (.cons rfl (.cons .val .nil) (.cons rfl (.cons .val .nil) (.cons rfl (.cons .val .nil) .nil))) rfl) .nil) (.cons rfl (.cons (.lits (es:=_) rfl (.cons rfl (.cons .val .nil) (.cons rfl (.cons .val .nil) (.cons rfl (.cons .val .nil) .nil))) rfl) .nil) .nil))) rfl) .nil)) ?_;simp;(repeat refine sdQ ?_);refine hK _ (bn ?_);clear hK K;exact jn (b:=(v299.1,v299.2.1,v299.2.2.1,v300.1.on_.n,v300.1.on_.fr,v300.1.on_.to,v300.1.on_.id,v300.1.on_.cs,v300.1.unit_,v300.1.objects_,v300.1.arrows_,v300.2)) (yJ h) (wkP [(0,0),(1,1),(2,2),(9,3),(10,4),(11,5),(12,6),(14,7),(15,8)] hP)
     (try dsimp only at h);(try dsimp only);simp;(repeat refine sdQ ?_);refine hK _ ?_;clear hK K;refine tn (Q2 (st':=⟨Yb s153 [(17,.own 3 0 4)],(0,.mix 3 [(Y0K s153 [iV v294.1,.val (.int .u64 v294.2)])])::Y0 (Y8 []),8⟩) (wkJ 8 hP) (Q0 (Q18 [] mo (by rw[hN];decide) λK hK=>?_)));simp;(repeat with_reducible refine sdQ ?_);replace⟨v301,hv301,h⟩:=bind_some h;refine QG (fz:=[]) (frQ (e:={v:=.own 8 0 v301.2.2.2.length,set:=[(0,.mix 3 [[.lst true 1 (Us v301.1),iV v301.2.1,.val (.int .u64 v301.2.2.1)]])],del:=[],new:=[(8,.row 1 (Ls v301.2.2.2))],cnt:=1}) (Q1r 100 _ _ v301 hv301) [(0,0)]) ?_;simp;(repeat refine sdQ ?_);refine hK _ ?_;clear hK K;refine tn (Q2 (st':=⟨Yb s153 [(17,.own 3 0 4),(18,.own 8 0 v301.2.2.2.length)],(0,.mix 3 [[.lst true 1 (Us v301.1),iV v301.2.1,.val (.int .u64 v301.2.2.1)]])::Y0 (Y8 [(8,.row 1 (Ls v301.2.2.2))]),9⟩) (wkJ 9 hP) (rxQ hN λK hK=>?_));simp;(repeat with_reducible refine sdQ ?_);replace⟨v302,hv302,h⟩:=bind_some h;refine QL (fz:=[]) (Q1x _ _ v302 hv302) (.cons .w (.cons (.lits (es:=_) rfl (.cons rfl (.cons (.lits (es:=_) rfl (.cons rfl (.cons .val .nil) (.cons rfl (.cons .val .nil) (.cons rfl (.cons .val .nil) (.cons rfl (.cons .val .nil) .nil)))) rfl) .nil) (.cons rfl (.cons (.lits (es:=_) rfl (.cons rfl (.cons .val .nil) (.cons rfl (.cons .val .nil) (.cons rfl (.cons .val .nil) (.cons rfl (.cons .val .nil) .nil)))) rfl) .nil) (.cons rfl (.cons (.lits (es:=_) rfl (.cons rfl (.cons .val .nil) (.cons rfl (.cons .val .nil) (.cons rfl (.cons .val .nil) (.cons rfl (.cons .val .nil) .nil)))) rfl) .nil) (.cons rfl (.cons (.lits (es:=_) rfl (.cons rfl (.cons .val .nil) (.cons rfl (.cons .val .nil) (.cons rfl (.cons .val .nil) (.cons rfl (.cons .val .nil) .nil)))) rfl) .nil) .nil)))) rfl) .nil)) ?_;simp;(repeat refine sdQ ?_);refine hK _ (bn ?_);clear hK K;exact jn (b:=(v301.1,v301.2.1,v301.2.2.1,v302.1.on_.n,v302.1.on_.fr,v302.1.on_.to,v302.1.on_.id,v302.1.on_.cs,v302.1.unit_,v302.1.objects_,v302.1.arrows_,v302.2)) (yJ h) (wkP [(0,0),(1,1),(2,2),(10,3),(11,4),(12,5),(13,6),(15,7),(16,8)] hP)
    intro b156 hb156;have h:=h156;(try rw[←hb156]at h);clear h156;(try dsimp only at h);refine Q0 (rxQ hN λK hK=>?_);simp;(repeat refine sdQ ?_);refine hK _ ?_;clear hK K;refine tn (Q7 rfl (λg=>?_) λg=>?_)
    ·have g303:b156.2.2.2.2.2.2.2.2.2.2.2=0:=gQ;clear g;replace h:=if_l g303 h;refine Q0 (rxQ hN λK hK=>?_);simp;(repeat refine sdQ ?_);refine hK _ (tn (Q2 (st':=⟨Y0I [],Yr b156 [],8⟩) (wkP [(0,0),(1,1),(3,2),(4,3),(5,4),(6,5),(7,6),(8,7)] hP) (Qe (br (tr (lr (br (tr ?_))))))));clear hK K;cases h;have q:_=e2:=hk153;have h:=h2;rw[←q]at h;clear q;(try dsimp only at h);cases h;first|refine Q9z (st':=⟨Y0I [],Yr b156 [],8⟩) ?_ ?_|refine Q9y (st':=⟨Y0I [],Yr b156 [],8⟩) ?_ ?_
     ·exact wkJ 8 hP
     exact⟨⟨_,(.cell Q3x rfl rfl rfl (by simp) (by simp) .nil),by simp[Qt,CN]⟩,by simp,by simp[CN]⟩
    have g303:¬(b156.2.2.2.2.2.2.2.2.2.2.2=0):=gQ;clear g;replace h:=if_r g303 h;refine Q8 (bn (tn (rxQ hN λK hK=>?_)));replace⟨a304,h⟩:=Q1 h;simp[Qh a304];(repeat refine sdQ ?_);refine hK _ ?_;clear hK K;cases h;exact rn (s':=(b156.1,b156.2.1,b156.2.2.1,s153.2.2.2+1)) hk153 (wkP [(0,0),(1,1)] hP)
   have g154:¬(s153.2.2.2<10):=gQ;clear g;replace h:=if_r g154 h;refine Ql (tx (lx (bh ?_)));cases h;exact jn (b:=(s153.1,s153.2.1,s153.2.2.1)) hk153 (wkP [(0,0),(1,1)] hP)
  intro b2 hb2;have h:=h2;try rw[←hb2]at h
  clear h2;try dsimp only at h
  refine Q0 (rxQ hN λK hK=>?_);simp;repeat with_reducible refine sdQ ?_
  replace⟨v305,hv305,h⟩:=bind_some h;refine QL (fz:=[]) (Q17 _ v305 hv305) (.cons (.lits (es:=_) rfl (.cons rfl (.cons (.lits (es:=_) rfl (.cons rfl (.cons .val .nil) (.cons rfl (.cons .val .nil) .nil)) rfl) .nil) (.cons rfl (.cons (.lits (es:=_) rfl (.cons rfl (.cons .val .nil) (.cons rfl (.cons .val .nil) .nil)) rfl) .nil) .nil)) rfl) .nil) ?_;simp;repeat refine sdQ ?_
  refine hK _ ?_;clear hK K;refine tn (Q2 (st':=⟨Y0I [(19,.adr 2 0 0)],(0,.mix 3 [[.lst true 1 (Us b2.1),iV b2.2.1,.val (.int .u64 b2.2.2)]])::Y0i [(2,.mix 8 [[iV v305.1.on_.n,.own 3 0 v305.1.on_.fr.length,.own 4 0 v305.1.on_.to.length,.own 5 0 v305.1.on_.id.length,.own 6 0 v305.1.on_.cs.length,iV v305.1.unit_,.own 7 0 v305.1.objects_.length,.own 8 0 v305.1.arrows_.length]]),(3,rI v305.1.on_.fr),(4,rI v305.1.on_.to),(5,rI v305.1.on_.id),(6,.row 1 (Ls v305.1.on_.cs)),(7,.row 1 (Ls v305.1.objects_)),(8,.row 1 (Ls v305.1.arrows_))],9⟩) (wkP [(0,0),(1,1),(14,2),(6,3),(7,4),(8,5),(9,6),(11,7),(12,8)] hP) (Q0 (rxQ hN λK hK=>?_)));simp;repeat refine sdQ ?_
  refine hK _ (tn (Q2 (st':=⟨Y0I [],Yt b2 v305 [],8⟩) (wkP [(0,0),(1,1),(3,2),(4,3),(5,4),(6,5),(7,6),(8,7)] hP) (Qe ?_)));clear hK K;cases h;first|refine Q9z (st':=⟨Y0I [],Yt b2 v305 [],8⟩) ?_ ?_|refine Q9y (st':=⟨Y0I [],Yt b2 v305 [],8⟩) ?_ ?_
  ·exact wkJ 8 hP
  exact⟨⟨_,(.cell Q3x rfl rfl rfl (by simp) (by simp) .nil),by simp[Qt,CN]⟩,by simp,by simp[CN]⟩
end Go.Vc.T
