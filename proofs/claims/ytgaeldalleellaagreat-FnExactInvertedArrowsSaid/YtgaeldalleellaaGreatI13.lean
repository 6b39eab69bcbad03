/- A part of the proof. -/
import Derived.Test.YtgaeldalleellaaGreatI12
set_option maxRecDepth 100000
set_option maxHeartbeats 4000000
set_option linter.unusedSimpArgs false
set_option linter.unusedVariables false
set_option linter.unusedSectionVars false
set_option linter.unnecessarySimpa false

open Option renaming bind_some→yR
open Option.some renaming inj→yJ
open List renaming length_append→qD
open Sum renaming inl→yS
open Go.Vc.Ctl renaming ret→yK
open List renaming replicate→zF
open Go.Vc.Ctl renaming next→yM
open Sum renaming inr→yT
open List renaming length_cons→qH
open List renaming length_nil→zS
open List renaming length_map→yZ
noncomputable section
namespace Go.Vc.T
open Go Go.Vc Go.Proofs
attribute [local simp] unk unA unE unT unC flat eL eI Qh QI Q4x Qz Q1p Q13 Cat.cells Ends.cells XD.cells XL.cells X3.cells
def QH(w_:XD):Option (Unit⊕Ta):=
 (Qd (σ:=Tb) (ε:=(Tc)⊕(Unit⊕Ta)) (λs86=>
  if s86.2.2.2.2.2.2<w_.c_.n then
   (
    (Qd (σ:=Tb) (ε:=(Unit⊕Ta)⊕(Tc)) (λs129=>
     if s129.2.2.2.2.2.2<w_.c_.n then
      (
       (QL w_ s86.2.2.2.2.2.2 s129.2.2.2.2.2.2).bind λv132=>
       if(v132.length:Int)>200 then
        some (yT (yS ()))
       else
        (QB w_ v132).bind λv134=>
        (Qt (⟨w_.c_.n,s129.1,s129.2.1,[],[]⟩:Cat)).bind λv135=>
        ass (s129.2.2.1.length<1099511627776)<|
        ass (s129.2.2.2.1.length<1099511627776)<|
        (Qd (σ:=Te×Int) (ε:=List (X3×Int)) (λs145=>
         if s145.2<(v132.length:Int)then
          ass (0≤s145.2∧s145.2<(v132.length:Int))<|
          ass (0≤s145.2∧s145.2<(v134.length:Int))<|
          ass (s145.1.length<1099511627776)<|
          ass (B64 (s145.2+1))<|
          some (yM (tset (gx v132 s145.2) (ix v134 s145.2) s145.1,s145.2+1))
         else
          some (yK s145.1)) fuel ([],0)).bind λb139=>
        (QR v134).bind λv151=>
        (Qd (σ:=List Int×List Int×List X3×Int) (ε:=List Int×List Int×List X3) (λs160=>
         if s160.2.2.2<(v151.length:Int)then
          ass (0≤s160.2.2.2∧s160.2.2.2<(v151.length:Int))<|
          ass (0≤ix v151 s160.2.2.2∧ix v151 s160.2.2.2<(v132.length:Int))<|
          ass ((s160.2.2.1++[(gx v132 (ix v151 s160.2.2.2))]).length≤1073741824)<|
          ass ((s160.1++[s86.2.2.2.2.2.2]).length≤1073741824)<|
          ass ((s160.2.1++[s129.2.2.2.2.2.2]).length≤1073741824)<|
          ass (B64 (s160.2.2.2+1))<|
          some (yM (s160.1++[s86.2.2.2.2.2.2],s160.2.1++[s129.2.2.2.2.2.2],s160.2.2.1++[(gx v132 (ix v151 s160.2.2.2))],s160.2.2.2+1))
         else
          some (yK (s160.1,s160.2.1,s160.2.2.1))) fuel (s129.1,s129.2.1,s129.2.2.2.2.1,0)).bind λb152=>
        if s129.2.2.2.2.2.1=true then
         some (yS (b152.1,b152.2.1,tset (⟨s86.2.2.2.2.2.2,s129.2.2.2.2.2.2⟩:Ends) v135 s129.2.2.1,tset (⟨s86.2.2.2.2.2.2,s129.2.2.2.2.2.2⟩:Ends) b139 s129.2.2.2.1,b152.2.2,decide ((b152.2.2.length:Int)≤40)))
        else
         some (yS (b152.1,b152.2.1,tset (⟨s86.2.2.2.2.2.2,s129.2.2.2.2.2.2⟩:Ends) v135 s129.2.2.1,tset (⟨s86.2.2.2.2.2.2,s129.2.2.2.2.2.2⟩:Ends) b139 s129.2.2.2.1,b152.2.2,false)):Option ((Tc)⊕(Unit⊕Ta))).bind λe131=>
      match e131 with
      | .inl b131=>
       ass (B64 (s129.2.2.2.2.2.2+1))<|
       some (yM (b131.1,b131.2.1,b131.2.2.1,b131.2.2.2.1,b131.2.2.2.2.1,b131.2.2.2.2.2,s129.2.2.2.2.2.2+1))
      | .inr p131=>
       some (yK (yS p131))
     else
      some (yK (yT (s129.1,s129.2.1,s129.2.2.1,s129.2.2.2.1,s129.2.2.2.2.1,s129.2.2.2.2.2.1)))) fuel (s86.1,s86.2.1,s86.2.2.1,s86.2.2.2.1,s86.2.2.2.2.1,s86.2.2.2.2.2.1,0)).bind λe129=>
    match e129 with
    | .inl p129=>
     some (yT p129)
    | .inr p129=>
     some (yS p129):Option ((Tc)⊕(Unit⊕Ta))).bind λe88=>
   match e88 with
   | .inl b88=>
    ass (B64 (s86.2.2.2.2.2.2+1))<|
    some (yM (b88.1,b88.2.1,b88.2.2.1,b88.2.2.2.1,b88.2.2.2.2.1,b88.2.2.2.2.2,s86.2.2.2.2.2.2+1))
   | .inr p88=>
    some (yK (yT p88))
  else
   some (yK (yS (s86.1,s86.2.1,s86.2.2.1,s86.2.2.2.1,s86.2.2.2.2.1,s86.2.2.2.2.2.1)))) fuel ([],[],[],[],[],true,0)).bind λe2=>
 match e2 with
 | .inl b2=>
  if¬(b2.2.2.2.2.2=true)then
   some (yS ())
  else
   (Qd (σ:=List Int×Int) (ε:=List Int) (λs178=>
    if s178.2<(w_.c_.id.length:Int)then
     ass (0≤s178.2∧s178.2<(w_.c_.id.length:Int))<|
     (Qy (⟨w_,(⟨w_.c_.n,b2.1,b2.2.1,s178.1,[]⟩:Cat),b2.2.2.1,b2.2.2.2.1,b2.2.2.2.2.1⟩:XL) s178.2 s178.2 (⟨s178.2,ix w_.c_.id s178.2,ix w_.c_.id s178.2⟩:X3)).bind λv181=>
     ass ((s178.1++[v181]).length≤1073741824)<|
     ass (B64 (s178.2+1))<|
     some (yM (s178.1++[v181],s178.2+1))
    else
     some (yK s178.1)) fuel ([],0)).bind λb172=>
   (
    (Qt (⟨w_.c_.n,b2.1,b2.2.1,b172,[]⟩:Cat)).bind λv185=>
    ass (0≤v185∧v185≤1073741824)<|
    (Qd (σ:=List (List Int)×Int) (ε:=List (List Int)) (λs216=>
     if s216.2<((zF v185.toNat ([]:List Int)).length:Int)then
      (
       ass (0≤v185∧v185≤1073741824)<|
       ass (0≤s216.2∧s216.2<(s216.1.length:Int))<|
       ass (0≤s216.2∧s216.2<((s216.1.set s216.2.toNat (zF v185.toNat 0)).length:Int))<|
       (Qd (σ:=List (List Int)×Int) (ε:=List (List Int)) (λs233=>
        if s233.2<((rx (s216.1.set s216.2.toNat (zF v185.toNat 0)) s216.2).length:Int)then
         (
          ass (0≤s216.2∧s216.2<(s233.1.length:Int))<|
          ass (0≤s233.2∧s233.2<((rx s233.1 s216.2).length:Int))<|
          ass (0≤s216.2∧s216.2<(b2.2.1.length:Int))<|
          ass (0≤s233.2∧s233.2<(b2.1.length:Int))<|
          if(ix b2.2.1 s216.2)=(ix b2.1 s233.2)then
           ass (0≤s216.2∧s216.2<((s233.1.set s216.2.toNat ((rx s233.1 s216.2).set s233.2.toNat (-1))).length:Int))<|
           (Qr s216.2 s233.2 (⟨w_,(⟨w_.c_.n,b2.1,b2.2.1,b172,s233.1.set s216.2.toNat ((rx s233.1 s216.2).set s233.2.toNat (-1))⟩:Cat),b2.2.2.1,b2.2.2.2.1,b2.2.2.2.2.1⟩:XL) w_ w_.c_).bind λv242=>
           ass (0≤s233.2∧s233.2<((rx (s233.1.set s216.2.toNat ((rx s233.1 s216.2).set s233.2.toNat (-1))) s216.2).length:Int))<|
           some ((s233.1.set s216.2.toNat ((rx s233.1 s216.2).set s233.2.toNat (-1))).set s216.2.toNat ((rx (s233.1.set s216.2.toNat ((rx s233.1 s216.2).set s233.2.toNat (-1))) s216.2).set s233.2.toNat v242))
          else
           some (s233.1.set s216.2.toNat ((rx s233.1 s216.2).set s233.2.toNat (-1))):Option (List (List Int))).bind λb235=>
         ass (B64 (s233.2+1))<|
         some (yM (b235,s233.2+1))
        else
         some (yK s233.1)) fuel (s216.1.set s216.2.toNat (zF v185.toNat 0),0)).bind λp233=>
       some p233:Option (List (List Int))).bind λb218=>
      ass (B64 (s216.2+1))<|
      some (yM (b218,s216.2+1))
     else
      some (yK s216.1)) fuel (zF v185.toNat ([]:List Int),0)).bind λp216=>
    some p216:Option (List (List Int))).bind λv246=>
   some (yT (b2.1,b2.2.1,b172,v246,b2.2.2.1,b2.2.2.2.1,b2.2.2.2.2.1))
 | .inr p2=>
  some p2
@[simp] abbrev Y1(a:XD)(b:Tb)(c:List (Nat×Ent)):List (Nat×Ent):=(0,.mix 1 [[.rptr (Cat.cells true a.c_)]])::(1,.mix 1 [[.adr 2 0 0]])::(2,.mix 9 [[.rptr (Y0s a []),iV a.c_.n,.own 3 0 b.1.length,.own 4 0 b.2.1.length,nS,nS,.mp 5,.mp 6,.own 7 0 b.2.2.2.2.1.length]])::(3,rI b.1)::(4,rI b.2.1)::c
@[simp] abbrev Y2(a:XD)(b:List (Nat×AV)):List (Nat×AV):=(1,.rptr [.rptr (Y0s a [])])::(4,.adr 0 0 0)::(5,.adr 1 0 0)::b
@[simp] abbrev Y4(a:Tc)(b:List (Nat×Ent)):List (Nat×Ent):=(6,.mapE (.st 2) (Q1h a.2.2.1))::(7,.mapE (.ext (Q10 (.st 2) (.st 3) (gown (EC Ends.kv Q8 a.2.2.2.1)))) [])::(8,.row 3 (Es (X3.cells true) a.2.2.2.2.1))::b
@[simp] abbrev Y9(a:XD)(b:List (Nat×Ent)):List (Nat×Ent):=(0,.mix 1 [[.rptr (Cat.cells true a.c_)]])::(1,.mix 1 [[.adr 2 0 0]])::b
@[simp] abbrev Yc(a:XD)(b:Int)(c:List (Nat×AV)):List (Nat×AV):=(0,.adr 2 0 1)::(1,.fn 68 [.adr 1 0 0,.rptr [.rptr (Y0s a [])],.adr 0 0 0])::(4,iV b)::c
@[simp] abbrev Yf(a b:Tb)(c:List X3)(d:List (Nat×AV)):List (Nat×AV):=(6,.val (.bool a.2.2.2.2.2.1))::(7,iV b.2.2.2.2.2.2)::(8,iV a.2.2.2.2.2.2)::(9,.own 8 0 c.length)::d
@[simp] abbrev Yg(a:Tc)(b:List (Nat×Ent)):List (Nat×Ent):=(5,.mapE (.st 2) (Q1h a.2.2.1))::(6,.mapE (.ext (Q10 (.st 2) (.st 3) (gown (EC Ends.kv Q8 a.2.2.2.1)))) [])::(7,.row 3 (Es (X3.cells true) a.2.2.2.2.1))::b
@[simp] abbrev Yh(a:Tb)(b:List (Nat×Ent)):List (Nat×Ent):=(5,.mapE (.st 2) (Q1h a.2.2.1))::(6,.mapE (.ext (Q10 (.st 2) (.st 3) (gown (EC Ends.kv Q8 a.2.2.2.1)))) [])::(7,.row 3 (Es (X3.cells true) a.2.2.2.2.1))::b
@[simp] abbrev Yi(a b:Tb)(c:Int)(d:List (X3×Int))(e:List (Nat×Ent)):List (Nat×Ent):=(5,.mapE (.st 2) (Q1h (tset (⟨a.2.2.2.2.2.2,b.2.2.2.2.2.2⟩:Ends) c b.2.2.1)))::(6,.mapE (.ext (Q10 (.st 2) (.st 3) (gown (EC Ends.kv Q8 (tset (⟨a.2.2.2.2.2.2,b.2.2.2.2.2.2⟩:Ends) d b.2.2.2.1))))) [])::e
@[simp] abbrev Yj(a:XD)(b c:Tb)(d:List (Nat×AV)):List (Nat×AV):=(35,iV a.c_.n)::(36,iV b.2.2.2.2.2.2)::(42,iV a.c_.n)::(43,iV c.2.2.2.2.2.2)::d
@[simp] abbrev Yk(a:XD)(b:Tc)(c:List Int)(d:List (List Int)×Int)(e:List (Nat×Ent)):List (Nat×Ent):=(2,.mix 9 [[.rptr (Y0s a []),iV a.c_.n,.own 3 0 b.1.length,.own 4 0 b.2.1.length,.own 5 0 c.length,.own 9 0 d.1.length,.mp 6,.mp 7,.own 8 0 b.2.2.2.2.1.length]])::(3,rI b.1)::(4,rI b.2.1)::(5,rI c)::e
@[simp] abbrev Yx(a:Tb)(b:List X3)(c:List Int)(d:List (Nat×Ent)):List (Nat×Ent):=(7,.row 3 (Es (X3.cells true) a.2.2.2.2.1))::(8,.row 3 (Es (X3.cells true) b))::(9,rI c)::d
@[simp] abbrev Yy(a:Int)(b:List (List Int)×Int)(c:List (Nat×AV)):List (Nat×AV):=(18,iV ((zF a.toNat ([]:List Int)).length:Int))::(19,iV b.2)::(37,iV ((rx (b.1.set b.2.toNat (zF a.toNat 0)) b.2).length:Int))::c
@[simp] abbrev YB(a:XD)(b:Tc)(c:List (Nat×Ent)):List (Nat×Ent):=(2,.mix 9 [[.rptr (Y0s a []),iV a.c_.n,.own 3 0 b.1.length,.own 4 0 b.2.1.length,nS,nS,.mp 5,.mp 6,.own 7 0 b.2.2.2.2.1.length]])::(3,rI b.1)::(4,rI b.2.1)::c
@[simp] abbrev YD(a:XD)(b:List (Nat×Ent)):List (Nat×Ent):=(2,.mix 9 [[.rptr (Y0s a []),iV a.c_.n,nS,nS,nS,nS,.mp 3,.mp 4,nS]])::(3,.mapE (.st 2) (Q1h []))::b
@[simp] abbrev YJ(a b:Tb)(c:Int)(d:List (Nat×Ent)):List (Nat×Ent):=(5,.mapE (.st 2) (Q1h (tset (⟨a.2.2.2.2.2.2,b.2.2.2.2.2.2⟩:Ends) c b.2.2.1)))::d
@[simp] abbrev YT(a:List (Nat×AV)):List (Nat×AV):=(2,.val (.pointer none))::(3,.val (.bool false))::a
@[simp] abbrev YX(a:List Int)(b:List (Nat×AV)):List (Nat×AV):=(98,.own 9 0 a.length)::(99,iV (a.length:Int))::b
@[simp] abbrev YY(a:List X3)(b:List (Nat×Ent)):List (Nat×Ent):=(8,.row 3 (Es (X3.cells true) a))::b
@[simp] abbrev Y01(a:Int)(b:List (Nat×AV)):List (Nat×AV):=(18,iV ((zF a.toNat ([]:List Int)).length:Int))::b
@[simp] abbrev Y0a(a:List Int)(b:List (Nat×AV)):List (Nat×AV):=(10,.own 9 0 a.length)::(11,.adr 10 0 0)::b
@[simp] abbrev Y0f(a:XD)(b:List (Nat×AV)):List (Nat×AV):=(158,lI a.c_.id)::(159,iV (a.c_.id.length:Int))::b
@[simp] abbrev Y0g(a:XD)(b:List Int×List Int×List X3×Int)(c:List (Nat×Ent)):List (Nat×Ent):=(2,.mix 9 [[.rptr (Y0s a []),iV a.c_.n,.own 3 0 b.1.length,.own 4 0 b.2.1.length,nS,nS,.mp 5,.mp 6,.own 7 0 b.2.2.1.length]])::(3,rI b.1)::(4,rI b.2.1)::c
@[simp] abbrev Y0l(a:List X3)(b:List (Nat×AV)):List (Nat×AV):=(78,.own 8 0 a.length)::(79,iV (a.length:Int))::b
theorem Q3o(w_:XD)(v247:Unit⊕Ta)(h:QH w_=some v247):ICon Tryz.prog 41 [.rptr (w_.cells true)] (λ_=>none) 0 (match v247 with|.inl v247=>({v:=.tup [.val (.pointer none),.val (.bool false)],set:=[],del:=[],new:=[],cnt:=0}:Eff)|.inr v247=>({v:=.tup [.adr 0 0 0,.val (.bool true)],set:=[],del:=[],new:=[(0,.mix 9 [[.rptr (Y0s w_ []),iV w_.c_.n,.own 1 0 v247.1.length,.own 2 0 v247.2.1.length,.own 3 0 v247.2.2.1.length,.own 4 0 v247.2.2.2.1.length,.mp 5,.mp 6,.own 7 0 v247.2.2.2.2.2.2.length]]),(1,rI v247.1),(2,rI v247.2.1),(3,rI v247.2.2.1),(4,.row 1 (Ls v247.2.2.2.1)),(5,.mapE (.st 2) (Q1h v247.2.2.2.2.1)),(6,.mapE (.ext (Q10 (.st 2) (.st 3) (gown (EC Ends.kv Q8 v247.2.2.2.2.2.1)))) []),(7,.row 3 (Es (X3.cells true) v247.2.2.2.2.2.2))],cnt:=8}:Eff)):=by
 refine Q1D (ts:=[2,3]) (H:=[]) Tryz.func41 rfl rfl rfl (by simp[Tryz.f41]) (by simp) (Q4L (by rcases v247 with v247|v247<;>simp)) (newI (by rcases v247 with v247|v247<;>rfl)) λF hN hP=>?_;unfold QH at h;refine Q0 (rxF [1] hN λK hK=>?_);simp;repeat refine sdQ ?_
 refine hK _ ?_;clear hK K;refine tn (Q4 (st':=⟨[(1,.rptr [.rptr (Y0s w_ [])])],[],0⟩) (wkQ []) (Q0 (rxQ hN λK hK=>?_)));simp;repeat refine sdQ ?_
 refine hK _ ?_;clear hK K;refine tn (Q4 (st':=⟨[(1,.rptr [.rptr (Y0s w_ [])]),(4,.adr 0 0 0)],[(0,.mix 1 [[.rptr (Cat.cells true w_.c_)]])],1⟩) (wkQ [(0,0)]) (Q0 (rxQ hN λK hK=>?_)));simp;repeat refine sdQ ?_
 refine hK _ ?_;clear hK K;refine tn (Q4 (st':=⟨Y2 w_ [],Y9 w_ (YD w_ [(4,.mapE (.st 2) ([]))]),5⟩) (wkQ [(0,0),(4,1),(3,2),(1,3),(2,4)]) (Q0 (rxQ hN λK hK=>?_)));simp;repeat refine sdQ ?_
 refine hK _ ?_;clear hK K;refine tn (Q4 (st':=⟨Y2 w_ [(6,.val (.bool true))],Y9 w_ (YD w_ [(4,.mapE (.st 2) ([]))]),5⟩) (wkI 5) (Q0 (Q0 (rxQ hN λK hK=>?_))));simp;repeat refine sdQ ?_
 refine hK _ (tn (Q4 (st':=⟨Y2 w_ [(6,.val (.bool true)),(35,iV w_.c_.n),(36,iV 0)],Y9 w_ (YD w_ [(4,.mapE (.st 2) ([]))]),5⟩) (wkI 5) ?_));clear hK K;replace⟨e2,h,h2⟩:=bind_some h;refine Qc (λb2:Tc=>⟨Y2 w_ [(6,.val (.bool b2.2.2.2.2.2))],Y9 w_ (YB w_ b2 (Yg b2 [])),8⟩) (λb2=>yS b2=e2) ?_ ?_
 ·refine Q4 (st':=⟨Y2 w_ [(6,.val (.bool true)),(35,iV w_.c_.n),(36,iV 0)],Y9 w_ (YD w_ [(4,.mapE (.ext (Q10 (.st 2) (.st 3) (gown (EC Ends.kv Q8 [])))) [])]),5⟩) (wk_newG (ek:=Ends.kv) (em:=Q8) (kd2:=(.st 3)) (j:=4) rfl rfl (by simp[St.get,look]) rfl (by simp[look])) (Q5 (Qm h (λs86:Tb=>⟨Y2 w_ [(6,.val (.bool s86.2.2.2.2.2.1)),(35,iV w_.c_.n),(36,iV s86.2.2.2.2.2.2)],Y1 w_ s86 (Yh s86 []),8⟩) (Q2M ⟨Y2 w_ [(6,.val (.bool true)),(35,iV w_.c_.n),(36,iV 0)],Y9 w_ [(2,.mix 9 [[.rptr (Y0s w_ []),iV w_.c_.n,.own 5 0 0,.own 6 0 0,nS,nS,.mp 3,.mp 4,.own 7 0 0]]),(3,.mapE (.st 2) (Q1h [])),(4,.mapE (.ext (Q10 (.st 2) (.st 3) (gown (EC Ends.kv Q8 [])))) []),(5,rI []),(6,rI []),(7,.row 3 (Es (X3.cells true) []))],8⟩ (Wk.nils [(5,1),(6,1),(7,3)] (by simp) (by simp) (by simp[nlA]) (by simp[entN,nlL,nlA,BN]) (by simp)) (wkQ [(0,0),(1,1),(2,2),(5,3),(6,4),(3,5),(4,6),(7,7)])) ?_));clear h;intro k86 s86 c86 h hk86;refine Q0 (rxQ hN λK hK=>?_);simp;repeat refine sdQ ?_
  refine hK _ ?_;clear hK K;refine tn (Q0 (Q6 rfl (λg=>?_) λg=>?_))
  ·have g87:s86.2.2.2.2.2.2<w_.c_.n:=gQ;clear g;replace h:=if_l g87 h;refine Q7 (tn (Q0 ?_));replace⟨e88,h,h88⟩:=bind_some h;refine Qc (λb88:Tc=>⟨Y2 w_ [(6,.val (.bool b88.2.2.2.2.2)),(35,iV w_.c_.n),(36,iV s86.2.2.2.2.2.2)],Y9 w_ (YB w_ b88 (Yg b88 [])),8⟩) (λb88=>yS b88=e88) ?_ ?_
   ·refine Q5 (Q0 (rxQ hN λK hK=>?_));simp;(repeat refine sdQ ?_);refine hK _ ?_;clear hK K;refine tn (Q4 (st':=⟨Y2 w_ [(6,.val (.bool s86.2.2.2.2.2.1)),(7,iV s86.2.2.2.2.2.2),(35,iV w_.c_.n),(36,iV s86.2.2.2.2.2.2)],Y1 w_ s86 (Yh s86 []),8⟩) (wkI 8) (Q0 (rxQ hN λK hK=>?_)));simp;(repeat refine sdQ ?_);refine hK _ (tn (Q4 (st':=⟨Y2 w_ [(6,.val (.bool s86.2.2.2.2.2.1)),(7,iV s86.2.2.2.2.2.2),(35,iV w_.c_.n),(36,iV s86.2.2.2.2.2.2),(42,iV w_.c_.n),(43,iV 0)],Y1 w_ s86 (Yh s86 []),8⟩) (wkI 8) (Q5 ?_)));clear hK K;replace⟨e129,he129,h129⟩:=bind_some h;refine Qm he129 (λs129:Tb=>⟨Y2 w_ ((6,.val (.bool s129.2.2.2.2.2.1))::(7,iV s86.2.2.2.2.2.2)::Yj w_ s86 s129 []),Y1 w_ s129 (Yh s129 []),8⟩) (wkI 8) ?_;intro k129 s129 c129 h hk129;refine Q0 (rxQ hN λK hK=>?_);simp;(repeat refine sdQ ?_);refine hK _ ?_;clear hK K;refine tn (Q0 (Q6 rfl (λg=>?_) λg=>?_))
    ·have g130:s129.2.2.2.2.2.2<w_.c_.n:=gQ;clear g;replace h:=if_l g130 h;refine Q7 (tn (Q0 ?_));replace⟨e131,h,h131⟩:=bind_some h;refine Qc (λb131:Tc=>⟨Y2 w_ ((6,.val (.bool b131.2.2.2.2.2))::(7,iV s86.2.2.2.2.2.2)::Yj w_ s86 s129 []),Y9 w_ (YB w_ b131 (Yg b131 [])),8⟩) (λb131=>yS b131=e131) ?_ ?_
     ·refine Q5 (Q0 (rxQ hN λK hK=>?_));simp;(repeat refine sdQ ?_);refine hK _ ?_;clear hK K;refine tn (Q4 (st':=⟨Y2 w_ ((6,.val (.bool s129.2.2.2.2.2.1))::(7,iV s86.2.2.2.2.2.2)::(8,iV s129.2.2.2.2.2.2)::Yj w_ s86 s129 []),Y1 w_ s129 (Yh s129 []),8⟩) (wkI 8) (Q0 (rxQ hN λK hK=>?_)));simp;(repeat with_reducible refine sdQ ?_);replace⟨v132,hv132,h⟩:=bind_some h;refine QG (fz:=[]) (Q45 _ _ _ v132 hv132) (.cons (.preT (by simp[CN])) (.cons .val (.cons .val .nil))) ?_;simp;(repeat refine sdQ ?_);refine hK _ ?_;clear hK K;refine tn (Q4 (st':=⟨Y2 w_ (Yf s129 s86 v132 (Yj w_ s86 s129 [])),Y1 w_ s129 (Yh s129 (YY v132 [])),9⟩) (wkI 9) (Q0 (Q0 (rxQ hN λK hK=>?_))));simp;(repeat refine sdQ ?_);refine hK _ ?_;clear hK K;refine tn (Q6 rfl (λg=>?_) λg=>?_)
      ·have g133:(v132.length:Int)>200:=gQ;clear g;replace h:=if_l g133 h;refine Q0 (rxQ hN λK hK=>?_);simp;(repeat refine sdQ ?_);refine hK _ (tn (Q4 (st':=⟨YT [],[],0⟩) (wkQ []) (Qi (tr (br (tr (lr (br (br (tr (lr (br (tr ?_)))))))))))));clear hK K;cases h;have h:=h131;(try dsimp only at h);cases h;have q:_=e129:=hk129;have h:=h129;rw[←q]at h;clear q;(try dsimp only at h);cases h;have h:=h88;(try dsimp only at h);cases h;have q:_=e2:=hk86;have h:=h2;rw[←q]at h;clear q;(try dsimp only at h);cases h;(try dsimp only);first|refine iw_r (st':=⟨YT [],[],0⟩) ?_ ?_|refine iw_n (st':=⟨YT [],[],0⟩) ?_ ?_
       ·exact wkQ []
       exact⟨by simp[QU],by simp,by simp[CN]⟩
      have g133:¬((v132.length:Int)>200):=gQ;clear g;replace h:=if_r g133 h;refine Q7 (tn (Q0 (rxQ hN λK hK=>?_)));simp;(repeat with_reducible refine sdQ ?_);replace⟨v134,hv134,h⟩:=bind_some h;refine QG (fz:=[]) (Q3b _ _ v134 hv134) (.cons (.preT (by simp[CN])) (.cons .w .nil)) ?_;simp;(repeat refine sdQ ?_);refine hK _ ?_;clear hK K;refine tn (Q4 (st':=⟨Y2 w_ (Yf s129 s86 v132 ((10,.own 9 0 v134.length)::Yj w_ s86 s129 [])),Y1 w_ s129 (Yh s129 (YY v132 [(9,rI v134)])),10⟩) (wkI 10) (Q0 (rxQ hN λK hK=>?_)));simp;(repeat refine sdQ ?_);refine hK _ ?_;clear hK K;refine tn (Q4 (st':=⟨Y2 w_ (Yf s129 s86 v132 (Y0a v134 (Yj w_ s86 s129 []))),Y1 w_ s129 (Yh s129 (YY v132 [(9,rI v134),(10,.mix 2 [[iV s86.2.2.2.2.2.2,iV s129.2.2.2.2.2.2]])])),11⟩) (wkI 11) (Q0 (w_runXS [] mo (by rw[hN];decide) λK hK=>?_)));simp;(repeat with_reducible refine sdQ ?_);replace⟨v135,hv135,h⟩:=bind_some h;refine QG (fz:=[]) (Q1n _ v135 hv135) (.cons (.field rfl (by simp[CN]) (.cons .val (.cons .w (.cons .w (.cons .nil (.cons .nil .nil)))))) .nil) ?_;replace⟨a136,h⟩:=Q1 h;simp;repeat with_reducible refine sdQ ?_
      refine Q2t (fz:=[]) (mp_entE (ek:=Ends.kv) (ev':=vI) (k:=(⟨s86.2.2.2.2.2.2,s129.2.2.2.2.2.2⟩:Ends)) (xs:=s129.2.2.1) (es2:=kent (Ends.kv (⟨s86.2.2.2.2.2.2,s129.2.2.2.2.2.2⟩:Ends)) (.int .i64 0) (Q1h s129.2.2.1)) rfl rfl rfl mf_60 rfl (by simp[MK.is,Ends.kv]) a136 (by simp) rfl) ?_;simp;(repeat with_reducible refine sdQ ?_);refine Q2t (fz:=[]) (mp_estE (ek:=Ends.kv) (ev':=vI) (k:=(⟨s86.2.2.2.2.2.2,s129.2.2.2.2.2.2⟩:Ends)) (v:=v135) (xs:=s129.2.2.1) (es2:=Q1h (tset (⟨s86.2.2.2.2.2.2,s129.2.2.2.2.2.2⟩:Ends) v135 s129.2.2.1)) Ends.kv_inj rfl rfl rfl rfl rfl rfl (by simp) rfl) ?_;replace⟨a137,h⟩:=Q1 h;simp;(repeat with_reducible refine sdQ ?_);refine Q2t (fz:=[]) (mp_entGE (ek:=Ends.kv) (em:=Q8) (k:=(⟨s86.2.2.2.2.2.2,s129.2.2.2.2.2.2⟩:Ends)) (xs:=s129.2.2.2.1) rfl rfl rfl mf_61 rfl (by simp[MK.is,Ends.kv]) a137 (by simp)) ?_;simp;(repeat with_reducible refine sdQ ?_);refine Q2t (fz:=[]) (mp_estGE (ek:=Ends.kv) (em:=Q8) (k:=(⟨s86.2.2.2.2.2.2,s129.2.2.2.2.2.2⟩:Ends)) (y0:=[]) (xs:=s129.2.2.2.1) (m:=12) Ends.kv_inj rfl rfl rfl rfl rfl rfl rfl (by simp) (by simp)) ?_;simp;(repeat refine sdQ ?_);refine hK _ ?_;clear hK K;refine tn (Q4 (st':=⟨Y2 w_ (Yf s129 s86 v132 (Y0a v134 (Yj w_ s86 s129 []))),Y1 w_ s129 (YJ s86 s129 v135 ((6,.mapE (.ext (Q10 (.st 2) (.st 3) (gown (EC Ends.kv Q8 (tset (⟨s86.2.2.2.2.2.2,s129.2.2.2.2.2.2⟩:Ends) [] s129.2.2.2.1))))) [])::Yx s129 v132 v134 [(10,.mix 2 [[iV s86.2.2.2.2.2.2,iV s129.2.2.2.2.2.2]])])),11⟩) (wkI 11) (Q0 (Q0 (rxQ hN λK hK=>?_))));simp;(repeat refine sdQ ?_);refine hK _ (tn ?_);clear hK K
      refine Q4 (st':=⟨Y2 w_ (Yf s129 s86 v132 (Y0a v134 (Yj w_ s86 s129 (Y0l v132 [(80,iV 0)])))),Y1 w_ s129 (YJ s86 s129 v135 ((6,.mapE (.ext (Q10 (.st 2) (.st 3) (gown (EC Ends.kv Q8 (tset (⟨s86.2.2.2.2.2.2,s129.2.2.2.2.2.2⟩:Ends) [] s129.2.2.2.1))))) [])::Yx s129 v132 v134 [(10,.mix 2 [[iV s86.2.2.2.2.2.2,iV s129.2.2.2.2.2.2]])])),11⟩) (wkI 11) (w_openG (T:=λbq138=>⟨Y2 w_ (Yf s129 s86 v132 (Y0a v134 (Yj w_ s86 s129 (Y0l v132 [(80,iV 0)])))),Y1 w_ s129 (YJ s86 s129 v135 ((6,.mapE (.ext (Q10 (.st 2) (.st 3) (kset (Ends.kv (⟨s86.2.2.2.2.2.2,s129.2.2.2.2.2.2⟩:Ends)) (.owa bq138 (Q8 [])) (gown (EC Ends.kv Q8 s129.2.2.2.1))))) [])::Yx s129 v132 v134 [(10,.mix 2 [[iV s86.2.2.2.2.2.2,iV s129.2.2.2.2.2.2]])])),11⟩) (ek:=Ends.kv) (em:=Q8) (j:=6) (k:=(⟨s86.2.2.2.2.2.2,s129.2.2.2.2.2.2⟩:Ends)) (y0:=[]) (xs:=s129.2.2.2.1) Ends.kv_inj rfl (by simp[St.get,look]) (λ_=>rfl) (by simp[look]) (λbq138=>?_));replace⟨e139,h,h139⟩:=bind_some h
      refine Qc (λb139:List (X3×Int)=>⟨Y2 w_ (Yf s129 s86 v132 ((10,.own 9 0 v134.length)::Yj w_ s86 s129 [])),Y1 w_ s129 (YJ s86 s129 v135 ((6,.mapE (.ext (Q10 (.st 2) (.st 3) (kset (Ends.kv (⟨s86.2.2.2.2.2.2,s129.2.2.2.2.2.2⟩:Ends)) (.owa bq138 (Q8 b139)) (gown (EC Ends.kv Q8 s129.2.2.2.1))))) [])::Yx s129 v132 v134 [])),10⟩) (λb139=>b139=e139) ?_ ?_
      ·refine Q5 (Qm h (λs145:Te×Int=>⟨Y2 w_ (Yf s129 s86 v132 (Y0a v134 (Yj w_ s86 s129 (Y0l v132 [(80,iV s145.2)])))),Y1 w_ s129 (YJ s86 s129 v135 ((6,.mapE (.ext (Q10 (.st 2) (.st 3) (kset (Ends.kv (⟨s86.2.2.2.2.2.2,s129.2.2.2.2.2.2⟩:Ends)) (.owa bq138 (Q8 s145.1)) (gown (EC Ends.kv Q8 s129.2.2.2.1))))) [])::Yx s129 v132 v134 [(10,.mix 2 [[iV s86.2.2.2.2.2.2,iV s129.2.2.2.2.2.2]])])),11⟩) (wkI 11) ?_);clear h;intro k145 s145 c145 h hk145;refine Q0 (rxQ hN λK hK=>?_);simp;(repeat refine sdQ ?_);refine hK _ ?_;clear hK K;refine tn (Q0 (Q6 rfl (λg=>?_) λg=>?_))
       ·have g146:s145.2<(v132.length:Int):=gQ;clear g;replace h:=if_l g146 h;refine Q7 (tn (Q0 (Q5 (Q0 (rxQ hN λK hK=>?_)))));replace⟨a147,h⟩:=Q1 h;simp[at_E (c:=(X3.cells true)) a147];(repeat refine sdQ ?_);refine hK _ ?_;clear hK K;refine tn (Q4 (st':=⟨Y2 w_ (Yf s129 s86 v132 (Y0a v134 ((12,iV s145.2)::(13,.adr 11 0 0)::Yj w_ s86 s129 (Y0l v132 [(80,iV s145.2)])))),Y1 w_ s129 (YJ s86 s129 v135 ((6,.mapE (.ext (Q10 (.st 2) (.st 3) (kset (Ends.kv (⟨s86.2.2.2.2.2.2,s129.2.2.2.2.2.2⟩:Ends)) (.owa bq138 (Q8 s145.1)) (gown (EC Ends.kv Q8 s129.2.2.2.1))))) [])::Yx s129 v132 v134 [(10,.mix 2 [[iV s86.2.2.2.2.2.2,iV s129.2.2.2.2.2.2]]),(11,.mix 3 [(X3.cells true (gx v132 s145.2))])])),12⟩) (wkQ [(0,0),(1,1),(2,2),(3,3),(4,4),(5,5),(6,6),(7,7),(8,8),(9,9),(10,10),(14,11)]) (rxQ hN λK hK=>?_));simp;(repeat with_reducible refine sdQ ?_);refine Q2t (fz:=[]) (mp_lookGE rfl rfl rfl mf_61 rfl (by simp[MK.is,Ends.kv])) ?_;replace⟨a148,h⟩:=Q1 h;replace⟨a149,h⟩:=Q1 h;simp[at_I a148];(repeat with_reducible refine sdQ ?_);refine Q2t (fz:=[]) (mp_updGE (ev2:=vI) (k2:=(gx v132 s145.2)) (cur:=s145.1) (es2:=Q8 (tset (gx v132 s145.2) (ix v134 s145.2) s145.1)) X3.kv_inj rfl rfl rfl mf_107 rfl (by simp[MK.is,X3.kv]) rfl a149 (by simp) rfl) ?_;simp[at_I a148];(repeat refine sdQ ?_);refine hK _ (bn (tn ?_));clear hK K
        refine Q4 (st':=⟨Y2 w_ (Yf s129 s86 v132 (Y0a v134 (Yj w_ s86 s129 (Y0l v132 [(80,iV s145.2)])))),Y1 w_ s129 (YJ s86 s129 v135 ((6,.mapE (.ext (Q10 (.st 2) (.st 3) (kset (Ends.kv (⟨s86.2.2.2.2.2.2,s129.2.2.2.2.2.2⟩:Ends)) (.owa bq138 (Q8 (tset (gx v132 s145.2) (ix v134 s145.2) s145.1))) (gown (EC Ends.kv Q8 s129.2.2.2.1))))) [])::Yx s129 v132 v134 [(10,.mix 2 [[iV s86.2.2.2.2.2.2,iV s129.2.2.2.2.2.2]])])),11⟩) (wkI 11) (rxQ hN λK hK=>?_);replace⟨a150,h⟩:=Q1 h;simp[Qg a150];(repeat refine sdQ ?_);refine hK _ ?_;clear hK K;cases h;exact rn (s':=(tset (gx v132 s145.2) (ix v134 s145.2) s145.1,s145.2+1)) hk145 (wkI 11)
       have g146:¬(s145.2<(v132.length:Int)):=gQ;clear g;replace h:=if_r g146 h;refine Qj (tx (lx (bh ?_)));cases h;exact jn (b:=s145.1) hk145 (wkI 10)
      intro b139 hb139;have h:=h139;(try rw[←hb139]at h);clear h139;(try dsimp only at h);refine Q0 (Q0 (rxQ hN λK hK=>?_));simp;(repeat with_reducible refine sdQ ?_);replace⟨v151,hv151,h⟩:=bind_some h;refine QG (fz:=[]) (Q4f _ v151 hv151) (.cons .w .nil) ?_;simp;(repeat refine sdQ ?_);refine hK _ (tn (Q4 (st':=⟨Y2 w_ (Yf s129 s86 v132 (Yj w_ s86 s129 (YX v151 [(100,iV 0)]))),Y1 w_ s129 (YJ s86 s129 v135 ((6,.mapE (.ext (Q10 (.st 2) (.st 3) (kset (Ends.kv (⟨s86.2.2.2.2.2.2,s129.2.2.2.2.2.2⟩:Ends)) (.owa bq138 (Q8 b139)) (gown (EC Ends.kv Q8 s129.2.2.2.1))))) [])::Yx s129 v132 v151 [])),10⟩) (wkQ [(0,0),(1,1),(2,2),(3,3),(4,4),(5,5),(6,6),(7,7),(8,8),(10,9)]) ?_));clear hK K;replace⟨e152,h,h152⟩:=bind_some h;refine Qc (λb152:List Int×List Int×List X3=>⟨Y2 w_ ((6,.val (.bool s129.2.2.2.2.2.1))::(7,iV s86.2.2.2.2.2.2)::Yj w_ s86 s129 []),Y9 w_ ((2,.mix 9 [[.rptr (Y0s w_ []),iV w_.c_.n,.own 3 0 b152.1.length,.own 4 0 b152.2.1.length,nS,nS,.mp 5,.mp 6,.own 7 0 b152.2.2.length]])::(3,rI b152.1)::(4,rI b152.2.1)::Yi s86 s129 v135 b139 [(7,.row 3 (Es (X3.cells true) b152.2.2))]),8⟩) (λb152=>b152=e152) ?_ ?_
      ·refine Q4 (st':=⟨Y2 w_ (Yf s129 s86 v132 (Yj w_ s86 s129 (YX v151 [(100,iV 0)]))),Y1 w_ s129 (Yi s86 s129 v135 b139 (Yx s129 v132 v151 [])),10⟩) (wk_closeG (ek:=Ends.kv) (em:=Q8) (j:=6) (k:=(⟨s86.2.2.2.2.2.2,s129.2.2.2.2.2.2⟩:Ends)) (y0:=b139) (xs:=s129.2.2.2.1) Ends.kv_inj rfl (by simp[St.get,look]) rfl (by simp[look])) (Q5 (Qm h (λs160:List Int×List Int×List X3×Int=>⟨Y2 w_ (Yf s129 s86 v132 (Yj w_ s86 s129 (YX v151 [(100,iV s160.2.2.2)]))),Y9 w_ (Y0g w_ s160 (Yi s86 s129 v135 b139 ((7,.row 3 (Es (X3.cells true) s160.2.2.1))::YY v132 [(9,rI v151)]))),10⟩) (wkI 10) ?_));clear h;intro k160 s160 c160 h hk160;refine Q0 (rxQ hN λK hK=>?_);simp;(repeat refine sdQ ?_);refine hK _ ?_;clear hK K;refine tn (Q0 (Q6 rfl (λg=>?_) λg=>?_))
       ·have g161:s160.2.2.2<(v151.length:Int):=gQ;clear g;replace h:=if_l g161 h;refine Q7 (tn (Q0 (Q5 (Q0 (rxQ hN λK hK=>?_)))));replace⟨a162,h⟩:=Q1 h;simp[at_I a162];(repeat refine sdQ ?_);refine hK _ ?_;clear hK K;refine tn (Q4 (st':=⟨Y2 w_ (Yf s129 s86 v132 ((15,iV (ix v151 s160.2.2.2))::Yj w_ s86 s129 (YX v151 [(100,iV s160.2.2.2)]))),Y9 w_ (Y0g w_ s160 (Yi s86 s129 v135 b139 ((7,.row 3 (Es (X3.cells true) s160.2.2.1))::YY v132 [(9,rI v151)]))),10⟩) (wkI 10) (Q0 (Q89 [] [5] 10 mo (by rw[hN];decide) λK hK=>?_)));replace⟨a163,h⟩:=Q1 h;replace⟨a164,h⟩:=Q1 h;(try simp only[qD,qH,zS]at a164);simp[at_E (c:=(X3.cells true)) a163,a164];(repeat refine sdQ ?_);refine hK _ ?_ (by rfl);clear hK K;refine tn (Q4 (st':=⟨Y2 w_ (Yf s129 s86 v132 (Yj w_ s86 s129 (YX v151 [(100,iV s160.2.2.2)]))),Y9 w_ ((2,.mix 9 [[.rptr (Y0s w_ []),iV w_.c_.n,.own 3 0 s160.1.length,.own 4 0 s160.2.1.length,nS,nS,.mp 5,.mp 6,.own 7 0 ((s160.2.2.1++[(gx v132 (ix v151 s160.2.2.2))]).length)]])::(3,rI s160.1)::(4,rI s160.2.1)::Yi s86 s129 v135 b139 ((7,.row 3 (Es (X3.cells true) (s160.2.2.1++[(gx v132 (ix v151 s160.2.2.2))])))::YY v132 [(9,rI v151)])),10⟩) (wkQ [(0,0),(1,1),(2,2),(3,3),(4,4),(5,5),(6,6),(14,7),(8,8),(9,9)]) (Q0 ?_))
        refine Q89 [] [5] 8 mo (by rw[hN];decide) λK hK=>?_;replace⟨a165,h⟩:=Q1 h;(try simp only[qD,qH,zS]at a165);simp[a165];(repeat refine sdQ ?_);refine hK _ ?_ (by rfl);clear hK K;refine tn (Q4 (st':=⟨Y2 w_ (Yf s129 s86 v132 (Yj w_ s86 s129 (YX v151 [(100,iV s160.2.2.2)]))),Y9 w_ ((2,.mix 9 [[.rptr (Y0s w_ []),iV w_.c_.n,.own 3 0 ((s160.1++[s86.2.2.2.2.2.2]).length),.own 4 0 s160.2.1.length,nS,nS,.mp 5,.mp 6,.own 7 0 ((s160.2.2.1++[(gx v132 (ix v151 s160.2.2.2))]).length)]])::(3,rI (s160.1++[s86.2.2.2.2.2.2]))::(4,rI s160.2.1)::Yi s86 s129 v135 b139 ((7,.row 3 (Es (X3.cells true) (s160.2.2.1++[(gx v132 (ix v151 s160.2.2.2))])))::YY v132 [(9,rI v151)])),10⟩) (wkQ [(0,0),(1,1),(2,2),(11,3),(4,4),(5,5),(6,6),(7,7),(8,8),(9,9)]) (Q89 [] [5] 8 mo (by rw[hN];decide) λK hK=>?_));replace⟨a166,h⟩:=Q1 h;(try simp only[qD,qH,zS]at a166);simp[a166];(repeat refine sdQ ?_);refine hK _ ?_ (by rfl);clear hK K;refine bn (tn ?_)
        refine Q4 (st':=⟨Y2 w_ (Yf s129 s86 v132 (Yj w_ s86 s129 (YX v151 [(100,iV s160.2.2.2)]))),Y9 w_ ((2,.mix 9 [[.rptr (Y0s w_ []),iV w_.c_.n,.own 3 0 ((s160.1++[s86.2.2.2.2.2.2]).length),.own 4 0 ((s160.2.1++[s129.2.2.2.2.2.2]).length),nS,nS,.mp 5,.mp 6,.own 7 0 ((s160.2.2.1++[(gx v132 (ix v151 s160.2.2.2))]).length)]])::(3,rI (s160.1++[s86.2.2.2.2.2.2]))::(4,rI (s160.2.1++[s129.2.2.2.2.2.2]))::Yi s86 s129 v135 b139 ((7,.row 3 (Es (X3.cells true) (s160.2.2.1++[(gx v132 (ix v151 s160.2.2.2))])))::YY v132 [(9,rI v151)])),10⟩) (wkQ [(0,0),(1,1),(2,2),(3,3),(11,4),(5,5),(6,6),(7,7),(8,8),(9,9)]) (rxQ hN λK hK=>?_);replace⟨a167,h⟩:=Q1 h;simp[Qg a167];(repeat refine sdQ ?_);refine hK _ ?_;clear hK K;cases h;exact rn (s':=(s160.1++[s86.2.2.2.2.2.2],s160.2.1++[s129.2.2.2.2.2.2],s160.2.2.1++[(gx v132 (ix v151 s160.2.2.2))],s160.2.2.2+1)) hk160 (wkI 10)
       have g161:¬(s160.2.2.2<(v151.length:Int)):=gQ;clear g;replace h:=if_r g161 h;refine Qj (tx (lx (bh ?_)));cases h;exact jn (b:=(s160.1,s160.2.1,s160.2.2.1)) hk160 (wkI 8)
      intro b152 hb152;have h:=h152;(try rw[←hb152]at h);clear h152;(try dsimp only at h);refine rxQ hN λK hK=>?_;simp;(repeat with_reducible refine sdQ ?_);refine Q8B (λg=>?_) (λg=>?_)
      ·have g168:s129.2.2.2.2.2.1=true:=gQ;clear g;replace h:=if_l g168 h;simp;(repeat refine sdQ ?_);refine hK _ (bn ?_);clear hK K;exact jn (b:=(b152.1,b152.2.1,tset (⟨s86.2.2.2.2.2.2,s129.2.2.2.2.2.2⟩:Ends) v135 s129.2.2.1,tset (⟨s86.2.2.2.2.2.2,s129.2.2.2.2.2.2⟩:Ends) b139 s129.2.2.2.1,b152.2.2,decide ((b152.2.2.length:Int)≤40))) (yJ h) (wkI 8)
      have g168:¬(s129.2.2.2.2.2.1=true):=gQ;clear g;replace h:=if_r g168 h;simp;(repeat refine sdQ ?_);refine hK _ (bn ?_);clear hK K;exact jn (b:=(b152.1,b152.2.1,tset (⟨s86.2.2.2.2.2.2,s129.2.2.2.2.2.2⟩:Ends) v135 s129.2.2.1,tset (⟨s86.2.2.2.2.2.2,s129.2.2.2.2.2.2⟩:Ends) b139 s129.2.2.2.1,b152.2.2,false)) (yJ h) (wkI 8)
     intro b131 hb131;have h:=h131;(try rw[←hb131]at h);clear h131;(try dsimp only at h);refine rxQ hN λK hK=>?_;replace⟨a169,h⟩:=Q1 h;simp[Qg a169];(repeat refine sdQ ?_);refine hK _ ?_;clear hK K;cases h;exact rn (s':=(b131.1,b131.2.1,b131.2.2.1,b131.2.2.2.1,b131.2.2.2.2.1,b131.2.2.2.2.2,s129.2.2.2.2.2.2+1)) hk129 (wkI 8)
    have g130:¬(s129.2.2.2.2.2.2<w_.c_.n):=gQ;clear g;replace h:=if_r g130 h;refine Qj (tx (lx (bh (bn ?_))));cases h;have q:_=e129:=hk129;have h:=h129;rw[←q]at h;clear q;(try dsimp only at h);exact jn (b:=(s129.1,s129.2.1,s129.2.2.1,s129.2.2.2.1,s129.2.2.2.2.1,s129.2.2.2.2.2.1)) (yJ h) (wkI 8)
   intro b88 hb88;have h:=h88;(try rw[←hb88]at h);clear h88;(try dsimp only at h);refine rxQ hN λK hK=>?_;replace⟨a170,h⟩:=Q1 h;simp[Qg a170];(repeat refine sdQ ?_);refine hK _ ?_;clear hK K;cases h;exact rn (s':=(b88.1,b88.2.1,b88.2.2.1,b88.2.2.2.1,b88.2.2.2.2.1,b88.2.2.2.2.2,s86.2.2.2.2.2.2+1)) hk86 (wkI 8)
  have g87:¬(s86.2.2.2.2.2.2<w_.c_.n):=gQ;clear g;replace h:=if_r g87 h;refine Qj (tx (lx (bh ?_)));cases h;exact jn (b:=(s86.1,s86.2.1,s86.2.2.1,s86.2.2.2.1,s86.2.2.2.2.1,s86.2.2.2.2.2.1)) hk86 (wkI 8)
 intro b2 hb2;have h:=h2;try rw[←hb2]at h
 clear h2;try dsimp only at h
 refine Q0 (Q0 (rxQ hN λK hK=>?_));simp;repeat refine sdQ ?_
 refine hK _ ?_;clear hK K;refine tn (Q6 rfl (λg=>?_) λg=>?_)
 ·have g171:¬(b2.2.2.2.2.2=true):=gQ;clear g;replace h:=if_l g171 h;refine Q0 (rxQ hN λK hK=>?_);simp;repeat refine sdQ ?_
  refine hK _ (tn (Q4 (st':=⟨YT [],[],0⟩) (wkQ []) (Qi (tr ?_))));clear hK K;cases h;try dsimp only
  first|refine iw_r (st':=⟨YT [],[],0⟩) ?_ ?_|refine iw_n (st':=⟨YT [],[],0⟩) ?_ ?_
  ·exact wkQ []
  exact⟨by simp[QU],by simp,by simp[CN]⟩
 have g171:¬(¬(b2.2.2.2.2.2=true)):=gQ;clear g;replace h:=if_r g171 h;refine Q7 (tn (Q0 (Q0 (rxQ hN λK hK=>?_))));simp;repeat refine sdQ ?_
 refine hK _ (tn (Q4 (st':=⟨Y2 w_ (Y0f w_ [(160,iV 0)]),Y9 w_ (YB w_ b2 (Yg b2 [])),8⟩) (wkI 8) ?_));clear hK K;replace⟨e172,h,h172⟩:=bind_some h;refine Qc (λb172:List Int=>⟨Y2 w_ [],Y9 w_ ((2,.mix 9 [[.rptr (Y0s w_ []),iV w_.c_.n,.own 3 0 b2.1.length,.own 4 0 b2.2.1.length,.own 5 0 b172.length,nS,.mp 6,.mp 7,.own 8 0 b2.2.2.2.2.1.length]])::(3,rI b2.1)::(4,rI b2.2.1)::(5,rI b172)::Y4 b2 []),9⟩) (λb172=>b172=e172) ?_ ?_
 ·refine Q5 (Qm h (λs178:List Int×Int=>⟨Y2 w_ (Y0f w_ [(160,iV s178.2)]),Y9 w_ ((2,.mix 9 [[.rptr (Y0s w_ []),iV w_.c_.n,.own 3 0 b2.1.length,.own 4 0 b2.2.1.length,.own 5 0 s178.1.length,nS,.mp 6,.mp 7,.own 8 0 b2.2.2.2.2.1.length]])::(3,rI b2.1)::(4,rI b2.2.1)::(5,rI s178.1)::Y4 b2 []),9⟩) (Q2M ⟨Y2 w_ (Y0f w_ [(160,iV 0)]),Y9 w_ ((2,.mix 9 [[.rptr (Y0s w_ []),iV w_.c_.n,.own 3 0 b2.1.length,.own 4 0 b2.2.1.length,.own 8 0 0,nS,.mp 5,.mp 6,.own 7 0 b2.2.2.2.2.1.length]])::(3,rI b2.1)::(4,rI b2.2.1)::Yg b2 [(8,rI [])]),9⟩ (Wk.nils [(8,1)] (by simp) (by simp) (by simp[nlA]) (by simp[entN,nlL,nlA,BN]) (by simp)) (wkQ [(0,0),(1,1),(2,2),(3,3),(4,4),(8,5),(5,6),(6,7),(7,8)])) ?_);clear h;intro k178 s178 c178 h hk178;refine Q0 (rxQ hN λK hK=>?_);simp;repeat refine sdQ ?_
  refine hK _ ?_;clear hK K;refine tn (Q0 (Q6 rfl (λg=>?_) λg=>?_))
  ·have g179:s178.2<(w_.c_.id.length:Int):=gQ;clear g;replace h:=if_l g179 h;refine Q7 (tn (Q0 (Q5 (Q0 (rxQ hN λK hK=>?_)))));replace⟨a180,h⟩:=Q1 h;simp[at_I a180];(repeat refine sdQ ?_);refine hK _ ?_;clear hK K;refine tn (Q4 (st':=⟨Y2 w_ ((16,iV s178.2)::(17,iV (ix w_.c_.id s178.2))::Y0f w_ [(160,iV s178.2)]),Y9 w_ ((2,.mix 9 [[.rptr (Y0s w_ []),iV w_.c_.n,.own 3 0 b2.1.length,.own 4 0 b2.2.1.length,.own 5 0 s178.1.length,nS,.mp 6,.mp 7,.own 8 0 b2.2.2.2.2.1.length]])::(3,rI b2.1)::(4,rI b2.2.1)::(5,rI s178.1)::Y4 b2 []),9⟩) (wkI 9) (Q89 [] [5] 15 mo (by rw[hN];decide) λK hK=>?_));simp;(repeat with_reducible refine sdQ ?_);replace⟨v181,hv181,h⟩:=bind_some h;refine QG (fz:=[]) (Q1G _ _ _ _ v181 hv181) (.cons (.field rfl (by simp[CN]) (.cons (.preT (by simp[CN])) (.cons .val (.cons .w (.cons .w (.cons .w (.cons .nil (.cons (.mp rfl) (.cons (.mpG rfl) (.cons .w .nil)))))))))) (.cons .val (.cons .val (.cons (.aggL (.cons .val (.cons .val (.cons .val .nil)))) .nil)))) ?_;replace⟨a182,h⟩:=Q1 h;(try simp only[qD,qH,zS]at a182);simp[a182];(repeat refine sdQ ?_);refine hK _ ?_ (by rfl);clear hK K;refine bn (tn (Q4 (st':=⟨Y2 w_ (Y0f w_ [(160,iV s178.2)]),Y9 w_ ((2,.mix 9 [[.rptr (Y0s w_ []),iV w_.c_.n,.own 3 0 b2.1.length,.own 4 0 b2.2.1.length,.own 5 0 ((s178.1++[v181]).length),nS,.mp 6,.mp 7,.own 8 0 b2.2.2.2.2.1.length]])::(3,rI b2.1)::(4,rI b2.2.1)::(5,rI (s178.1++[v181]))::Y4 b2 []),9⟩) (wkQ [(0,0),(1,1),(2,2),(3,3),(4,4),(11,5),(6,6),(7,7),(8,8)]) (rxQ hN λK hK=>?_)));replace⟨a183,h⟩:=Q1 h;simp[Qg a183];(repeat refine sdQ ?_);refine hK _ ?_;clear hK K;cases h;exact rn (s':=(s178.1++[v181],s178.2+1)) hk178 (wkI 9)
  have g179:¬(s178.2<(w_.c_.id.length:Int)):=gQ;clear g;replace h:=if_r g179 h;refine Qj (tx (lx (bh ?_)));cases h;exact jn (b:=s178.1) hk178 (wkI 9)
 intro b172 hb172;have h:=h172;try rw[←hb172]at h
 clear h172;try dsimp only at h
 refine Q0 (Q3W [] mo (by rw[hN];decide) λK hK=>?_);simp;repeat with_reducible refine sdQ ?_
 replace⟨v246,hv246,h⟩:=bind_some h;refine Q2B (fz:=[]) (Q1D (ts:=[]) (e:={v:=.tup [],set:=[(2,.mix 9 [[.rptr (Y0s w_ []),iV w_.c_.n,.own 3 0 b2.1.length,.own 4 0 b2.2.1.length,.own 5 0 b172.length,.own 9 0 v246.length,.mp 6,.mp 7,.own 8 0 b2.2.2.2.2.1.length]])],del:=[],new:=[(9,.row 1 (Ls v246))],cnt:=1}) Tryz.func67 rfl rfl rfl (by simp[Tryz.f67]) (by simp) (Q4L (by simp)) (newI (by rfl)) λF hN hP=>?_) ?_
 ·clear h;have h:=hv246;clear hv246;refine Q0 (rxQ hN λK hK=>?_);simp;repeat with_reducible refine sdQ ?_
  replace⟨v185,hv185,h⟩:=bind_some h;refine QG (fz:=[]) (Q1n _ v185 hv185) (.cons (.field rfl (by simp[CN]) (.cons .val (.cons .w (.cons .w (.cons .w (.cons .nil .nil)))))) .nil) ?_;simp;repeat refine sdQ ?_
  refine hK _ ?_;clear hK K;refine tn (Q4 (st':=⟨Yc w_ v185 [],Y9 w_ ((2,.mix 9 [[.rptr (Y0s w_ []),iV w_.c_.n,.own 3 0 b2.1.length,.own 4 0 b2.2.1.length,.own 5 0 b172.length,nS,.mp 6,.mp 7,.own 8 0 b2.2.2.2.2.1.length]])::(3,rI b2.1)::(4,rI b2.2.1)::(5,rI b172)::Y4 b2 []),9⟩) (wkJ 9 hP) (Q0 (rxF [11] hN λK hK=>?_)));replace⟨a186,h⟩:=Q1 h;simp;repeat refine sdQ ?_
  refine hK _ ?_;clear hK K;refine tn (Q4 (st':=⟨Yc w_ v185 [],Y9 w_ ((2,.mix 9 [[.rptr (Y0s w_ []),iV w_.c_.n,.own 3 0 b2.1.length,.own 4 0 b2.2.1.length,.own 5 0 b172.length,.own 9 0 ((zF v185.toNat ([]:List Int)).length),.mp 6,.mp 7,.own 8 0 b2.2.2.2.2.1.length]])::(3,rI b2.1)::(4,rI b2.2.1)::(5,rI b172)::Y4 b2 [(9,.row 1 (Ls (zF v185.toNat ([]:List Int))))]),10⟩) (wkP [(0,0),(1,1),(2,2),(3,3),(4,4),(5,5),(9,9),(6,6),(7,7),(8,8)] hP) (Q0 (rxQ hN λK hK=>?_)));simp;repeat refine sdQ ?_
  refine hK _ (tn (Q4 (st':=⟨Yc w_ v185 (Y01 v185 [(19,iV 0)]),Y9 w_ ((2,.mix 9 [[.rptr (Y0s w_ []),iV w_.c_.n,.own 3 0 b2.1.length,.own 4 0 b2.2.1.length,.own 5 0 b172.length,.own 9 0 ((zF v185.toNat ([]:List Int)).length),.mp 6,.mp 7,.own 8 0 b2.2.2.2.2.1.length]])::(3,rI b2.1)::(4,rI b2.2.1)::(5,rI b172)::Y4 b2 [(9,.row 1 (Ls (zF v185.toNat ([]:List Int))))]),10⟩) (wkP [(0,0),(1,1),(2,2),(3,3),(4,4),(5,5),(9,9),(6,6),(7,7),(8,8)] hP) (Q5 ?_)));clear hK K;replace⟨e216,he216,h216⟩:=bind_some h;refine Qm he216 (λs216:List (List Int)×Int=>⟨Yc w_ v185 (Y01 v185 [(19,iV s216.2)]),Y9 w_ (Yk w_ b2 b172 s216 (Y4 b2 [(9,.row 1 (Ls s216.1))])),10⟩) (wkP [(0,0),(1,1),(2,2),(3,3),(4,4),(5,5),(9,9),(6,6),(7,7),(8,8)] hP) ?_;intro k216 s216 c216 h hk216;refine Q0 (rxQ hN λK hK=>?_);simp;repeat refine sdQ ?_
  refine hK _ ?_;clear hK K;refine tn (Q0 (Q6 rfl (λg=>?_) λg=>?_))
  ·have g217:s216.2<((zF v185.toNat ([]:List Int)).length:Int):=gQ;clear g;replace h:=if_l g217 h;refine Q7 (tn (Q0 ?_));replace⟨e218,h,h218⟩:=bind_some h;refine Qc (λb218:List (List Int)=>⟨Yc w_ v185 (Y01 v185 [(19,iV s216.2)]),Y9 w_ ((2,.mix 9 [[.rptr (Y0s w_ []),iV w_.c_.n,.own 3 0 b2.1.length,.own 4 0 b2.2.1.length,.own 5 0 b172.length,.own 9 0 b218.length,.mp 6,.mp 7,.own 8 0 b2.2.2.2.2.1.length]])::(3,rI b2.1)::(4,rI b2.2.1)::(5,rI b172)::Y4 b2 [(9,.row 1 (Ls b218))]),10⟩) (λb218=>b218=e218) ?_ ?_
   ·refine Q5 (Q0 (rxQ hN λK hK=>?_));simp;(repeat refine sdQ ?_);refine hK _ ?_;clear hK K;refine tn (Q4 (st':=⟨Yc w_ v185 ((5,iV s216.2)::Y01 v185 [(19,iV s216.2)]),Y9 w_ (Yk w_ b2 b172 s216 (Y4 b2 [(9,.row 1 (Ls s216.1))])),10⟩) (wkP [(0,0),(1,1),(2,2),(3,3),(4,4),(5,5),(9,9),(6,6),(7,7),(8,8)] hP) (Q0 (rxQ hN λK hK=>?_)));replace⟨a219,h⟩:=Q1 h;replace⟨a220,h⟩:=Q1 h;simp[at_L a220];(repeat with_reducible refine sdQ ?_);refine stoX_row (fz:=[]) [] tf_22 rfl (b:=.lst true 1 (Is (zF v185.toNat 0))) (ds:=[10]) (es2:=Ls (s216.1.set s216.2.toNat (zF v185.toNat 0))) rfl (by simp) (by first|(simp;done)|(simp;omega)|omega) (by simp) (by simp) (by simp) (by simp) Ls_st ?_;simp[at_L a220];(repeat refine sdQ ?_);refine hK _ ?_;clear hK K;refine tn (Q4 (st':=⟨Yc w_ v185 ((5,iV s216.2)::Y01 v185 [(19,iV s216.2)]),Y9 w_ ((2,.mix 9 [[.rptr (Y0s w_ []),iV w_.c_.n,.own 3 0 b2.1.length,.own 4 0 b2.2.1.length,.own 5 0 b172.length,.own 9 0 ((s216.1.set s216.2.toNat (zF v185.toNat 0)).length),.mp 6,.mp 7,.own 8 0 b2.2.2.2.2.1.length]])::(3,rI b2.1)::(4,rI b2.2.1)::(5,rI b172)::Y4 b2 [(9,.row 1 (Ls (s216.1.set s216.2.toNat (zF v185.toNat 0))))]),10⟩) (wkP [(0,0),(1,1),(2,2),(3,3),(4,4),(5,5),(9,9),(6,6),(7,7),(8,8)] hP) (Q0 (rxQ hN λK hK=>?_)));replace⟨a221,h⟩:=Q1 h;simp[at_L a221];(repeat refine sdQ ?_);refine hK _ (tn ?_);clear hK K
    refine Q4 (st':=⟨Yc w_ v185 ((5,iV s216.2)::Yy v185 s216 [(38,iV 0)]),Y9 w_ ((2,.mix 9 [[.rptr (Y0s w_ []),iV w_.c_.n,.own 3 0 b2.1.length,.own 4 0 b2.2.1.length,.own 5 0 b172.length,.own 9 0 ((s216.1.set s216.2.toNat (zF v185.toNat 0)).length),.mp 6,.mp 7,.own 8 0 b2.2.2.2.2.1.length]])::(3,rI b2.1)::(4,rI b2.2.1)::(5,rI b172)::Y4 b2 [(9,.row 1 (Ls (s216.1.set s216.2.toNat (zF v185.toNat 0))))]),10⟩) (wkP [(0,0),(1,1),(2,2),(3,3),(4,4),(5,5),(9,9),(6,6),(7,7),(8,8)] hP) (Q5 ?_);replace⟨e233,he233,h233⟩:=bind_some h;refine Qm he233 (λs233:List (List Int)×Int=>⟨Yc w_ v185 ((5,iV s216.2)::Yy v185 s216 [(38,iV s233.2)]),Y9 w_ (Yk w_ b2 b172 s233 (Y4 b2 [(9,.row 1 (Ls s233.1))])),10⟩) (wkP [(0,0),(1,1),(2,2),(3,3),(4,4),(5,5),(9,9),(6,6),(7,7),(8,8)] hP) ?_;intro k233 s233 c233 h hk233;refine Q0 (rxQ hN λK hK=>?_);simp;(repeat refine sdQ ?_);refine hK _ ?_;clear hK K;refine tn (Q0 (Q6 rfl (λg=>?_) λg=>?_))
    ·have g234:s233.2<((rx (s216.1.set s216.2.toNat (zF v185.toNat 0)) s216.2).length:Int):=gQ;clear g;replace h:=if_l g234 h;refine Q7 (tn (Q0 ?_));replace⟨e235,h,h235⟩:=bind_some h;refine Qc (λb235:List (List Int)=>⟨Yc w_ v185 ((5,iV s216.2)::Yy v185 s216 [(38,iV s233.2)]),Y9 w_ ((2,.mix 9 [[.rptr (Y0s w_ []),iV w_.c_.n,.own 3 0 b2.1.length,.own 4 0 b2.2.1.length,.own 5 0 b172.length,.own 9 0 b235.length,.mp 6,.mp 7,.own 8 0 b2.2.2.2.2.1.length]])::(3,rI b2.1)::(4,rI b2.2.1)::(5,rI b172)::Y4 b2 [(9,.row 1 (Ls b235))]),10⟩) (λb235=>b235=e235) ?_ ?_
     ·refine Q5 (Q0 (rxQ hN λK hK=>?_));simp;(repeat refine sdQ ?_);refine hK _ ?_;clear hK K;refine tn (Q4 (st':=⟨Yc w_ v185 ((5,iV s216.2)::(6,iV s233.2)::Yy v185 s216 [(38,iV s233.2)]),Y9 w_ (Yk w_ b2 b172 s233 (Y4 b2 [(9,.row 1 (Ls s233.1))])),10⟩) (wkP [(0,0),(1,1),(2,2),(3,3),(4,4),(5,5),(9,9),(6,6),(7,7),(8,8)] hP) (Q0 (rxQ hN λK hK=>?_)));replace⟨a236,h⟩:=Q1 h;replace⟨a237,h⟩:=Q1 h;simp[at_L a236,at_I a237];(repeat refine sdQ ?_);refine hK _ ?_;clear hK K;refine tn (Q4 (st':=⟨Yc w_ v185 ((5,iV s216.2)::(6,iV s233.2)::Yy v185 s216 [(38,iV s233.2)]),Y9 w_ ((2,.mix 9 [[.rptr (Y0s w_ []),iV w_.c_.n,.own 3 0 b2.1.length,.own 4 0 b2.2.1.length,.own 5 0 b172.length,.own 9 0 ((s233.1.set s216.2.toNat ((rx s233.1 s216.2).set s233.2.toNat (-1))).length),.mp 6,.mp 7,.own 8 0 b2.2.2.2.2.1.length]])::(3,rI b2.1)::(4,rI b2.2.1)::(5,rI b172)::Y4 b2 [(9,.row 1 (Ls (s233.1.set s216.2.toNat ((rx s233.1 s216.2).set s233.2.toNat (-1)))))]),10⟩) (wkP [(0,0),(1,1),(2,2),(3,3),(4,4),(5,5),(9,9),(6,6),(7,7),(8,8)] hP) (Q0 (rxQ hN λK hK=>?_)));replace⟨a238,h⟩:=Q1 h;replace⟨a239,h⟩:=Q1 h;simp[at_I a238,at_I a239];(repeat refine sdQ ?_);refine hK _ ?_;clear hK K;refine tn (Q6 rfl (λg=>?_) λg=>?_)
      ·have g240:(ix b2.2.1 s216.2)=(ix b2.1 s233.2):=gQ;clear g;replace h:=if_l g240 h;refine rxQ hN λK hK=>?_;replace⟨a241,h⟩:=Q1 h;simp[at_L a241];(repeat with_reducible refine sdQ ?_);replace⟨v242,hv242,h⟩:=bind_some h;refine QG (fz:=[]) (Q1X _ _ _ _ _ v242 hv242) (.cons .val (.cons .val (.cons (.field rfl (by simp[CN]) (.cons (.field rfl (by simp[CN]) (.cons (.preT (by simp[CN])) (.cons .val (.cons .w (.cons .w (.cons .w (.cons .w (.cons (.mp rfl) (.cons (.mpG rfl) (.cons .w .nil)))))))))) .nil)) (.cons .rptr (.cons (.field rfl (by simp[CN]) (.cons (.preT (by simp[CN])) .nil)) .nil))))) ?_;replace⟨a243,h⟩:=Q1 h;simp[at_L a241,at_I a243];(repeat refine sdQ ?_);refine hK _ (bn ?_);clear hK K;exact jn (b:=(s233.1.set s216.2.toNat ((rx s233.1 s216.2).set s233.2.toNat (-1))).set s216.2.toNat ((rx (s233.1.set s216.2.toNat ((rx s233.1 s216.2).set s233.2.toNat (-1))) s216.2).set s233.2.toNat v242)) (yJ h) (wkP [(0,0),(1,1),(2,2),(3,3),(4,4),(5,5),(9,9),(6,6),(7,7),(8,8)] hP)
      have g240:¬((ix b2.2.1 s216.2)=(ix b2.1 s233.2)):=gQ;clear g;replace h:=if_r g240 h;refine Q7 (bn ?_);exact jn (b:=s233.1.set s216.2.toNat ((rx s233.1 s216.2).set s233.2.toNat (-1))) (yJ h) (wkP [(0,0),(1,1),(2,2),(3,3),(4,4),(5,5),(9,9),(6,6),(7,7),(8,8)] hP)
     intro b235 hb235;have h:=h235;(try rw[←hb235]at h);clear h235;(try dsimp only at h);refine rxQ hN λK hK=>?_;replace⟨a244,h⟩:=Q1 h;simp[Qg a244];(repeat refine sdQ ?_);refine hK _ ?_;clear hK K;cases h;exact rn (s':=(b235,s233.2+1)) hk233 (wkP [(0,0),(1,1),(2,2),(3,3),(4,4),(5,5),(9,9),(6,6),(7,7),(8,8)] hP)
    have g234:¬(s233.2<((rx (s216.1.set s216.2.toNat (zF v185.toNat 0)) s216.2).length:Int)):=gQ;clear g;replace h:=if_r g234 h;refine Qj (tx (lx (bh (bn ?_))));cases h;have q:_=e233:=hk233;have h:=h233;rw[←q]at h;clear q;(try dsimp only at h);exact jn (b:=s233.1) (yJ h) (wkP [(0,0),(1,1),(2,2),(3,3),(4,4),(5,5),(9,9),(6,6),(7,7),(8,8)] hP)
   intro b218 hb218;have h:=h218;(try rw[←hb218]at h);clear h218;(try dsimp only at h);refine rxQ hN λK hK=>?_;replace⟨a245,h⟩:=Q1 h;simp[Qg a245];(repeat refine sdQ ?_);refine hK _ ?_;clear hK K;cases h;exact rn (s':=(b218,s216.2+1)) hk216 (wkP [(0,0),(1,1),(2,2),(3,3),(4,4),(5,5),(9,9),(6,6),(7,7),(8,8)] hP)
  have g217:¬(s216.2<((zF v185.toNat ([]:List Int)).length:Int)):=gQ;clear g;replace h:=if_r g217 h;refine Qj (tx (lx (bh ?_)));cases h;have q:_=e216:=hk216;have h:=h216;rw[←q]at h;clear q;try dsimp only at h
  cases h;first|refine iw_r (st':=⟨[],Y9 w_ (Yk w_ b2 b172 s216 (Y4 b2 [(9,.row 1 (Ls s216.1))])),10⟩) ?_ ?_|refine iw_n (st':=⟨[],Y9 w_ (Yk w_ b2 b172 s216 (Y4 b2 [(9,.row 1 (Ls s216.1))])),10⟩) ?_ ?_
  ·exact wkP [(0,0),(1,1),(2,2),(3,3),(4,4),(5,5),(9,9),(6,6),(7,7),(8,8)] hP
  exact⟨by simp[QU],by simp,by simp[CN]⟩
 simp;repeat refine sdQ ?_
 refine hK _ ?_;clear hK K;refine tn (Q4 (st':=⟨[(5,.adr 0 0 0)],(0,.mix 1 [[.adr 1 0 0]])::(1,.mix 9 [[.rptr (Y0s w_ []),iV w_.c_.n,.own 2 0 b2.1.length,.own 3 0 b2.2.1.length,.own 4 0 b172.length,.own 5 0 v246.length,.mp 6,.mp 7,.own 8 0 b2.2.2.2.2.1.length]])::(2,rI b2.1)::(3,rI b2.2.1)::(4,rI b172)::(5,.row 1 (Ls v246))::Y4 b2 [],9⟩) (wkQ [(1,0),(2,1),(3,2),(4,3),(5,4),(9,5),(6,6),(7,7),(8,8)]) (Q0 (rxQ hN λK hK=>?_)));simp;repeat refine sdQ ?_
 refine hK _ (tn (Q4 (st':=⟨Yw [(3,.val (.bool true))],(0,.mix 9 [[.rptr (Y0s w_ []),iV w_.c_.n,.own 1 0 b2.1.length,.own 2 0 b2.2.1.length,.own 3 0 b172.length,.own 4 0 v246.length,.mp 5,.mp 6,.own 7 0 b2.2.2.2.2.1.length]])::(1,rI b2.1)::(2,rI b2.2.1)::(3,rI b172)::(4,.row 1 (Ls v246))::Yg b2 [],8⟩) (wkQ [(1,0),(2,1),(3,2),(4,3),(5,4),(6,5),(7,6),(8,7)]) (Qi ?_)));clear hK K;cases h;try dsimp only
 first|refine iw_r (st':=⟨Yw [(3,.val (.bool true))],(0,.mix 9 [[.rptr (Y0s w_ []),iV w_.c_.n,.own 1 0 b2.1.length,.own 2 0 b2.2.1.length,.own 3 0 b172.length,.own 4 0 v246.length,.mp 5,.mp 6,.own 7 0 b2.2.2.2.2.1.length]])::(1,rI b2.1)::(2,rI b2.2.1)::(3,rI b172)::(4,.row 1 (Ls v246))::Yg b2 [],8⟩) ?_ ?_|refine iw_n (st':=⟨Yw [(3,.val (.bool true))],(0,.mix 9 [[.rptr (Y0s w_ []),iV w_.c_.n,.own 1 0 b2.1.length,.own 2 0 b2.2.1.length,.own 3 0 b172.length,.own 4 0 v246.length,.mp 5,.mp 6,.own 7 0 b2.2.2.2.2.1.length]])::(1,rI b2.1)::(2,rI b2.2.1)::(3,rI b172)::(4,.row 1 (Ls v246))::Yg b2 [],8⟩) ?_ ?_
 ·exact wkI 8
 exact⟨by simp[QU],by simp,by simp[CN]⟩
attribute [local simp] unk unA unE unT unC flat eL eI Qh QI Q4x Qz Q13 Cat.cells Ends.cells XD.cells X3.cells
def Q1r(c_:Cat)(list_:List Int):Option (Int⊕(Int×List Int×List Int×List Int×List (List Int)×List Int×List Bool×Int×List Int×List Int×List Int×List (List Int)×(List (Ends×Int))×Td×List X3)):=
 (Q1J c_ list_ []).bind λv2=>
 match v2 with
 | .inl v2=>
  if¬(v2=0)then
   some (yS v2)
  else
   ass (False)<|
   none
 | .inr v2=>
  (QH (⟨c_,list_,v2⟩:XD)).bind λv4=>
  match v4 with
  | .inl v4=>
   some (yS 3)
  | .inr v4=>
   some (yT ((⟨c_,list_,v2⟩:XD).c_.n,(⟨c_,list_,v2⟩:XD).c_.fr,(⟨c_,list_,v2⟩:XD).c_.to,(⟨c_,list_,v2⟩:XD).c_.id,(⟨c_,list_,v2⟩:XD).c_.cs,(⟨c_,list_,v2⟩:XD).list_,(⟨c_,list_,v2⟩:XD).there_,(⟨c_,list_,v2⟩:XD).c_.n,v4.1,v4.2.1,v4.2.2.1,v4.2.2.2.1,v4.2.2.2.2.1,v4.2.2.2.2.2.1,v4.2.2.2.2.2.2))
theorem Q5P(c_:Cat)(list_:List Int)(v5:Int⊕(Int×List Int×List Int×List Int×List (List Int)×List Int×List Bool×Int×List Int×List Int×List Int×List (List Int)×(List (Ends×Int))×Td×List X3))(h:Q1r c_ list_=some v5):ICon0 Tryz.prog 25 [.rptr (c_.cells true),lI list_] (λ_=>none) 0 (match v5 with|.inl v5=>({v:=.tup [.val (.pointer none),iV v5],set:=[],del:=[],new:=[],cnt:=0}:Eff)|.inr v5=>({v:=.tup [.adr 0 0 0,iV 0],set:=[],del:=[],new:=[(0,.mix 9 [[.rptr [.rptr [iV v5.1,lI v5.2.1,lI v5.2.2.1,lI v5.2.2.2.1,.lst true 1 (Ls v5.2.2.2.2.1)],lI v5.2.2.2.2.2.1,.lst true 1 (Bs v5.2.2.2.2.2.2.1)],iV v5.2.2.2.2.2.2.2.1,.own 1 0 v5.2.2.2.2.2.2.2.2.1.length,.own 2 0 v5.2.2.2.2.2.2.2.2.2.1.length,.own 3 0 v5.2.2.2.2.2.2.2.2.2.2.1.length,.own 4 0 v5.2.2.2.2.2.2.2.2.2.2.2.1.length,.mp 5,.mp 6,.own 7 0 v5.2.2.2.2.2.2.2.2.2.2.2.2.2.2.length]]),(1,rI v5.2.2.2.2.2.2.2.2.1),(2,rI v5.2.2.2.2.2.2.2.2.2.1),(3,rI v5.2.2.2.2.2.2.2.2.2.2.1),(4,.row 1 (Ls v5.2.2.2.2.2.2.2.2.2.2.2.1)),(5,.mapE (.st 2) (Q1h v5.2.2.2.2.2.2.2.2.2.2.2.2.1)),(6,.mapE (.ext (Q10 (.st 2) (.st 3) (gown (EC Ends.kv Q8 v5.2.2.2.2.2.2.2.2.2.2.2.2.2.1)))) []),(7,.row 3 (Es (X3.cells true) v5.2.2.2.2.2.2.2.2.2.2.2.2.2.2))],cnt:=8}:Eff)):=by
 refine Q8D (ts:=[4,5]) (H:=[]) Tryz.func25 rfl rfl rfl (by simp[Tryz.f25]) (by simp) (Q4L (by rcases v5 with v5|v5<;>simp)) (newI (by rcases v5 with v5|v5<;>rfl)) λF hN hP hW=>?_;unfold Q1r at h;refine Q0 (rxQ hN λK hK=>?_);simp;repeat refine sdQ ?_
 refine hK _ ?_;clear hK K;refine tn (Q4 (st':=⟨Yt c_ [(1,lI list_)],[],0⟩) (wkQ []) (Q0 (Q3W [] mo (by rw[hN];decide) λK hK=>?_)));simp;repeat with_reducible refine sdQ ?_
 replace⟨v2,hv2,h⟩:=bind_some h;refine Q2B (fz:=[]) (ICon.preL (.eq (.eq (.nz .nil))) (ICon.liftL (e':=(match(generalizing:=false) v2 with|.inl v2=>{v:=.tup [.val (.pointer none),iV v2],new:=[],cnt:=0}|.inr v2=>{v:=.tup [.adr 0 0 0,iV 0],new:=[(0,.mix 3 [(Y0v c_ [lI list_,.own 1 0 v2.length])]),(1,.row 1 (Bs v2))],cnt:=2})) (Q5O _ _ _ v2 hv2) (by simp[AV.ro,rl,rlL,rlLL,Q1z,BN]) (by rcases v2 with v2|v2<;>simp) (by rcases v2 with v2|v2<;>simp) (by rcases v2 with v2|v2<;>rfl) (by rcases v2 with v2|v2<;>simp[AV.ro,rl,rlL,rlLL,Q1z,BN]) (by rcases v2 with v2|v2<;>simp[Q6M]) (by rcases v2 with v2|v2<;>rfl) (by rcases v2 with v2|v2<;>simp[AV.ro,rl,rlL,rlLL,Q1z,BN]) (Q4L (by rcases v2 with v2|v2<;>simp)))) ?_;clear hv2;rcases v2 with v2|v2
 ·try dsimp only at h
  try dsimp only
  simp;repeat refine sdQ ?_
  refine hK _ ?_;clear hK K;refine tn (Q4 (st':=⟨YL [(7,iV v2)],[],0⟩) (wkQ []) (Q0 (Q0 (rxQ hN λK hK=>?_))));simp;repeat refine sdQ ?_
  refine hK _ ?_;clear hK K;refine tn (Q6 rfl (λg=>?_) λg=>?_)
  ·have g3:¬(v2=0):=gQ;clear g;replace h:=if_l g3 h;refine Q0 (rxQ hN λK hK=>?_);simp;(repeat refine sdQ ?_);refine hK _ (tn (Q4 (st':=⟨[(4,.val (.pointer none)),(5,iV v2)],[],0⟩) (wkQ []) (Qi (tr ?_))));clear hK K;cases h;(try dsimp only);first|refine iw_r (st':=⟨[(4,.val (.pointer none)),(5,iV v2)],[],0⟩) ?_ ?_|refine iw_n (st':=⟨[(4,.val (.pointer none)),(5,iV v2)],[],0⟩) ?_ ?_
   ·exact wkQ []
   exact⟨by simp[QU],by simp,by simp[CN]⟩
  have g3:¬(¬(v2=0)):=gQ;clear g;replace h:=if_r g3 h;refine Q7 (tn (Q0 (rxQ hN λK hK=>?_)));exact(Q1 h).1.elim
 try dsimp only at h
 try dsimp only
 simp;repeat refine sdQ ?_
 refine hK _ ?_;clear hK K;refine tn (Q4 (st':=⟨Y0k [],[(0,.mix 3 [(Y0v c_ [lI list_,.own 1 0 v2.length])]),(1,.row 1 (Bs v2))],2⟩) (wkQ [(0,0),(1,1)]) (Q0 (Q0 (rxQ hN λK hK=>?_))));simp;repeat refine sdQ ?_
 refine hK _ (tn (Q6 rfl (λg=>by simp at g) λ_=>?_));clear hK K;refine Q7 (tn (Q0 (Q4 (st':=⟨[(6,.rptr (Y0v c_ [lI list_,.lst true 1 (Bs v2)])),(7,iV 0),(16,iV 0),(17,.val (.bool false))],[],2⟩) (Wk.frzD hW [0,1] (Q5f (.inr (.inr (.adr rfl (by simp) rfl (.cons (.ro rfl) (.cons (.ro rfl) (.cons (.row rfl (by simp) (by simp)) .nil)))))) (Q5f (.inl rfl) (Q5f (.inl rfl) (Q5f (.inl rfl) frz_n)))) rfl (by simp[look])) (Q3W [] mo (by rw[hN];decide) λK hK=>?_))));simp;repeat with_reducible refine sdQ ?_
 replace⟨v4,hv4,h⟩:=bind_some h;refine Q2B (fz:=[]) (ICon.liftL (e':=(match(generalizing:=false) v4 with|.inl v4=>{v:=.tup [.val (.pointer none),.val (.bool false)],new:=[],cnt:=0}|.inr v4=>{v:=.tup [.adr 2 0 0,.val (.bool true)],new:=[(2,.mix 9 [[.rptr [.rptr (Cat.cells true ((⟨c_,list_,v2⟩:XD).c_)),lI ((⟨c_,list_,v2⟩:XD).list_),.lst true 1 (Bs ((⟨c_,list_,v2⟩:XD).there_))],iV ((⟨c_,list_,v2⟩:XD).c_.n),.own 3 0 v4.1.length,.own 4 0 v4.2.1.length,.own 5 0 v4.2.2.1.length,.own 6 0 v4.2.2.2.1.length,.mp 7,.mp 8,.own 9 0 v4.2.2.2.2.2.2.length]]),(3,rI v4.1),(4,rI v4.2.1),(5,rI v4.2.2.1),(6,.row 1 (Ls v4.2.2.2.1)),(7,.mapE (.st 2) (Q1h v4.2.2.2.2.1)),(8,.mapE (.ext (Q10 (.st 2) (.st 3) (gown (EC Ends.kv Q8 v4.2.2.2.2.2.1)))) []),(9,.row 3 (Es (X3.cells true) v4.2.2.2.2.2.2))],cnt:=8})) (Q3o _ v4 hv4) (by simp[AV.ro,rl,rlL,rlLL,Q1z,BN]) (by rcases v4 with v4|v4<;>simp) (by rcases v4 with v4|v4<;>simp) (by rcases v4 with v4|v4<;>rfl) (by rcases v4 with v4|v4<;>simp[AV.ro,rl,rlL,rlLL,Q1z,BN]) (by rcases v4 with v4|v4<;>simp[Q6M]) (by rcases v4 with v4|v4<;>rfl) (by rcases v4 with v4|v4<;>simp[AV.ro,rl,rlL,rlLL,Q1z,BN]) (Q4L (by rcases v4 with v4|v4<;>simp))) ?_;clear hv4;rcases v4 with v4|v4
 ·try dsimp only at h
  try dsimp only
  simp;repeat refine sdQ ?_
  refine hK _ ?_;clear hK K;refine tn (Q4 (st':=⟨[(8,.val (.pointer none)),(9,.val (.bool false))],[],0⟩) (wkQ []) (Q0 (Q0 (rxQ hN λK hK=>?_))));simp;repeat refine sdQ ?_
  refine hK _ (tn ?_);clear hK K;refine Q6 rfl (λ_=>?_) λg=>by simp at g
  refine Q0 (rxQ hN λK hK=>?_);simp;repeat refine sdQ ?_
  refine hK _ (tn (Q4 (st':=⟨[(4,.val (.pointer none)),(5,iV 3)],[],0⟩) (wkQ []) (Qi (tr ?_))));clear hK K;cases h;try dsimp only
  first|refine iw_r (st':=⟨[(4,.val (.pointer none)),(5,iV 3)],[],0⟩) ?_ ?_|refine iw_n (st':=⟨[(4,.val (.pointer none)),(5,iV 3)],[],0⟩) ?_ ?_
  ·exact wkQ []
  exact⟨by simp[QU],by simp,by simp[CN]⟩
 try dsimp only at h
 try dsimp only
 simp;repeat refine sdQ ?_
 refine hK _ ?_;clear hK K;refine tn (Q4 (st':=⟨[(8,.adr 0 0 0),(9,.val (.bool true))],[(0,.mix 9 [[.rptr [.rptr (Cat.cells true ((⟨c_,list_,v2⟩:XD).c_)),lI ((⟨c_,list_,v2⟩:XD).list_),.lst true 1 (Bs ((⟨c_,list_,v2⟩:XD).there_))],iV ((⟨c_,list_,v2⟩:XD).c_.n),.own 1 0 v4.1.length,.own 2 0 v4.2.1.length,.own 3 0 v4.2.2.1.length,.own 4 0 v4.2.2.2.1.length,.mp 5,.mp 6,.own 7 0 v4.2.2.2.2.2.2.length]]),(1,rI v4.1),(2,rI v4.2.1),(3,rI v4.2.2.1),(4,.row 1 (Ls v4.2.2.2.1)),(5,.mapE (.st 2) (Q1h v4.2.2.2.2.1)),(6,.mapE (.ext (Q10 (.st 2) (.st 3) (gown (EC Ends.kv Q8 v4.2.2.2.2.2.1)))) []),(7,.row 3 (Es (X3.cells true) v4.2.2.2.2.2.2))],8⟩) (wkQ [(2,0),(3,1),(4,2),(5,3),(6,4),(7,5),(8,6),(9,7)]) (Q0 (Q0 (rxQ hN λK hK=>?_))));simp;repeat refine sdQ ?_
 refine hK _ (tn (Q6 rfl (λg=>by simp at g) λ_=>?_));clear hK K;refine Q7 (tn (Q0 (rxQ hN λK hK=>?_)));simp;repeat refine sdQ ?_
 refine hK _ (tn (Q4 (st':=⟨[(4,.adr 0 0 0),(5,iV 0)],[(0,.mix 9 [[.rptr [.rptr (Cat.cells true ((⟨c_,list_,v2⟩:XD).c_)),lI ((⟨c_,list_,v2⟩:XD).list_),.lst true 1 (Bs ((⟨c_,list_,v2⟩:XD).there_))],iV ((⟨c_,list_,v2⟩:XD).c_.n),.own 1 0 v4.1.length,.own 2 0 v4.2.1.length,.own 3 0 v4.2.2.1.length,.own 4 0 v4.2.2.2.1.length,.mp 5,.mp 6,.own 7 0 v4.2.2.2.2.2.2.length]]),(1,rI v4.1),(2,rI v4.2.1),(3,rI v4.2.2.1),(4,.row 1 (Ls v4.2.2.2.1)),(5,.mapE (.st 2) (Q1h v4.2.2.2.2.1)),(6,.mapE (.ext (Q10 (.st 2) (.st 3) (gown (EC Ends.kv Q8 v4.2.2.2.2.2.1)))) []),(7,.row 3 (Es (X3.cells true) v4.2.2.2.2.2.2))],8⟩) (wkI 8) (Qi ?_)));clear hK K;cases h;try dsimp only
 first|refine iw_r (st':=⟨[(4,.adr 0 0 0),(5,iV 0)],[(0,.mix 9 [[.rptr [.rptr (Cat.cells true ((⟨c_,list_,v2⟩:XD).c_)),lI ((⟨c_,list_,v2⟩:XD).list_),.lst true 1 (Bs ((⟨c_,list_,v2⟩:XD).there_))],iV ((⟨c_,list_,v2⟩:XD).c_.n),.own 1 0 v4.1.length,.own 2 0 v4.2.1.length,.own 3 0 v4.2.2.1.length,.own 4 0 v4.2.2.2.1.length,.mp 5,.mp 6,.own 7 0 v4.2.2.2.2.2.2.length]]),(1,rI v4.1),(2,rI v4.2.1),(3,rI v4.2.2.1),(4,.row 1 (Ls v4.2.2.2.1)),(5,.mapE (.st 2) (Q1h v4.2.2.2.2.1)),(6,.mapE (.ext (Q10 (.st 2) (.st 3) (gown (EC Ends.kv Q8 v4.2.2.2.2.2.1)))) []),(7,.row 3 (Es (X3.cells true) v4.2.2.2.2.2.2))],8⟩) ?_ ?_|refine iw_n (st':=⟨[(4,.adr 0 0 0),(5,iV 0)],[(0,.mix 9 [[.rptr [.rptr (Cat.cells true ((⟨c_,list_,v2⟩:XD).c_)),lI ((⟨c_,list_,v2⟩:XD).list_),.lst true 1 (Bs ((⟨c_,list_,v2⟩:XD).there_))],iV ((⟨c_,list_,v2⟩:XD).c_.n),.own 1 0 v4.1.length,.own 2 0 v4.2.1.length,.own 3 0 v4.2.2.1.length,.own 4 0 v4.2.2.2.1.length,.mp 5,.mp 6,.own 7 0 v4.2.2.2.2.2.2.length]]),(1,rI v4.1),(2,rI v4.2.1),(3,rI v4.2.2.1),(4,.row 1 (Ls v4.2.2.2.1)),(5,.mapE (.st 2) (Q1h v4.2.2.2.2.1)),(6,.mapE (.ext (Q10 (.st 2) (.st 3) (gown (EC Ends.kv Q8 v4.2.2.2.2.2.1)))) []),(7,.row 3 (Es (X3.cells true) v4.2.2.2.2.2.2))],8⟩) ?_ ?_
 ·exact wkI 8
 exact⟨by simp[QU],by simp,by simp[CN]⟩
attribute [local simp] unk unA unE unT unC flat eL eI Qh QI Q4x Q9j Qz Q1p Q13 Cat.cells Ends.cells Fn.cells XD.cells XL.cells X3.cells
def Q1f(c_:Cat)(w_:List Int):Option (List Int×Int):=
 (Q1r c_ w_).bind λv1=>
 match v1 with
 | .inl v1=>
  if¬(v1=0)then
   some ([],v1)
  else
   ass (False)<|
   none
 | .inr v1=>
  (QQ (⟨(⟨(⟨v1.1,v1.2.1,v1.2.2.1,v1.2.2.2.1,v1.2.2.2.2.1⟩:Cat),v1.2.2.2.2.2.1,v1.2.2.2.2.2.2.1⟩:XD),(⟨v1.2.2.2.2.2.2.2.1,v1.2.2.2.2.2.2.2.2.1,v1.2.2.2.2.2.2.2.2.2.1,v1.2.2.2.2.2.2.2.2.2.2.1,v1.2.2.2.2.2.2.2.2.2.2.2.1⟩:Cat),v1.2.2.2.2.2.2.2.2.2.2.2.2.1,v1.2.2.2.2.2.2.2.2.2.2.2.2.2.1,v1.2.2.2.2.2.2.2.2.2.2.2.2.2.2⟩:XL)).bind λv3=>
  (Q1l (⟨v1.2.2.2.2.2.2.2.1,v1.2.2.2.2.2.2.2.2.1,v1.2.2.2.2.2.2.2.2.2.1,v1.2.2.2.2.2.2.2.2.2.2.1,v1.2.2.2.2.2.2.2.2.2.2.2.1⟩:Cat) v3.ar).bind λv4=>
  some (v4,0)
theorem Q55(c_:Cat)(w_:List Int)(r:List Int×Int)(h:Q1f c_ w_=some r):Contract Tryz.prog 18 (Y0u c_ [lI w_]) (.tup [lI r.1,iV r.2]):=by
 refine Q9 (rvs:=[.tmp 4,.tmp 5]) (rs:=[lI r.1,iV r.2]) Tryz.func18 rfl rfl rfl rfl (by simp[Tryz.f18]) λF hN hP=>?_;unfold Q1f at h;refine Q0 (rxF [2] hN λK hK=>?_);simp;repeat refine sdQ ?_
 refine hK _ ?_;clear hK K;refine tn (Q4 (st':=⟨[(1,lI w_),(2,.rptr (Cat.cells true c_))],[],0⟩) (wkQ []) (Q0 (Q3W [] mo (by rw[hN];decide) λK hK=>?_)));simp;repeat with_reducible refine sdQ ?_
 replace⟨v1,hv1,h⟩:=bind_some h;refine Q2B (fz:=[]) (ICon0.liftL (e':=(match(generalizing:=false) v1 with|.inl v1=>{v:=.tup [.val (.pointer none),iV v1],new:=[],cnt:=0}|.inr v1=>{v:=.tup [.adr 0 0 0,iV 0],new:=[(0,.mix 9 [[.rptr [.rptr [iV v1.1,lI v1.2.1,lI v1.2.2.1,lI v1.2.2.2.1,.lst true 1 (Ls v1.2.2.2.2.1)],lI v1.2.2.2.2.2.1,.lst true 1 (Bs v1.2.2.2.2.2.2.1)],iV v1.2.2.2.2.2.2.2.1,.own 1 0 v1.2.2.2.2.2.2.2.2.1.length,.own 2 0 v1.2.2.2.2.2.2.2.2.2.1.length,.own 3 0 v1.2.2.2.2.2.2.2.2.2.2.1.length,.own 4 0 v1.2.2.2.2.2.2.2.2.2.2.2.1.length,.mp 5,.mp 6,.own 7 0 v1.2.2.2.2.2.2.2.2.2.2.2.2.2.2.length]]),(1,rI v1.2.2.2.2.2.2.2.2.1),(2,rI v1.2.2.2.2.2.2.2.2.2.1),(3,rI v1.2.2.2.2.2.2.2.2.2.2.1),(4,.row 1 (Ls v1.2.2.2.2.2.2.2.2.2.2.2.1)),(5,.mapE (.st 2) (Q1h v1.2.2.2.2.2.2.2.2.2.2.2.2.1)),(6,.mapE (.ext (Q10 (.st 2) (.st 3) (gown (EC Ends.kv Q8 v1.2.2.2.2.2.2.2.2.2.2.2.2.2.1)))) []),(7,.row 3 (Es (X3.cells true) v1.2.2.2.2.2.2.2.2.2.2.2.2.2.2))],cnt:=8})) (Q5P _ _ v1 hv1) (by simp[AV.ro,rl,rlL,rlLL,Q1z,BN]) (by rcases v1 with v1|v1<;>simp) (by rcases v1 with v1|v1<;>simp) (by rcases v1 with v1|v1<;>rfl) (by rcases v1 with v1|v1<;>simp[AV.ro,rl,rlL,rlLL,Q1z,BN]) (by rcases v1 with v1|v1<;>simp[Q6M]) (by rcases v1 with v1|v1<;>rfl) (by rcases v1 with v1|v1<;>simp[AV.ro,rl,rlL,rlLL,Q1z,BN]) (Q4L (by rcases v1 with v1|v1<;>simp))) ?_;clear hv1;rcases v1 with v1|v1
 ·try dsimp only at h
  try dsimp only
  simp;repeat refine sdQ ?_
  refine hK _ ?_;clear hK K;refine tn (Q4 (st':=⟨YL [(7,iV v1)],[],0⟩) (wkQ []) (Q0 (Q0 (runQ hN λK hK=>?_))));simp;repeat refine sdQ ?_
  refine hK _ ?_;clear hK K;refine tn (Q6 rfl (λg=>?_) λg=>?_)
  ·have g2:¬(v1=0):=gQ;clear g;replace h:=if_l g2 h;refine Q0 (runQ hN λK hK=>?_);simp;(repeat refine sdQ ?_);refine hK _ (tn (Q4 (st':=⟨[(4,nS),(5,iV v1)],[],0⟩) (wkQ []) (Qi (tr ?_))));clear hK K;have hr:=yJ h;rw[←hr];refine⟨_,(.tmp (.tmp .nil)),?_⟩;refine⟨(.one rfl rfl (.one rfl rfl .nil)),[nS,iV v1],[],by simp[BN],by simp,(.cons .nil (.cons .refl .nil))⟩
  have g2:¬(¬(v1=0)):=gQ;clear g;replace h:=if_r g2 h;refine Q7 (tn (Q0 (runQ hN λK hK=>?_)));exact(Q1 h).1.elim
 try dsimp only at h
 try dsimp only
 simp;repeat refine sdQ ?_
 refine hK _ ?_;clear hK K;refine tn (Q4 (st':=⟨Y0k [],[(0,.mix 9 [[.rptr [.rptr [iV v1.1,lI v1.2.1,lI v1.2.2.1,lI v1.2.2.2.1,.lst true 1 (Ls v1.2.2.2.2.1)],lI v1.2.2.2.2.2.1,.lst true 1 (Bs v1.2.2.2.2.2.2.1)],iV v1.2.2.2.2.2.2.2.1,.own 1 0 v1.2.2.2.2.2.2.2.2.1.length,.own 2 0 v1.2.2.2.2.2.2.2.2.2.1.length,.own 3 0 v1.2.2.2.2.2.2.2.2.2.2.1.length,.own 4 0 v1.2.2.2.2.2.2.2.2.2.2.2.1.length,.mp 5,.mp 6,.own 7 0 v1.2.2.2.2.2.2.2.2.2.2.2.2.2.2.length]]),(1,rI v1.2.2.2.2.2.2.2.2.1),(2,rI v1.2.2.2.2.2.2.2.2.2.1),(3,rI v1.2.2.2.2.2.2.2.2.2.2.1),(4,.row 1 (Ls v1.2.2.2.2.2.2.2.2.2.2.2.1)),(5,.mapE (.st 2) (Q1h v1.2.2.2.2.2.2.2.2.2.2.2.2.1)),(6,.mapE (.ext (Q10 (.st 2) (.st 3) (gown (EC Ends.kv Q8 v1.2.2.2.2.2.2.2.2.2.2.2.2.2.1)))) []),(7,.row 3 (Es (X3.cells true) v1.2.2.2.2.2.2.2.2.2.2.2.2.2.2))],8⟩) (wkI 8) (Q0 (Q0 (runQ hN λK hK=>?_))));simp;repeat refine sdQ ?_
 refine hK _ (tn (Q6 rfl (λg=>by simp at g) λ_=>?_));clear hK K;refine Q7 (tn (Q0 (runQ hN λK hK=>?_)));simp;repeat with_reducible refine sdQ ?_
 replace⟨v3,hv3,h⟩:=bind_some h;refine Q3 (Q3H _ v3 hv3) (.cons (.field rfl (by simp[CN]) (.cons (.preT (by simp[CN])) (.cons .val (.cons .w (.cons .w (.cons .w (.cons .w (.cons (.mp rfl) (.cons (.mpG rfl) (.cons .w .nil)))))))))) .nil) ?_;simp;repeat refine sdQ ?_
 refine hK _ ?_;clear hK K;refine tn (Q4 (st':=⟨[(6,.adr 0 0 0),(8,.adr 8 0 0)],[(0,.mix 9 [[.rptr [.rptr [iV v1.1,lI v1.2.1,lI v1.2.2.1,lI v1.2.2.2.1,.lst true 1 (Ls v1.2.2.2.2.1)],lI v1.2.2.2.2.2.1,.lst true 1 (Bs v1.2.2.2.2.2.2.1)],iV v1.2.2.2.2.2.2.2.1,.own 1 0 v1.2.2.2.2.2.2.2.2.1.length,.own 2 0 v1.2.2.2.2.2.2.2.2.2.1.length,.own 3 0 v1.2.2.2.2.2.2.2.2.2.2.1.length,.own 4 0 v1.2.2.2.2.2.2.2.2.2.2.2.1.length,.mp 5,.mp 6,.own 7 0 v1.2.2.2.2.2.2.2.2.2.2.2.2.2.2.length]]),(1,rI v1.2.2.2.2.2.2.2.2.1),(2,rI v1.2.2.2.2.2.2.2.2.2.1),(3,rI v1.2.2.2.2.2.2.2.2.2.2.1),(4,.row 1 (Ls v1.2.2.2.2.2.2.2.2.2.2.2.1)),(5,.mapE (.st 2) (Q1h v1.2.2.2.2.2.2.2.2.2.2.2.2.1)),(6,.mapE (.ext (Q10 (.st 2) (.st 3) (gown (EC Ends.kv Q8 v1.2.2.2.2.2.2.2.2.2.2.2.2.2.1)))) []),(7,.row 3 (Es (X3.cells true) v1.2.2.2.2.2.2.2.2.2.2.2.2.2.2)),(8,.mix 12 [[iV v3.s.n,.own 9 0 v3.s.fr.length,.own 10 0 v3.s.to.length,.own 11 0 v3.s.id.length,.own 12 0 v3.s.cs.length,iV v3.t.n,.own 13 0 v3.t.fr.length,.own 14 0 v3.t.to.length,.own 15 0 v3.t.id.length,.own 16 0 v3.t.cs.length,.own 17 0 v3.ob.length,.own 18 0 v3.ar.length]]),(9,rI v3.s.fr),(10,rI v3.s.to),(11,rI v3.s.id),(12,.row 1 (Ls v3.s.cs)),(13,rI v3.t.fr),(14,rI v3.t.to),(15,rI v3.t.id),(16,.row 1 (Ls v3.t.cs)),(17,rI v3.ob),(18,rI v3.ar)],19⟩) (wkQ [(0,0),(1,1),(2,2),(3,3),(4,4),(5,5),(6,6),(7,7),(20,8),(9,9),(10,10),(11,11),(12,12),(14,13),(15,14),(16,15),(17,16),(18,17),(19,18)]) (Q0 (runQ hN λK hK=>?_)));simp;repeat with_reducible refine sdQ ?_
 replace⟨v4,hv4,h⟩:=bind_some h;refine Q3 (Q5r _ _ v4 hv4) (.cons (.field rfl (by simp[CN]) (.cons .val (.cons .w (.cons .w (.cons .w (.cons .w .nil)))))) (.cons .w .nil)) ?_;simp;repeat refine sdQ ?_
 refine hK _ (tn (Q4 (st':=⟨[(4,.own 0 0 v4.length),(5,iV 0)],[(0,rI v4)],1⟩) (wkQ [(19,0)]) (Qi ?_)));clear hK K;have hr:=yJ h;rw[←hr];refine⟨_,(.tmp (.tmp .nil)),?_⟩;refine⟨(.one rfl rfl (.one rfl rfl .nil)),[lI v4,iV 0],[0],by simp[BN],by simp,(UpL.refl _)⟩
attribute [local simp] unk unA unE unT unC flat eL eI Qh QI QX Cat.cells XF.cells
def Q1U(c_:Cat)(w_:List Int):Option (Cat×XF×Int):=
 (Q38 c_ w_).bind λv1=>
 if¬(v1=0)then
  some ((⟨0,[],[],[],[]⟩:Cat),(⟨(⟨0,[],[],[],[]⟩:Cat),[],[],[],[]⟩:XF),v1)
 else
  (Qd (σ:=Int) (ε:=Unit⊕(Cat×XF×Int)) (λs16=>
   if s16<c_.n then
    (
     (Qd (σ:=Int) (ε:=(Cat×XF×Int)⊕Unit) (λs23=>
      if s23<c_.n then
       (Q1C c_ w_ s16 s23).bind λv25=>
       if(v25.length:Int)>200 then
        some (yK (yS ((⟨0,[],[],[],[]⟩:Cat),(⟨(⟨0,[],[],[],[]⟩:Cat),[],[],[],[]⟩:XF),3)))
       else
        ass (B64 (s23+1))<|
        some (yM (s23+1))
      else
       some (yK (yT ()))) fuel 0).bind λe23=>
     match e23 with
     | .inl p23=>
      some (yT p23)
     | .inr p23=>
      some (yS p23):Option (Unit⊕(Cat×XF×Int))).bind λe18=>
    match e18 with
    | .inl b18=>
     ass (B64 (s16+1))<|
     some (yM (s16+1))
    | .inr p18=>
     some (yK (yT p18))
   else
    some (yK (yS ()))) fuel 0).bind λe3=>
  match e3 with
  | .inl b3=>
   (Q2k c_ w_).bind λv29=>
   (Q1T v29).bind λv30=>
   (Q26 v30).bind λv31=>
   if¬(v31=true)then
    some ((⟨0,[],[],[],[]⟩:Cat),(⟨(⟨0,[],[],[],[]⟩:Cat),[],[],[],[]⟩:XF),3)
   else
    some (v30,v29,0)
  | .inr p3=>
   some p3
@[simp] abbrev Ym(a:List (Nat×Ent)):List (Nat×Ent):=(0,.mix 5 [(Y0w [])])::(1,.mix 9 [(Y0w [nS,nS,nS,nS])])::a
@[simp] abbrev Y03(a:XF)(b:Cat)(c:List (Nat×Ent)):List (Nat×Ent):=(2,.mix 9 [(XF.cells true a)])::(3,.mix 5 [[iV b.n,.own 4 0 b.fr.length,.own 5 0 b.to.length,.own 6 0 b.id.length,.own 7 0 b.cs.length]])::(4,rI b.fr)::(5,rI b.to)::(6,rI b.id)::(7,.row 1 (Ls b.cs))::c
theorem Q9Y(c_:Cat)(w_:List Int)(r:Cat×XF×Int)(h:Q1U c_ w_=some r):FContract Tryz.prog true 22 [.agg (c_.cells true),lI w_] (.tup [.agg (r.1.cells true),.agg (r.2.1.cells true),iV r.2.2]):=by
 refine Q5J (rvs:=[.cell 4 27,.cell 5 47,.tmp 6]) (rs:=[.agg (r.1.cells true),.agg (r.2.1.cells true),iV r.2.2]) Tryz.func22 rfl rfl rfl rfl (by simp[Tryz.f22]) λF hN hP=>?_;unfold Q1U at h;refine Q0 (rxF [2] hN λK hK=>?_);simp;repeat refine sdQ ?_
 refine hK _ ?_;clear hK K;refine tn (Q4 (st':=⟨Ya w_ c_ [],Ym [],2⟩) (wkQ [(0,0),(1,1)]) (Q0 (Q0 (rxQ hN λK hK=>?_))));simp;repeat with_reducible refine sdQ ?_
 replace⟨v1,hv1,h⟩:=bind_some h;refine QG (fz:=[]) (Q9X _ _ v1 hv1) (.cons (.aggL (.cons .val (.cons .lst (.cons .lst (.cons .lst (.cons .lst .nil)))))) (.cons .lst .nil)) ?_;simp;repeat refine sdQ ?_
 refine hK _ ?_;clear hK K;refine tn (Q4 (st':=⟨Ya w_ c_ [(7,iV v1)],Ym [],2⟩) (wkQ [(0,0),(1,1)]) (Q0 (rxQ hN λK hK=>?_)));simp;repeat refine sdQ ?_
 refine hK _ ?_;clear hK K;refine tn (Q6 rfl (λg=>?_) λg=>?_)
 ·have g2:¬(v1=0):=gQ;clear g;replace h:=if_l g2 h;refine Q0 (rxQ hN λK hK=>?_);simp;repeat refine sdQ ?_
  refine hK _ (tn (Q4 (st':=⟨Y07 [(6,iV v1)],Ym [],2⟩) (wkQ [(0,0),(1,1)]) (Qi (tr ?_))));clear hK K;have hr:=yJ h;rw[←hr];exact RetFG.mk' (.cell tf_27 rfl rfl rfl (by simp) (by simp) (.cell tf_47 rfl rfl rfl (by simp) (by simp) (.tmp .nil))) (.cons (.aggL (.cons .val (.cons .nil (.cons .nil (.cons .nil (.cons .nil .nil)))))) (.cons (.aggL (.cons .val (.cons .nil (.cons .nil (.cons .nil (.cons .nil (.cons .nil (.cons .nil (.cons .nil (.cons .nil .nil)))))))))) (.cons .val .nil)))
 have g2:¬(¬(v1=0)):=gQ;clear g;replace h:=if_r g2 h;refine Q7 (tn (Q0 (Q0 (rxQ hN λK hK=>?_))));simp;repeat refine sdQ ?_
 refine hK _ (tn (Q4 (st':=⟨Ya w_ c_ [(8,iV 0)],Ym [],2⟩) (wkQ [(0,0),(1,1)]) ?_));clear hK K;replace⟨e3,h,h3⟩:=bind_some h;refine Qc (λb3:Unit=>⟨Ya w_ c_ [],Ym [],2⟩) (λb3=>yS b3=e3) ?_ ?_
 ·refine Q5 (Qm h (λs16:Int=>⟨Ya w_ c_ [(8,iV s16)],Ym [],2⟩) (wkQ [(0,0),(1,1)]) ?_);clear h;intro k16 s16 c16 h hk16;refine Q0 (Q0 (rxQ hN λK hK=>?_));simp;repeat refine sdQ ?_
  refine hK _ ?_;clear hK K;refine tn (Q6 rfl (λg=>?_) λg=>?_)
  ·have g17:s16<c_.n:=gQ;clear g;replace h:=if_l g17 h;refine Q7 (tn (Q0 ?_));replace⟨e18,h,h18⟩:=bind_some h;refine Qc (λb18:Unit=>⟨Ya w_ c_ [(8,iV s16)],Ym [],2⟩) (λb18=>yS b18=e18) ?_ ?_
   ·refine Q5 (Q0 (rxQ hN λK hK=>?_));simp;(repeat refine sdQ ?_);refine hK _ (tn (Q4 (st':=⟨Ya w_ c_ [(8,iV s16),(9,iV 0)],Ym [],2⟩) (wkQ [(0,0),(1,1)]) (Q5 ?_)));clear hK K;replace⟨e23,he23,h23⟩:=bind_some h;refine Qm he23 (λs23:Int=>⟨Ya w_ c_ [(8,iV s16),(9,iV s23)],Ym [],2⟩) (wkQ [(0,0),(1,1)]) ?_;intro k23 s23 c23 h hk23;refine Q0 (Q0 (rxQ hN λK hK=>?_));simp;(repeat refine sdQ ?_);refine hK _ ?_;clear hK K;refine tn (Q6 rfl (λg=>?_) λg=>?_)
    ·have g24:s23<c_.n:=gQ;clear g;replace h:=if_l g24 h;refine Q7 (tn (Q0 (Q5 (Q0 (rxQ hN λK hK=>?_)))));simp;(repeat with_reducible refine sdQ ?_);replace⟨v25,hv25,h⟩:=bind_some h;refine QG (fz:=[]) (Q5H _ _ _ _ v25 hv25) (.cons (.aggL (.cons .val (.cons .lst (.cons .lst (.cons .lst (.cons .lst .nil)))))) (.cons .lst (.cons .val (.cons .val .nil)))) ?_;simp;(repeat refine sdQ ?_);refine hK _ ?_;clear hK K;refine tn (Q4 (st':=⟨Ya w_ c_ [(8,iV s16),(9,iV s23),(38,.val (.bool (decide ((v25.length:Int)>200))))],Ym [],2⟩) (wkQ [(0,0),(1,1)]) (Q6 rfl (λg=>?_) λg=>?_))
     ·have g26:(v25.length:Int)>200:=gQ;clear g;replace h:=if_l g26 h;refine Q0 (rxQ hN λK hK=>?_);simp;(repeat refine sdQ ?_);refine hK _ (tn (Q4 (st':=⟨Y07 [(6,iV 3)],Ym [],2⟩) (wkQ [(0,0),(1,1)]) (Qi (br (tr (lr (br (br (tr (lr (br (tr ?_))))))))))));clear hK K;cases h;have q:_=e23:=hk23;have h:=h23;rw[←q]at h;clear q;(try dsimp only at h);cases h;have h:=h18;(try dsimp only at h);cases h;have q:_=e3:=hk16;have h:=h3;rw[←q]at h;clear q;(try dsimp only at h);have hr:=yJ h;rw[←hr];exact RetFG.mk' (.cell tf_27 rfl rfl rfl (by simp) (by simp) (.cell tf_47 rfl rfl rfl (by simp) (by simp) (.tmp .nil))) (.cons (.aggL (.cons .val (.cons .nil (.cons .nil (.cons .nil (.cons .nil .nil)))))) (.cons (.aggL (.cons .val (.cons .nil (.cons .nil (.cons .nil (.cons .nil (.cons .nil (.cons .nil (.cons .nil (.cons .nil .nil)))))))))) (.cons .val .nil)))
     have g26:¬((v25.length:Int)>200):=gQ;clear g;replace h:=if_r g26 h;refine Q7 (bn (tn (rxQ hN λK hK=>?_)));replace⟨a27,h⟩:=Q1 h;simp[Qg a27];(repeat refine sdQ ?_);refine hK _ ?_;clear hK K;cases h;exact rn (s':=s23+1) hk23 (wkQ [(0,0),(1,1)])
    have g24:¬(s23<c_.n):=gQ;clear g;replace h:=if_r g24 h;refine Qj (tx (lx (bh (bn ?_))));cases h;have q:_=e23:=hk23;have h:=h23;rw[←q]at h;clear q;(try dsimp only at h);exact jn (b:=()) (yJ h) (wkQ [(0,0),(1,1)])
   intro b18 hb18;have h:=h18;(try rw[←hb18]at h);clear h18;(try dsimp only at h);refine rxQ hN λK hK=>?_;replace⟨a28,h⟩:=Q1 h;simp[Qg a28];(repeat refine sdQ ?_);refine hK _ ?_;clear hK K;cases h;exact rn (s':=s16+1) hk16 (wkQ [(0,0),(1,1)])
  have g17:¬(s16<c_.n):=gQ;clear g;replace h:=if_r g17 h;refine Qj (tx (lx (bh ?_)));cases h;exact jn (b:=()) hk16 (wkQ [(0,0),(1,1)])
 intro b3 hb3;have h:=h3;try rw[←hb3]at h
 clear h3;try dsimp only at h
 refine Q0 (rxQ hN λK hK=>?_);simp;repeat with_reducible refine sdQ ?_
 replace⟨v29,hv29,h⟩:=bind_some h;refine Q4G (fz:=[]) true (Q8c _ _ v29 hv29) (PurK.ofN (.cons (.aggL (.cons .val (.cons .lst (.cons .lst (.cons .lst (.cons .lst .nil)))))) (.cons .lst .nil))) ?_;simp;repeat refine sdQ ?_
 refine hK _ ?_;clear hK K;refine tn (Q4 (st':=⟨Y07 [(10,.adr 2 0 0)],Ym [(2,.mix 9 [(XF.cells true v29)])],3⟩) (wkI 3) (Q0 (rxQ hN λK hK=>?_)));simp;repeat with_reducible refine sdQ ?_
 replace⟨v30,hv30,h⟩:=bind_some h;refine QG (fz:=[]) (Q6G _ v30 hv30) (.cons (.aggL (.cons .val (.cons .lst (.cons .lst (.cons .lst (.cons .lst (.cons .lst (.cons .lst (.cons .lst (.cons .lst .nil)))))))))) .nil) ?_;simp;repeat refine sdQ ?_
 refine hK _ ?_;clear hK K;refine tn (Q4 (st':=⟨Y07 [(10,.adr 2 0 0),(11,.adr 3 0 0)],Ym (Y03 v29 v30 []),8⟩) (wkQ [(0,0),(1,1),(2,2),(8,3),(4,4),(5,5),(6,6),(7,7)]) (Q0 (Q0 (rxQ hN λK hK=>?_))));simp;repeat with_reducible refine sdQ ?_
 replace⟨v31,hv31,h⟩:=bind_some h;refine QG (fz:=[]) (Q6B _ v31 hv31) (.cons (.aggL (.cons .val (.cons .w (.cons .w (.cons .w (.cons .w .nil)))))) .nil) ?_;simp;repeat refine sdQ ?_
 refine hK _ ?_;clear hK K;refine tn (Q4 (st':=⟨Y07 [(10,.adr 2 0 0),(11,.adr 3 0 0),(48,.val (.bool (!v31)))],Ym (Y03 v29 v30 []),8⟩) (wkI 8) (Q6 rfl (λg=>?_) λg=>?_))
 ·have g32:¬(v31=true):=gQ;clear g;replace h:=if_l g32 h;refine Q0 (rxQ hN λK hK=>?_);simp;repeat refine sdQ ?_
  refine hK _ (tn (Q4 (st':=⟨Y07 [(6,iV 3)],Ym [],2⟩) (wkQ [(0,0),(1,1)]) (Qi (tr ?_))));clear hK K;have hr:=yJ h;rw[←hr];exact RetFG.mk' (.cell tf_27 rfl rfl rfl (by simp) (by simp) (.cell tf_47 rfl rfl rfl (by simp) (by simp) (.tmp .nil))) (.cons (.aggL (.cons .val (.cons .nil (.cons .nil (.cons .nil (.cons .nil .nil)))))) (.cons (.aggL (.cons .val (.cons .nil (.cons .nil (.cons .nil (.cons .nil (.cons .nil (.cons .nil (.cons .nil (.cons .nil .nil)))))))))) (.cons .val .nil)))
 have g32:¬(¬(v31=true)):=gQ;clear g;replace h:=if_r g32 h;refine Q7 (tn (Q0 (w_runXD [] [4,5] mo (by rw[hN];decide) (by rfl) λK hK=>?_)));simp;repeat refine sdQ ?_
 refine hK _ (tn (Q4 (st':=⟨[(4,.adr 0 0 0),(5,.adr 5 0 0),(6,iV 0)],[(0,.mix 5 [[iV v30.n,.own 1 0 v30.fr.length,.own 2 0 v30.to.length,.own 3 0 v30.id.length,.own 4 0 v30.cs.length]]),(1,rI v30.fr),(2,rI v30.to),(3,rI v30.id),(4,.row 1 (Ls v30.cs)),(5,.mix 9 [(XF.cells true v29)])],6⟩) (wkQ [(0,0),(4,1),(5,2),(6,3),(7,4),(1,5)]) (Qi ?_)));clear hK K;have hr:=yJ h;rw[←hr];exact RetFG.mk' (.cell tf_27 rfl rfl rfl (by simp) (by simp) (.cell tf_47 rfl rfl rfl (by simp) (by simp) (.tmp .nil))) (.cons (.aggL (.cons .val (.cons .w (.cons .w (.cons .w (.cons .w .nil)))))) (.cons (.aggL (.cons .val (.cons .lst (.cons .lst (.cons .lst (.cons .lst (.cons .lst (.cons .lst (.cons .lst (.cons .lst .nil)))))))))) (.cons .val .nil)))
attribute [local simp] unk unA unE unT unC flat eL eI Qh QI Q9j QX Cat.cells Fn.cells XF.cells
def Q1g(c_:Cat)(w_:List Int):Option (List Int×Int):=
 (Q1U c_ w_).bind λv1=>
 if¬(v1.2.2=0)then
  some ([],v1.2.2)
 else
  (Q22 v1.1 v1.2.1).bind λv3=>
  (Q37 v1.1 v3.ar).bind λv4=>
  some (v4,0)
theorem Q56(c_:Cat)(w_:List Int)(r:List Int×Int)(h:Q1g c_ w_=some r):Contract Tryz.prog 17 (Y0u c_ [lI w_]) (.tup [lI r.1,iV r.2]):=by
 refine Q9 (rvs:=[.tmp 4,.tmp 5]) (rs:=[lI r.1,iV r.2]) Tryz.func17 rfl rfl rfl rfl (by simp[Tryz.f17]) λF hN hP=>?_;unfold Q1g at h;refine Q0 (runQ hN λK hK=>?_);simp;repeat refine sdQ ?_
 refine hK _ ?_;clear hK K;refine tn (Q4 (st':=⟨(1,lI w_)::Yw [],Y6 c_ [],1⟩) (wkQ [(0,0)]) (Q0 (rxQ hN λK hK=>?_)));simp;repeat with_reducible refine sdQ ?_
 replace⟨v1,hv1,h⟩:=bind_some h;refine Q4G (fz:=[]) true (Q9Y _ _ v1 hv1) (PurK.ofN (.cons (.aggL (.cons .val (.cons .lst (.cons .lst (.cons .lst (.cons .lst .nil)))))) (.cons .lst .nil))) ?_;simp;repeat refine sdQ ?_
 refine hK _ ?_;clear hK K;refine tn (Q4 (st':=⟨[(6,.adr 0 0 0),(7,.adr 1 0 0),(8,iV v1.2.2)],[(0,.mix 5 [(Cat.cells true v1.1)]),(1,.mix 9 [(XF.cells true v1.2.1)])],2⟩) (wkQ [(1,0),(2,1)]) (Q0 (Q0 (runQ hN λK hK=>?_))));simp;repeat refine sdQ ?_
 refine hK _ ?_;clear hK K;refine tn (Q6 rfl (λg=>?_) λg=>?_)
 ·have g2:¬(v1.2.2=0):=gQ;clear g;replace h:=if_l g2 h;refine Q0 (runQ hN λK hK=>?_);simp;repeat refine sdQ ?_
  refine hK _ (tn (Q4 (st':=⟨[(4,nS),(5,iV v1.2.2)],[],0⟩) (wkQ []) (Qi (tr ?_))));clear hK K;have hr:=yJ h;rw[←hr];refine⟨_,(.tmp (.tmp .nil)),?_⟩;refine⟨(.one rfl rfl (.one rfl rfl .nil)),[nS,iV v1.2.2],[],by simp[BN],by simp,(.cons .nil (.cons .refl .nil))⟩
 have g2:¬(¬(v1.2.2=0)):=gQ;clear g;replace h:=if_r g2 h;refine Q7 (tn (Q0 (runQ hN λK hK=>?_)));simp;repeat with_reducible refine sdQ ?_
 replace⟨v3,hv3,h⟩:=bind_some h;refine Q3 (Q6U _ _ v3 hv3) (.cons (.aggL (.cons .val (.cons .lst (.cons .lst (.cons .lst (.cons .lst .nil)))))) (.cons (.aggL (.cons .val (.cons .lst (.cons .lst (.cons .lst (.cons .lst (.cons .lst (.cons .lst (.cons .lst (.cons .lst .nil)))))))))) .nil)) ?_;simp;repeat refine sdQ ?_
 refine hK _ ?_;clear hK K;refine tn (Q4 (st':=⟨[(6,.adr 0 0 0),(9,.adr 1 0 0)],[(0,.mix 5 [(Cat.cells true v1.1)]),(1,.mix 12 [[iV v3.s.n,.own 2 0 v3.s.fr.length,.own 3 0 v3.s.to.length,.own 4 0 v3.s.id.length,.own 5 0 v3.s.cs.length,iV v3.t.n,.own 6 0 v3.t.fr.length,.own 7 0 v3.t.to.length,.own 8 0 v3.t.id.length,.own 9 0 v3.t.cs.length,.own 10 0 v3.ob.length,.own 11 0 v3.ar.length]]),(2,rI v3.s.fr),(3,rI v3.s.to),(4,rI v3.s.id),(5,.row 1 (Ls v3.s.cs)),(6,rI v3.t.fr),(7,rI v3.t.to),(8,rI v3.t.id),(9,.row 1 (Ls v3.t.cs)),(10,rI v3.ob),(11,rI v3.ar)],12⟩) (wkQ [(0,0),(14,1),(3,2),(4,3),(5,4),(6,5),(8,6),(9,7),(10,8),(11,9),(12,10),(13,11)]) (Q0 (runQ hN λK hK=>?_)));simp;repeat with_reducible refine sdQ ?_
 replace⟨v4,hv4,h⟩:=bind_some h;refine Q3 (Q9W _ _ v4 hv4) (.cons (.aggL (.cons .val (.cons .lst (.cons .lst (.cons .lst (.cons .lst .nil)))))) (.cons .w .nil)) ?_;simp;repeat refine sdQ ?_
 refine hK _ (tn (Q4 (st':=⟨[(4,.own 0 0 v4.length),(5,iV 0)],[(0,rI v4)],1⟩) (wkQ [(12,0)]) (Qi ?_)));clear hK K;have hr:=yJ h;rw[←hr];refine⟨_,(.tmp (.tmp .nil)),?_⟩;refine⟨(.one rfl rfl (.one rfl rfl .nil)),[lI v4,iV 0],[0],by simp[BN],by simp,(UpL.refl _)⟩
section
attribute [local simp] Qa QD Qo QM Qx
theorem Q8d{c:Cat}{w:List Int}(h:Q6H c w=0):c.Is∧InW c w∧FinW c w:=by
 unfold Q6H at h
 by_cases h0:Q6J c w=0
 case neg=>rw[if_neg h0]at h;exact absurd h h0
 rw[if_pos h0]at h;obtain⟨h1,h2⟩:=Q7n h0;refine⟨h1,h2,?_⟩
 by_cases hr:Q6I w
 case neg=>rw[Qp hr]at h;simp at h
 by_cases hF:FinW c w
 ·exact hF
 rw[Qu hr,Qp hF]at h;simp at h
def GdW(c:Cat)(w:List Int):Prop:=SmT c w∧(Ql c w c.n.toNat).length≤40
theorem e_locI{c:Cat}(hc:c.Is){w:List Int}(hw:InW c w)(hF:FinW c w)(hG:GdW c w):QH (wD c w)=some (yT ((Ql c w c.n.toNat).map (ix · 0),(Ql c w c.n.toNat).map (ix · 1),tbW (idV c w) c.n.toNat,csW c w (Ql c w c.n.toNat).length,fmX c w c.n.toNat,smX c w c.n.toNat,ldX c w c.n.toNat)):=by
 obtain⟨hS,h40⟩:=hG;unfold QH;show(Qd (locX c w) fuel ([],[],[],[],[],true,0)).bind _=_;rw[Q8N hc hS];simp only[yR,mdX];rw[if_neg (by simp only[decide_eq_true_eq];omega)];refine(e_idsI hc hF hS _ _ _ _).trans ?_;show(tbI c w ((Ql c w c.n.toNat).map (ix · 0)) ((Ql c w c.n.toNat).map (ix · 1)) (tbW (idV c w) c.n.toNat)).bind _=_;rw[e_tabI hc hw hF hS rfl rfl];rfl
theorem e_locI'{c:Cat}(hc:c.Is){w:List Int}(hG:¬GdW c w):QH (wD c w)=some (yS ()):=by
 unfold QH;show(Qd (locX c w) fuel ([],[],[],[],[],true,0)).bind _=_
 by_cases hS:SmT c w
 ·rw[Q8N hc hS];simp only[yR,mdX];rw[if_pos (by simp only[decide_eq_true_eq];intro q;exact hG ⟨hS,by omega⟩)]
 rw[locX_bad hc hS];rfl
theorem e_makeS{c:Cat}(hc:c.Is){w:List Int}(hl:w.length≤1048576)(h0:Q6H c w=0)(hG:GdW c w):Q1U c w=some (lcW c w (Ql c w c.n.toNat).length,frW c w,0):=by
 obtain⟨_,hw,hF⟩:=Q8d h0;obtain⟨hS,h40⟩:=hG;have hn:=hc.nums;unfold Q1U;rw[Q9l hl,h0];simp only[yR,not_true_eq_false,if_false];show(Qd (ckX c w) fuel 0).bind _=_;rw[ckX_ok hc hS];simp only[yR];rw[Qae hc hS];simp only[yR];rw[e_catS hc hw hF hS,if_pos h40];simp only[yR];rw[Q7y,Qu ⟨hc.1.n8,by simp only[lcW,yZ];omega⟩];simp only[yR,not_true_eq_false,if_false]
theorem e_makeS'{c:Cat}(hc:c.Is){w:List Int}(hl:w.length≤1048576)(h0:Q6H c w=0)(hG:¬GdW c w):Q1U c w=some vBad:=by
 obtain⟨_,hw,hF⟩:=Q8d h0;have hn:=hc.nums;unfold Q1U;rw[Q9l hl,h0];simp only[yR,not_true_eq_false,if_false];show(Qd (ckX c w) fuel 0).bind _=_
 by_cases hS:SmT c w
 ·rw[ckX_ok hc hS];simp only[yR];rw[Qae hc hS];simp only[yR];have h40:¬(Ql c w c.n.toNat).length≤40:=λq=>hG ⟨hS,q⟩;rw[e_catS hc hw hF hS,if_neg h40];simp only[yR];rw[Q7y,Qp (by simp only[lcW,yZ];omega)];simp only[yR,Bool.false_eq_true,not_false_eq_true,if_true];rfl
 rw[ckX_bad hc hS];rfl
theorem Q5K(c:Cat)(w:List Int)(hl:w.length≤1048576):∃r,Q1g c w=some r∧Q1f c w=some r∧r.1.length≤1048576∧r.1.length≤100:=by
 by_cases h0:Q6H c w=0
 case neg=>
  refine⟨([],Q6H c w),?_,?_,by simp,by simp⟩
  ·unfold Q1g Q1U;rw[Q9l hl];simp only[yR,h0,not_false_eq_true,if_true]
  unfold Q1f Q1r;rw[Q9k hl];simp only[yR,h0,not_false_eq_true,if_true,if_false]
 obtain⟨hc,hw,hF⟩:=Q8d h0
 by_cases hG:GdW c w
 ·have hsh:=lcW_sh hc hw hF hG.1 hG.2;have hn:=hc.nums;have k2:=hsh.size2;have k4:=QK (arV c w) c.fr.length;have hi:=e_isosSh hsh (p:=tbW (arV c w) c.fr.length) (by omega) λj hj=>by
   rw[k4]at hj;rw[ix_tbW hj];have:=(e_ar hc hF hG.1 (L:=⟨wD c w,c,fmX c w c.n.toNat,smX c w c.n.toNat,[]⟩) rfl rfl hj).2.2;simp only[lcW,yZ];exact this
  have hln:=Q2q (tbW (arV c w) c.fr.length).length λi=>0≤inv (lcW c w (Ql c w c.n.toNat).length) (ix (tbW (arV c w) c.fr.length) i);refine⟨(flt (tbW (arV c w) c.fr.length).length λi=>0≤inv (lcW c w (Ql c w c.n.toNat).length) (ix (tbW (arV c w) c.fr.length) i),0),?_,?_,by simp only;omega,by simp only;omega⟩
  ·unfold Q1g;rw[e_makeS hc hl h0 hG];simp only[yR,not_true_eq_false,if_false];rw[e_funcS hc hF hG.1 k2.1];simp only[yR,fnW];rw[hi.1];rfl
  unfold Q1f Q1r;rw[Q9k hl,if_pos h0];simp only[yR];rw[show(⟨c,w,Q1E w c.fr.length w.length⟩:XD)=wD c w from rfl,e_locI hc hw hF hG];simp only[yR];show(QQ (⟨wD c w,lcW c w (Ql c w c.n.toNat).length,fmX c w c.n.toNat,smX c w c.n.toNat,ldX c w c.n.toNat⟩:XL)).bind _=_;rw[e_funcI hc hF hG.1 k2.1];simp only[yR,fnW];show(Q1l (lcW c w (Ql c w c.n.toNat).length) (tbW (arV c w) c.fr.length)).bind _=_;rw[hi.2];rfl
 refine⟨([],3),?_,?_,by simp,by simp⟩
 ·unfold Q1g;rw[e_makeS' hc hl h0 hG];simp[vBad]
 unfold Q1f Q1r;rw[Q9k hl,if_pos h0];simp only[yR];rw[show(⟨c,w,Q1E w c.fr.length w.length⟩:XD)=wD c w from rfl,e_locI' hc hG];simp
end
end Go.Vc.T
